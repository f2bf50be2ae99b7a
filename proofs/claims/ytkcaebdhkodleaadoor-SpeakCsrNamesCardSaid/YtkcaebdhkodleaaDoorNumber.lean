/- speak.number: what it makes of every text: its 64 bits, and whether it is a number; premises: the library's two errors stand as laid. -/
import Derived.Test.YtkcaebdhkodleaaDoorPu
import Derived.Lib.OthersKept
import Derived.Lib.RuneCount
import Derived.Deep.LoopGhost
import Derived.Laws.RangeAny
set_option linter.unusedVariables false
set_option linter.unusedSimpArgs false
namespace Go.Proofs.YtkcaebdhkodleaaDoor
open Go.RowKit Go.Lib Go.Shelf Go.Proofs.YtkcaebdhkodleaaDoorW.PrintWords

def isMinus (s : ByteArray) : Bool := Lib.hasPrefix s.data.toList [45]
def rest1 (s : ByteArray) : List UInt8 := Lib.trimPrefix s.data.toList [45]
def isHex (s : ByteArray) : Bool := Lib.hasPrefix (rest1 s) [48, 120]
def rest2 (s : ByteArray) : List UInt8 := Lib.trimPrefix (rest1 s) [48, 120]
def baseOf (s : ByteArray) : Nat := if isHex s then 16 else 10
def numS (s : ByteArray) : Int × Bool :=
  if (rest2 s).all (fun c => decide (hexV c < baseOf s)) = true then
    (match numOf (baseOf s) (rest2 s) with
    | none => (0, false)
    | some n => if isMinus s then (IntKind.u64.wrap (-(n : Int)), decide (n ≤ 9223372036854775808)) else ((n : Int), true))
  else (0, false)
theorem hexV_10 (c : UInt8) : hexV c < 10 ↔ (48 ≤ c.toNat ∧ c.toNat ≤ 57) := by
  unfold hexV
  split
  · omega
  · split
    · omega
    · split <;> omega
theorem hexV_16 (c : UInt8) : hexV c < 16 ↔ ((48 ≤ c.toNat ∧ c.toNat ≤ 57) ∨ (97 ≤ c.toNat ∧ c.toNat ≤ 102) ∨ (65 ≤ c.toNat ∧ c.toNat ≤ 70)) := by
  unfold hexV
  split
  · omega
  · split
    · omega
    · split <;> omega
/-- What the rune at a place tells of the byte there. -/
theorem rune_at (D : ByteArray) (pos : Nat) (h : pos < D.size) : ((D[pos]'h).toNat < 128 ∧ Utf8.decode D pos = ((D[pos]'h).toNat, 1)) ∨ (128 ≤ (D[pos]'h).toNat ∧ 128 ≤ (Utf8.decode D pos).1 ∧ 1 ≤ (Utf8.decode D pos).2) := by
  rcases Nat.lt_or_ge (D[pos]'h).toNat 128 with h1 | h1
  · exact .inl ⟨h1, decode_ascii D pos h h1⟩
  · exact .inr ⟨h1, decode_high D pos h h1⟩
theorem all_drop (D : ByteArray) (P : UInt8 → Bool) (pos : Nat) (h : pos < D.size) : (D.data.toList.drop pos).all P = (P (D[pos]'h) && (D.data.toList.drop (pos + 1)).all P) := by
  have hl : pos < D.data.toList.length := by rw [← Lib.size_eq]; exact h
  rw [List.drop_eq_getElem_cons hl]
  rfl
theorem rest2_none (s : ByteArray) (h : isHex s = false) : rest2 s = rest1 s := by
  unfold rest2 Lib.trimPrefix
  unfold isHex at h
  rw [h]
  rfl
theorem trim_len (l p : List UInt8) : (Lib.trimPrefix l p).length ≤ l.length := by
  unfold Lib.trimPrefix
  split <;> simp
set_option maxHeartbeats 16000000 in
set_option maxRecDepth 1000000 in
theorem number_calls (s : ByteArray) (hs : s.size ≤ 281474976710656) (w : World) (hS : ErrAt w 6) (hR : ErrAt w 7) :
    Calls Tryd.prog 22 #[.string s] w fun e w' => e = .returned (.tuple #[.int .u64 (numS s).1, .bool (numS s).2]) ∧ Below w.heap.size w w' := by
  -- the two cuts
  obtain ⟨D1, hD1⟩ : ∃ D1 : ByteArray, D1 = ⟨(rest1 s).toArray⟩ := ⟨_, rfl⟩
  obtain ⟨D, hD⟩ : ∃ D : ByteArray, D = ⟨(rest2 s).toArray⟩ := ⟨_, rfl⟩
  obtain ⟨mi, hmi⟩ : ∃ b, isMinus s = b := ⟨_, rfl⟩
  obtain ⟨hx, hhx⟩ : ∃ b, isHex s = b := ⟨_, rfl⟩
  have c1 : ∀ W, Calls Tryd.prog 30 #[.string s, .string ⟨#[45]⟩] W fun e w' => e = .returned (.tuple #[.string D1, .bool mi]) ∧ w' = W := fun W => by
    have := Any.strings_CutPrefix Tryd.laysCut s ⟨#[45]⟩ W
    rw [hD1, ← hmi]
    exact this
  have c2 : ∀ W, Calls Tryd.prog 30 #[.string D1, .string ⟨#[48, 120]⟩] W fun e w' => e = .returned (.tuple #[.string D, .bool hx]) ∧ w' = W := fun W => by
    have := Any.strings_CutPrefix Tryd.laysCut D1 ⟨#[48, 120]⟩ W
    rw [hD, ← hhx, hD1]
    rw [hD1] at this
    exact this
  have hDL : D.data.toList = rest2 s := by rw [hD]
  have hDs : D.size ≤ 281474976710656 := by
    have h1 := trim_len (rest1 s) [48, 120]
    have h2 := trim_len s.data.toList [45]
    have h3 : D.size = (rest2 s).length := by rw [hD]; simp [ByteArray.size]
    have h4 := Lib.size_eq s
    unfold rest2 rest1 at *
    omega
  have hD1D : hx = false → D1 = D := fun h => by rw [hD1, hD, rest2_none s (hhx.trans h)]
  -- the rest, for each base
  obtain ⟨B, hB⟩ : ∃ B, baseOf s = B := ⟨_, rfl⟩
  have hBx : (hx = false ∧ B = 10) ∨ (hx = true ∧ B = 16) := by
    rw [← hB, ← hhx]
    unfold baseOf
    cases isHex s <;> simp
  obtain ⟨ANS, hANS⟩ : ∃ A, numS s = A := ⟨_, rfl⟩
  rw [hANS]
  have hA2 : ANS = if D.data.toList.all (fun c => decide (hexV c < B)) = true then (match numOf B D.data.toList with
    | none => (0, false)
    | some n => if mi = true then (IntKind.u64.wrap (-(n : Int)), decide (n ≤ 9223372036854775808)) else ((n : Int), true)) else (0, false) := by
    rw [← hANS, hDL, ← hB, ← hmi]
    rfl
  clear hANS hD hD1 hmi hhx hDL hB
  have hB2 : B = 10 ∨ B = 16 := by omega
  have cP : D.data.toList.all (fun c => decide (hexV c < B)) = true → ∀ W, Below w.heap.size w W → Calls Tryd.prog 31 #[.string D, .int .i64 (B : Int), .int .i64 64] W fun e w' => PuEnd B D.data.toList e ∧ Below W.heap.size W w' := fun ha W hb =>
    pu B hB2 D hDs (fun c hc => of_decide_eq_true (List.all_eq_true.1 ha c hc)) W (hS.below hb) (hR.below hb)
  have HP := Lib.hid cP
  have HA := Lib.hid hA2
  clear hS hR cP hA2 hB2
  rcases hBx with ⟨rfl, rfl⟩ | ⟨rfl, rfl⟩
  · obtain rfl := hD1D rfl
    go_enter Tryd.func22, Tryd.ntmps22
    go_wp2_with (first | (go_at_call 30; refine (c1 _).mono ?_; rintro e w ⟨rfl, rfl⟩) | (go_at_call 30; refine (c2 _).mono ?_; rintro e w ⟨rfl, rfl⟩))
    go_loopg [] D1.size (fun gf wx => ∃ pos : Nat, wx.heap[w.heap.size]? = some (.stringIter D1 pos) ∧ Below w.heap.size w wx ∧ Hid ((D1.data.toList.drop pos).all (fun c => decide (hexV c < 10)) = D1.data.toList.all (fun c => decide (hexV c < 10))) ∧ pos ≤ D1.size ∧ D1.size ≤ pos + gf)
    case atStart => exact ⟨0, World.iter_heap w D1 0, (Below.refl _ w).alloc (Nat.le_refl _) _, Lib.hid rfl, Nat.zero_le _, by omega⟩
    case round =>
      obtain ⟨pos, hit, hbw, hleft, hps0, hfu⟩ := hrel
      by_cases hps : pos < D1.size
      · obtain ⟨g', rfl⟩ : ∃ g', gk = g' + 1 := ⟨gk - 1, by omega⟩
        have hnx : ∀ ty, (Instr.next (.pointer (some ⟨w.heap.size, 0, none⟩)) true ty).run Tryd.prog wr = _ := fun ty => Lib.run_next_any_at wr w.heap.size D1 pos ty hit hps
        have hru := rune_at D1 pos hps
        have hdr := all_drop D1 (fun c => decide (hexV c < 10)) pos hps
        have hVV : decide (hexV (D1[pos]'hps) < 10) = true ↔ (48 ≤ (D1[pos]'hps).toNat ∧ (D1[pos]'hps).toNat ≤ 57) := by rw [decide_eq_true_iff, hexV_10]
        have hRle := decode_le D1 pos
        obtain ⟨R, hR⟩ : ∃ R, (Utf8.decode D1 pos).1 = R := ⟨_, rfl⟩
        obtain ⟨K, hK⟩ : ∃ K, (Utf8.decode D1 pos).2 = K := ⟨_, rfl⟩
        rw [hR, hK] at hnx
        rw [hR] at hRle
        have hcR : ((D1[pos]'hps).toNat < 128 ∧ R = (D1[pos]'hps).toNat ∧ K = 1) ∨ (128 ≤ (D1[pos]'hps).toNat ∧ 128 ≤ R) := by
          rcases hru with ⟨h1, h2⟩ | ⟨h1, h2, _⟩
          · refine .inl ⟨h1, ?_, ?_⟩
            · rw [← hR, h2]
            · rw [← hK, h2]
          · exact .inr ⟨h1, by omega⟩
        generalize D1[pos]'hps = c at hdr hVV hcR
        have hit2 := Lib.iterAt_heap wr w.heap.size D1 pos (pos + K) hit
        have hbw2 := Lib.below_iterAt hbw (k := w.heap.size) (Nat.le_refl _) D1 (pos + K)
        obtain ⟨W, hWd⟩ : ∃ W, wr.iterAt w.heap.size D1 (pos + K) = W := ⟨_, rfl⟩
        rw [hWd] at hnx hit2 hbw2
        clear hru hR hK hit hbw hWd
        by_cases hok : 48 ≤ R ∧ R ≤ 57
        · have hK1 : K = 1 := by omega
          have hv : decide (hexV c < 10) = true := hVV.2 (by omega)
          rw [hv, Bool.true_and] at hdr
          have hl2 : Hid ((D1.data.toList.drop (pos + K)).all (fun c => decide (hexV c < 10)) = D1.data.toList.all (fun c => decide (hexV c < 10))) := Lib.hid (by rw [hK1]; exact hdr.symm.trans hleft.out)
          have hp2 : pos + K ≤ D1.size ∧ 1 ≤ K := by omega
          clear hv hVV hdr hcR hK1 hleft
          obtain ⟨h1, h2⟩ := hok
          go_wp2
          go_roundg g'
          case measure => omega
          case rel => exact ⟨_, hit2, hbw2, hl2, hp2.1, by have := hp2.2; omega⟩
        · have hv : decide (hexV c < 10) = false := by
            cases e : decide (hexV c < 10)
            · rfl
            · have := hVV.1 e
              omega
          have hall : D1.data.toList.all (fun c => decide (hexV c < 10)) = false := by rw [← hleft.out, hdr, hv]; rfl
          have ha := HA.out
          rw [hall] at ha
          simp only [Bool.false_eq_true, if_false] at ha
          clear hv hVV hdr hcR hleft hall HP HA
          subst ha
          obtain h1 | h1 : R < 48 ∨ 57 < R := by omega
          all_goals
            clear hok
            go_wp2
            go_ret2
            exact ⟨rfl, hbw2⟩
      · have hpe : pos = D1.size := by omega
        have hnx : ∀ ty, (Instr.next (.pointer (some ⟨w.heap.size, 0, none⟩)) true ty).run Tryd.prog wr = _ := fun ty => Lib.run_next_end_at wr w.heap.size D1 pos ty hit hps
        have hall : D1.data.toList.all (fun c => decide (hexV c < 10)) = true := by
          have hl : D1.data.toList.length ≤ pos := by rw [← Lib.size_eq]; omega
          rw [← hleft.out, List.drop_eq_nil_of_le hl]
          rfl
        have ha := HA.out
        rw [if_pos hall] at ha
        have cP := HP.out hall wr hbw
        unfold PuEnd at cP
        obtain ⟨M, hM⟩ : ∃ M, numOf 10 D1.data.toList = M := ⟨_, rfl⟩
        rw [hM] at cP ha
        clear hM hall HA HP hleft hpe hps0
        cases M with
        | none =>
          simp only at ha cP
          subst ha
          go_wp2_with (go_at_call 31; refine cP.mono ?_; rintro e w2 ⟨⟨x, T, v, rfl⟩, hb2⟩)
          go_ret2
          exact ⟨rfl, hbw.trans (hb2.mono hbw.size)⟩
        | some n =>
          cases mi with
          | false =>
            simp only [Bool.false_eq_true, if_false] at ha cP
            subst ha
            go_wp2_with (go_at_call 31; refine cP.mono ?_; rintro e w2 ⟨rfl, hb2⟩)
            go_ret2
            exact ⟨rfl, hbw.trans (hb2.mono hbw.size)⟩
          | true =>
            simp only [if_true] at ha cP
            have hdec : decide ((n : Int) ≤ 9223372036854775808) = decide (n ≤ 9223372036854775808) := by
              by_cases h : n ≤ 9223372036854775808
              · rw [decide_eq_true h, decide_eq_true (by omega)]
              · rw [decide_eq_false h, decide_eq_false (by omega)]
            have HD := Lib.hid hdec
            clear hdec
            subst ha
            go_wp2_with (go_at_call 31; refine cP.mono ?_; rintro e w2 ⟨rfl, hb2⟩)
            go_ret2
            refine ⟨?_, hbw.trans (hb2.mono hbw.size)⟩
            rw [← HD.out]
            rfl
  · clear hD1D
    go_enter Tryd.func22, Tryd.ntmps22
    go_wp2_with (first | (go_at_call 30; refine (c1 _).mono ?_; rintro e w ⟨rfl, rfl⟩) | (go_at_call 30; refine (c2 _).mono ?_; rintro e w ⟨rfl, rfl⟩))
    go_loopg [] D.size (fun gf wx => ∃ pos : Nat, wx.heap[w.heap.size]? = some (.stringIter D pos) ∧ Below w.heap.size w wx ∧ Hid ((D.data.toList.drop pos).all (fun c => decide (hexV c < 16)) = D.data.toList.all (fun c => decide (hexV c < 16))) ∧ pos ≤ D.size ∧ D.size ≤ pos + gf)
    case atStart => exact ⟨0, World.iter_heap w D 0, (Below.refl _ w).alloc (Nat.le_refl _) _, Lib.hid rfl, Nat.zero_le _, by omega⟩
    case round =>
      obtain ⟨pos, hit, hbw, hleft, hps0, hfu⟩ := hrel
      by_cases hps : pos < D.size
      · obtain ⟨g', rfl⟩ : ∃ g', gk = g' + 1 := ⟨gk - 1, by omega⟩
        have hnx : ∀ ty, (Instr.next (.pointer (some ⟨w.heap.size, 0, none⟩)) true ty).run Tryd.prog wr = _ := fun ty => Lib.run_next_any_at wr w.heap.size D pos ty hit hps
        have hru := rune_at D pos hps
        have hdr := all_drop D (fun c => decide (hexV c < 16)) pos hps
        have hVV : decide (hexV (D[pos]'hps) < 16) = true ↔ ((48 ≤ (D[pos]'hps).toNat ∧ (D[pos]'hps).toNat ≤ 57) ∨ (97 ≤ (D[pos]'hps).toNat ∧ (D[pos]'hps).toNat ≤ 102) ∨ (65 ≤ (D[pos]'hps).toNat ∧ (D[pos]'hps).toNat ≤ 70)) := by rw [decide_eq_true_iff, hexV_16]
        have hRle := decode_le D pos
        obtain ⟨R, hR⟩ : ∃ R, (Utf8.decode D pos).1 = R := ⟨_, rfl⟩
        obtain ⟨K, hK⟩ : ∃ K, (Utf8.decode D pos).2 = K := ⟨_, rfl⟩
        rw [hR, hK] at hnx
        rw [hR] at hRle
        have hcR : ((D[pos]'hps).toNat < 128 ∧ R = (D[pos]'hps).toNat ∧ K = 1) ∨ (128 ≤ (D[pos]'hps).toNat ∧ 128 ≤ R) := by
          rcases hru with ⟨h1, h2⟩ | ⟨h1, h2, _⟩
          · refine .inl ⟨h1, ?_, ?_⟩
            · rw [← hR, h2]
            · rw [← hK, h2]
          · exact .inr ⟨h1, by omega⟩
        generalize D[pos]'hps = c at hdr hVV hcR
        have hit2 := Lib.iterAt_heap wr w.heap.size D pos (pos + K) hit
        have hbw2 := Lib.below_iterAt hbw (k := w.heap.size) (Nat.le_refl _) D (pos + K)
        obtain ⟨W, hWd⟩ : ∃ W, wr.iterAt w.heap.size D (pos + K) = W := ⟨_, rfl⟩
        rw [hWd] at hnx hit2 hbw2
        clear hru hR hK hit hbw hWd
        by_cases hok : (48 ≤ R ∧ R ≤ 57) ∨ (97 ≤ R ∧ R ≤ 102) ∨ (65 ≤ R ∧ R ≤ 70)
        · have hK1 : K = 1 := by omega
          have hv : decide (hexV c < 16) = true := hVV.2 (by omega)
          rw [hv, Bool.true_and] at hdr
          have hl2 : Hid ((D.data.toList.drop (pos + K)).all (fun c => decide (hexV c < 16)) = D.data.toList.all (fun c => decide (hexV c < 16))) := Lib.hid (by rw [hK1]; exact hdr.symm.trans hleft.out)
          have hp2 : pos + K ≤ D.size ∧ 1 ≤ K := by omega
          clear hv hVV hdr hcR hK1 hleft
          obtain ⟨h1, h2⟩ | ⟨h1, h2⟩ | ⟨h1, h2⟩ := hok
          all_goals
            go_wp2
            go_roundg g'
            case measure => omega
            case rel => exact ⟨_, hit2, hbw2, hl2, hp2.1, by have := hp2.2; omega⟩
        · have hv : decide (hexV c < 16) = false := by
            cases e : decide (hexV c < 16)
            · rfl
            · have := hVV.1 e
              omega
          have hall : D.data.toList.all (fun c => decide (hexV c < 16)) = false := by rw [← hleft.out, hdr, hv]; rfl
          have ha := HA.out
          rw [hall] at ha
          simp only [Bool.false_eq_true, if_false] at ha
          clear hv hVV hdr hcR hleft hall HP HA
          subst ha
          obtain h1 | ⟨h0, h1⟩ | ⟨h0, h1⟩ | h1 : R < 48 ∨ (57 < R ∧ R < 65) ∨ (70 < R ∧ R < 97) ∨ 102 < R := by omega
          all_goals
            clear hok
            go_wp2
            go_ret2
            exact ⟨rfl, hbw2⟩
      · have hpe : pos = D.size := by omega
        have hnx : ∀ ty, (Instr.next (.pointer (some ⟨w.heap.size, 0, none⟩)) true ty).run Tryd.prog wr = _ := fun ty => Lib.run_next_end_at wr w.heap.size D pos ty hit hps
        have hall : D.data.toList.all (fun c => decide (hexV c < 16)) = true := by
          have hl : D.data.toList.length ≤ pos := by rw [← Lib.size_eq]; omega
          rw [← hleft.out, List.drop_eq_nil_of_le hl]
          rfl
        have ha := HA.out
        rw [if_pos hall] at ha
        have cP := HP.out hall wr hbw
        unfold PuEnd at cP
        obtain ⟨M, hM⟩ : ∃ M, numOf 16 D.data.toList = M := ⟨_, rfl⟩
        rw [hM] at cP ha
        clear hM hall HA HP hleft hpe hps0
        cases M with
        | none =>
          simp only at ha cP
          subst ha
          go_wp2_with (go_at_call 31; refine cP.mono ?_; rintro e w2 ⟨⟨x, T, v, rfl⟩, hb2⟩)
          go_ret2
          exact ⟨rfl, hbw.trans (hb2.mono hbw.size)⟩
        | some n =>
          cases mi with
          | false =>
            simp only [Bool.false_eq_true, if_false] at ha cP
            subst ha
            go_wp2_with (go_at_call 31; refine cP.mono ?_; rintro e w2 ⟨rfl, hb2⟩)
            go_ret2
            exact ⟨rfl, hbw.trans (hb2.mono hbw.size)⟩
          | true =>
            simp only [if_true] at ha cP
            have hdec : decide ((n : Int) ≤ 9223372036854775808) = decide (n ≤ 9223372036854775808) := by
              by_cases h : n ≤ 9223372036854775808
              · rw [decide_eq_true h, decide_eq_true (by omega)]
              · rw [decide_eq_false h, decide_eq_false (by omega)]
            have HD := Lib.hid hdec
            clear hdec
            subst ha
            go_wp2_with (go_at_call 31; refine cP.mono ?_; rintro e w2 ⟨rfl, hb2⟩)
            go_ret2
            refine ⟨?_, hbw.trans (hb2.mono hbw.size)⟩
            rw [← HD.out]
            rfl
end Go.Proofs.YtkcaebdhkodleaaDoor
