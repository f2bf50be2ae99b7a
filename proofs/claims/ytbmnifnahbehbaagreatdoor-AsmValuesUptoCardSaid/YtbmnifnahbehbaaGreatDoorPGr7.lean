/- asm.cut: a line's tokens. -/
import Derived.Test.YtbmnifnahbehbaaGreatDoorPGr3
import Derived.Test.YtbmnifnahbehbaaGreatDoorPGr4
import Derived.Test.YtbmnifnahbehbaaGreatDoorPGr5
import Derived.Test.YtbmnifnahbehbaaGreatDoorPGr6
set_option linter.unusedVariables false
set_option linter.unusedSimpArgs false
namespace Go.Proofs.YtbmnifnahbehbaaGreatDoor
open Go.RowKit Go.Lib Go.Proofs.YtbmnifnahbehbaaGreatDoorW.PrintWords Go.Proofs.YtbmnifnahbehbaaGreatDoorW.PrintMore Go.Proofs.YtbmnifnahbehbaaGreatDoorW.PrintLast
open AvP
def marksB : ByteArray := ⟨#[40, 41, 44, 58, 43, 45, 42, 47, 37, 38, 124, 94, 126]⟩
def mkJ (c : Nat) : Int := Lib.indexByte marksB.data.toList c.toUInt8
/-- The token at i (no blank, no #), or its fault. -/
def nextS (s : ByteArray) (i : Nat) : Except (Int × Int) Tok :=
  if 48 ≤ by_ s i ∧ by_ s i ≤ 57 then numS s i
  else if by_ s i = 39 ∨ by_ s i = 34 then (match quotedS s i (by_ s i) with | none => .error ((i : Int), 80) | some t => .ok t)
  else if 0 ≤ mkJ (by_ s i) then .ok ⟨6, (i : Int), ((i + 1 : Nat) : Int), s.extract i (i + 1), 0, false⟩
  else if hpB (s.extract i s.size) ⟨#[60, 60]⟩ = true ∨ hpB (s.extract i s.size) ⟨#[62, 62]⟩ = true then .ok ⟨6, (i : Int), ((i + 2 : Nat) : Int), s.extract i (i + 2), 0, false⟩
  else nameS s i
/-- The line's tokens, or the first fault. -/
def cutS (s : ByteArray) : Nat → Nat → List Tok → Except (Int × Int) (List Tok)
  | 0, _, l => .ok l
  | f + 1, i, l => if i < s.size then (if by_ s i = 32 ∨ by_ s i = 9 ∨ by_ s i = 13 then cutS s f (i + 1) l else if by_ s i = 35 then .ok l else match nextS s i with | .error e => .error e | .ok t => cutS s f t.e.toNat (l ++ [t])) else .ok l
theorem numS_lt {s : ByteArray} {i : Nat} {t : Tok} (hi : i < s.size) (hd : wordN (by_ s i) = true) (h : numS s i = .ok t) : i < t.e.toNat ∧ t.e.toNat ≤ s.size := by
  have h1 : 1 ≤ wl (s.data.toList.drop i) := by rw [wl_step s i hi, if_pos hd]; omega
  have h2 := wl_le (s.data.toList.drop i)
  rw [List.length_drop, ← Lib.size_eq] at h2
  unfold numS at h
  dsimp only at h
  split at h
  · cases h
  · cases h
    dsimp only
    omega
theorem qLoop_le (s : ByteArray) (q : Nat) : ∀ (f a k : Nat) (v : Int) (x : ByteArray) (r : Nat × Nat × Int × ByteArray), a ≤ s.size → qLoop s q f a k v x = some r → a ≤ r.1 ∧ r.1 ≤ s.size
  | 0, a, k, v, x, r, ha, h => by cases h
  | f + 1, a, k, v, x, r, ha, h => by
    rw [qLoop] at h
    split at h
    · rename_i hc
      cases hI : itemS s a (q : Int) with
      | none => rw [hI] at h; cases h
      | some y =>
        obtain ⟨b, v', n⟩ := y
        rw [hI] at h
        have h1 := itemS_lt s a _ hc.1 hI
        have := qLoop_le s q f n _ _ _ r h1.2.1 h
        omega
    · cases h
      exact ⟨Nat.le_refl _, ha⟩
theorem quotedS_lt {s : ByteArray} {i q : Nat} {t : Tok} (hi : i < s.size) (h : quotedS s i q = some t) : i < t.e.toNat ∧ t.e.toNat ≤ s.size := by
  unfold quotedS at h
  cases hq : qLoop s q (s.size + 1) (i + 1) 0 0 ⟨#[]⟩ with
  | none => rw [hq] at h; cases h
  | some r =>
    obtain ⟨a, k, v, x⟩ := r
    rw [hq] at h
    have := qLoop_le s q _ _ _ _ _ _ (by omega) hq
    dsimp only at h this
    split at h
    · cases h
    · rename_i hc
      cases h
      dsimp only
      omega
theorem nameGo_le (s : ByteArray) (i : Nat) : ∀ (f j r : Nat), j ≤ s.size → j ≤ (nameGo s i f j r).1 ∧ (nameGo s i f j r).1 ≤ s.size
  | 0, j, r, h => ⟨Nat.le_refl _, h⟩
  | f + 1, j, r, h => by
    rw [nameGo]
    split
    · rename_i hj
      split
      · have := dec_w s j hj
        have := nameGo_le s i f (j + (Utf8.decode s j).2) (r + 1) this.2
        omega
      · exact ⟨Nat.le_refl _, h⟩
    · exact ⟨Nat.le_refl _, h⟩
theorem nameS_lt {s : ByteArray} {i : Nat} {t : Tok} (hi : i < s.size) (h : nameS s i = .ok t) : i < t.e.toNat ∧ t.e.toNat ≤ s.size := by
  have := nameGo_le s i (s.size + 1) i 0 (by omega)
  unfold nameS at h
  dsimp only at h
  split at h
  · cases h
  · split at h
    · cases h
    · cases h
      dsimp only
      omega
/-- What cut answers. -/
def CutEnd (w : World) (g : Nat) (r : Except (Int × Int) (List Tok)) (E : Ending) (w' : World) : Prop :=
  match r with
  | .ok l => ∃ A cp, E = .returned (.tuple #[.slice A l.length cp, .pointer none]) ∧ Kd.C k49 w' A l.length l ∧ Below w.heap.size w w'
  | .error (a, y) => ∃ v, E = .returned (.tuple #[.slice none 0 0, v]) ∧ FaultIs w' g v a y ∧ Below w.heap.size w w'
set_option maxHeartbeats 8000000 in
set_option maxRecDepth 100000 in
theorem cut_c (s : ByteArray) (w : World) (hG : Glob w) (hs : s.size ≤ 99999) : Calls Tryz.prog 9 #[.string s] w (CutEnd w w.heap.size (cutS s (s.size + 1) 0 [])) := by
  obtain ⟨R, hR⟩ : ∃ R, cutS s (s.size + 1) 0 [] = R := ⟨_, rfl⟩
  rw [hR]
  have HR := Lib.hid hR
  have h1 : CSt w w.heap.size s 0 [] (w.alloc (.cells #[.string s, .int .i64 0, .slice none 0 0] 75)) := ⟨(Below.refl _ w).alloc (Nat.le_refl _) _, Nat.le_refl _, none, 0, blk_new w _, Kd.R_nil _ _ _ _ _⟩
  obtain ⟨w1, hw1⟩ : ∃ q, w.alloc (.cells #[.string s, .int .i64 0, .slice none 0 0] 75) = q := ⟨_, rfl⟩
  rw [hw1] at h1
  have H1 := Lib.hid h1
  have HH := Lib.hid (And.intro hG hs)
  obtain ⟨g, hg⟩ : ∃ g, w.heap.size = g := ⟨_, rfl⟩
  rw [hg] at H1
  have HW1 := Lib.hid hw1
  clear hR h1 hG hw1
  go_enter Tryz.func9, Tryz.ntmps9
  go_upto_region 2 with (fail)
  rw [HW1.out]
  rw [show CutEnd w w.heap.size R = CutEnd w g R by rw [hg]]
  clear hg
  go_loopg [] (s.size + 1) (fun gm wx => ∃ (i : Nat) (l : List Tok), i ≤ s.size ∧ l.length ≤ i ∧ Hid (s.size + 1 ≤ gm + i) ∧ Hid (CSt w g s i l wx) ∧ Hid (cutS s gm i l = R))
  case atStart => exact ⟨0, [], Nat.zero_le _, Nat.le_refl _, Lib.hid (by omega), H1, HR⟩
  case round =>
    obtain ⟨i, l, hi, hl, HI, HX, HC⟩ := hrel
    obtain ⟨gm, rfl⟩ : ∃ z, gk = z + 1 := ⟨gk - 1, by have := HI.out; omega⟩
    have hC := HC.out
    rw [cutS] at hC
    have c1 := HX.out.c1
    by_cases his : i < s.size
    · rw [if_pos his] at hC
      have hbt := by_at s i his
      have hnxt : nextS s i = nextS s i := rfl
      unfold nextS at hC hnxt
      obtain ⟨c, hc⟩ : ∃ c, by_ s i = c := ⟨_, rfl⟩
      have hc256 : c < 256 := by rw [← hc, ← hbt]; exact UInt8.toNat_lt _
      have hnum : 48 ≤ c ∧ c ≤ 57 → Calls Tryz.prog 18 #[.pointer (some ⟨g, 0, none⟩)] wr (PartEnd w g s l (numS s i)) := fun hd => number_c HX.out HH.out.1 his (by have := HH.out.2; omega) (by have := HH.out.2; omega) (by rw [hc]; unfold wordN; simp only [Bool.or_eq_true, decide_eq_true_iff]; omega)
      have hnumlt : 48 ≤ c ∧ c ≤ 57 → ∀ t, numS s i = .ok t → i < t.e.toNat ∧ t.e.toNat ≤ s.size := fun hd t => numS_lt his (by rw [hc]; unfold wordN; simp only [Bool.or_eq_true, decide_eq_true_iff]; omega)
      rw [hc] at hC hbt
      have hbz : ((s[i]'his).toNat : Int) = (c : Int) := by rw [hbt]
      have q1 : (i : Int) < (s.size : Int) := by omega
      have e1 : IntKind.i64.wrap ((i : Int) + 1) = ((i + 1 : Nat) : Int) := by rw [IntKind.wrap_i64]; have := HH.out.2; omega
      have q0 : (0 : Int) ≤ (i : Int) := by omega
      clear hc hbt hnxt
      by_cases hbl : c = 32 ∨ c = 9 ∨ c = 13
      · rw [if_pos hbl] at hC
        have HC2 := Lib.hid hC
        have hs1 := HX.out.set1 (i + 1)
        have f1 := HX.out.f1
        have HS1 := Lib.hid hs1
        have hcs : ((c : Int) == 32) = true ∨ ((c : Int) == 32) = false ∧ ((c : Int) == 9) = true ∨ ((c : Int) == 32) = false ∧ ((c : Int) == 9) = false ∧ ((c : Int) == 13) = true := by
          simp only [beq_iff_eq, beq_eq_false_iff_ne, ne_eq]; omega
        clear hC hs1 hbl hnum hnumlt
        rcases hcs with h1 | ⟨h1, h2⟩ | ⟨h1, h2, h3⟩
        all_goals
          go_wp2
          go_roundg gm
          case measure => omega
          case rel => exact ⟨i + 1, l, by omega, by omega, Lib.hid (by have := HI.out; omega), HS1, HC2⟩
      · rw [if_neg hbl] at hC
        by_cases h35 : c = 35
        · subst h35
          rw [if_pos rfl] at hC
          have HRR := Lib.hid hC
          obtain ⟨A, cp, hx, hr⟩ := HX.out.x
          have c2 : wr.cell? ⟨g, 2, none⟩ = some (.slice A l.length cp) := blk_cell hx 2
          have HRD := Lib.hid (Kd.R_reads' hr)
          clear hC hx hr hbl hnum hnumlt
          go_wp2
          go_ret2
          rw [← HRR.out]
          exact ⟨A, cp, rfl, HRD.out.2.2, HX.out.b⟩
        · rw [if_neg h35] at hC
          have e32 : ((c : Int) == 32) = false := by rw [beq_eq_false_iff_ne]; omega
          have e9 : ((c : Int) == 9) = false := by rw [beq_eq_false_iff_ne]; omega
          have e13 : ((c : Int) == 13) = false := by rw [beq_eq_false_iff_ne]; omega
          have e35 : ((c : Int) == 35) = false := by rw [beq_eq_false_iff_ne]; omega
          by_cases hd : 48 ≤ c ∧ c ≤ 57
          · rw [if_pos hd] at hC
            have hpart := hnum hd
            have hltf := hnumlt hd
            obtain ⟨d48, d57⟩ := hd
            obtain ⟨NX, hNX⟩ : ∃ q, numS s i = q := ⟨_, rfl⟩
            rw [hNX] at hpart hltf hC
            clear hNX hnum hnumlt hbl h35
            cases hnx : NX with
            | error e =>
              obtain ⟨ea, ey⟩ := e
              rw [hnx] at hpart hC
              have HPA := Lib.hid hpart
              have HRR := Lib.hid hC
              clear hpart hC hnx
              go_wp2_with (first
                | fail
                | (go_at_call 18; refine HPA.out.mono ?_; rintro E w5 ⟨v, rfl, ⟨fb, rfl, hf1, hf2⟩, hb⟩; have HF := Lib.hid (And.intro hf1 (And.intro hf2 hb)); clear hf1 hf2 hb))
              go_ret2
              rw [← HRR.out]
              exact ⟨_, rfl, ⟨fb, rfl, HF.out.1, HF.out.2.1⟩, HF.out.2.2⟩
            | ok t =>
              rw [hnx] at hpart hC
              have hlt := hltf t hnx
              have HPA := Lib.hid hpart
              have HC2 := Lib.hid hC
              clear hpart hC hnx
              go_wp2_with (first
                | fail
                | (go_at_call 18; refine HPA.out.mono ?_; rintro E w5 ⟨rfl, hc⟩; have HX5 := Lib.hid hc; clear hc))
              go_roundg gm
              case measure => omega
              case rel => exact ⟨t.e.toNat, l ++ [t], hlt.2, by rw [List.length_append]; simp; omega, Lib.hid (by have := HI.out; omega), HX5, HC2⟩
          · rw [if_neg hd] at hC
            have hnd : c < 48 ∨ 57 < c := by omega
            clear hnum hnumlt
            by_cases hq : c = 39 ∨ c = 34
            · rw [if_pos hq] at hC
              have hpart := quoted_c HX.out HH.out.1 his (by have := HH.out.2; omega) (by have := HH.out.2; omega) hq
              have hlt0 : ∀ t, quotedS s i c = some t → i < t.e.toNat ∧ t.e.toNat ≤ s.size := fun t => quotedS_lt his
              have hcs : ((c : Int) == 39) = true ∨ ((c : Int) == 39) = false ∧ ((c : Int) == 34) = true := by simp only [beq_iff_eq, beq_eq_false_iff_ne, ne_eq]; omega
              have k48 : (c : Int) < 48 := by omega
              obtain ⟨NX, hNX⟩ : ∃ q, quotedS s i c = q := ⟨_, rfl⟩
              rw [hNX] at hpart hlt0 hC
              clear hNX hbl h35 hd hnd hq
              match NX, hpart, hlt0, hC with
              | none, hpart, hlt0, hC =>
                have HPA := Lib.hid hpart
                have HRR := Lib.hid hC
                clear hpart hC hlt0
                rcases hcs with hq1 | ⟨hq1, hq2⟩
                all_goals
                  go_wp2_with (first
                    | (go_at_call 19; refine HPA.out.mono ?_; rintro E w5 ⟨v, rfl, ⟨fb, rfl, hf1, hf2⟩, hb⟩; have HF := Lib.hid (And.intro hf1 (And.intro hf2 hb)); clear hf1 hf2 hb))
                  go_ret2
                  rw [← HRR.out]
                  exact ⟨_, rfl, ⟨fb, rfl, HF.out.1, HF.out.2.1⟩, HF.out.2.2⟩
              | some t, hpart, hlt0, hC =>
                have hlt := hlt0 t rfl
                have HPA := Lib.hid hpart
                have HC2 := Lib.hid hC
                clear hpart hC hlt0
                rcases hcs with hq1 | ⟨hq1, hq2⟩
                all_goals
                  go_wp2_with (first
                    | (go_at_call 19; refine HPA.out.mono ?_; rintro E w5 ⟨rfl, hc⟩; have HX5 := Lib.hid hc; clear hc))
                  go_roundg gm
                  case measure => omega
                  case rel => exact ⟨t.e.toNat, l ++ [t], hlt.2, by rw [List.length_append]; simp; omega, Lib.hid (by have := HI.out; omega), HX5, HC2⟩
            · rw [if_neg hq] at hC
              have e39 : ((c : Int) == 39) = false := by rw [beq_eq_false_iff_ne]; omega
              have e34 : ((c : Int) == 34) = false := by rw [beq_eq_false_iff_ne]; omega
              have hjc : ∀ w', Calls Tryz.prog 20 #[.string marksB, .int .u8 (c : Int)] w' fun e w'' => e = .returned (.int .i64 (mkJ c)) ∧ w'' = w' := fun w' => idx_c marksB (c : Int) w'
              obtain ⟨J, hJ⟩ : ∃ J, mkJ c = J := ⟨_, rfl⟩
              rw [hJ] at hjc hC
              have HJC := Lib.hid hjc
              clear hjc hJ hbl h35 hd hq
              by_cases hj : 0 ≤ J
              · rw [if_pos hj] at hC
                dsimp only at hC
                have hpu := push_c (k := 6) (n := 1) HX.out (by omega) (by have := HH.out.2; omega) (by have := HH.out.2; omega)
                have HPU := Lib.hid hpu
                have HC2 := Lib.hid hC
                have hle : i + 1 ≤ s.size := by omega
                clear hC hpu
                rcases hnd with hnd | hnd
                all_goals
                  try have k48 : (48 : Int) ≤ (c : Int) := by omega
                  try have z57 : decide ((c : Int) ≤ 57) = false := by (rw [decide_eq_false_iff_not]; omega)
                  go_wp2_with (first
                    | (go_at_call 20; refine (HJC.out _).mono ?_; rintro E w' ⟨rfl, rfl⟩)
                    | (go_at_call 21; refine HPU.out.mono ?_; rintro E w5 ⟨rfl, hc⟩; have HX5 := Lib.hid hc; clear hc))
                  go_roundg gm
                  case measure => omega
                  case rel => exact ⟨i + 1, _, hle, by rw [List.length_append]; simp; omega, Lib.hid (by have := HI.out; omega), HX5, Lib.hid (by rw [← HC2.out]; rfl)⟩
              · rw [if_neg hj] at hC
                have hj2 : J < 0 := by omega
                obtain ⟨T, hT⟩ : ∃ T, s.extract i s.size = T := ⟨_, rfl⟩
                have hTs : T.size = s.size - i := by rw [← hT, ByteArray.size_extract]; omega
                have ha0 := fun w' => hp_c T ⟨#[60, 60]⟩ w' (by have := HH.out.2; omega) (by decide)
                have ha1 := fun w' => hp_c T ⟨#[62, 62]⟩ w' (by have := HH.out.2; omega) (by decide)
                have ki : i ≤ s.size := by omega
                rw [hT] at hC
                have h2 : hpB T ⟨#[60, 60]⟩ = true ∨ hpB T ⟨#[62, 62]⟩ = true → i + 2 ≤ s.size := by
                  intro h
                  unfold hpB at h
                  simp only [Bool.and_eq_true, decide_eq_true_iff] at h
                  rcases h with ⟨h, _⟩ | ⟨h, _⟩ <;> (have h' : 2 ≤ T.size := h; omega)
                clear hj
                cases hp0 : hpB T ⟨#[60, 60]⟩ with
                | true =>
                  rw [hp0] at ha0
                  rw [if_pos (.inl hp0)] at hC
                  have h2' := h2 (.inl hp0)
                  have HA0 := Lib.hid ha0
                  have HA1 := Lib.hid ha1
                  dsimp only at hC
                  clear ha0 ha1 hp0 h2
                  have hpu := push_c (k := 6) (n := 2) HX.out (by omega) (by have := HH.out.2; omega) (by have := HH.out.2; omega)
                  have HPU := Lib.hid hpu
                  have HC2 := Lib.hid hC
                  have hle : i + 2 ≤ s.size := by omega
                  clear hC hpu
                  rcases hnd with hnd | hnd
                  all_goals
                    try have k48 : (48 : Int) ≤ (c : Int) := by omega
                    try have z57 : decide ((c : Int) ≤ 57) = false := by (rw [decide_eq_false_iff_not]; omega)
                    go_wp2_with (first
                      | (go_at_call 20; refine (HJC.out _).mono ?_; rintro E w' ⟨rfl, rfl⟩)
                      | (go_at_call 22; refine (HA0.out _).mono ?_; rintro E w' ⟨rfl, rfl⟩)
                      | (go_at_call 22; refine (HA1.out _).mono ?_; rintro E w' ⟨rfl, rfl⟩)
                      | (go_at_call 21; refine HPU.out.mono ?_; rintro E w5 ⟨rfl, hc⟩; have HX5 := Lib.hid hc; clear hc))
                    go_roundg gm
                    case measure => omega
                    case rel => exact ⟨i + 2, _, hle, by rw [List.length_append]; simp; omega, Lib.hid (by have := HI.out; omega), HX5, Lib.hid (by rw [← HC2.out]; rfl)⟩
                | false =>
                  rw [hp0] at ha0
                  cases hp1 : hpB T ⟨#[62, 62]⟩ with
                  | true =>
                    rw [hp1] at ha1
                    rw [if_pos (.inr hp1)] at hC
                    have h2' := h2 (.inr hp1)
                    have HA0 := Lib.hid ha0
                    have HA1 := Lib.hid ha1
                    dsimp only at hC
                    clear ha0 ha1 hp0 hp1 h2
                    have hpu := push_c (k := 6) (n := 2) HX.out (by omega) (by have := HH.out.2; omega) (by have := HH.out.2; omega)
                    have HPU := Lib.hid hpu
                    have HC2 := Lib.hid hC
                    have hle : i + 2 ≤ s.size := by omega
                    clear hC hpu
                    rcases hnd with hnd | hnd
                    all_goals
                      try have k48 : (48 : Int) ≤ (c : Int) := by omega
                      try have z57 : decide ((c : Int) ≤ 57) = false := by (rw [decide_eq_false_iff_not]; omega)
                      go_wp2_with (first
                        | (go_at_call 20; refine (HJC.out _).mono ?_; rintro E w' ⟨rfl, rfl⟩)
                        | (go_at_call 22; refine (HA0.out _).mono ?_; rintro E w' ⟨rfl, rfl⟩)
                        | (go_at_call 22; refine (HA1.out _).mono ?_; rintro E w' ⟨rfl, rfl⟩)
                        | (go_at_call 21; refine HPU.out.mono ?_; rintro E w5 ⟨rfl, hc⟩; have HX5 := Lib.hid hc; clear hc))
                      go_roundg gm
                      case measure => omega
                      case rel => exact ⟨i + 2, _, hle, by rw [List.length_append]; simp; omega, Lib.hid (by have := HI.out; omega), HX5, Lib.hid (by rw [← HC2.out]; rfl)⟩
                  | false =>
                    rw [hp1] at ha1
                    rw [if_neg (by rw [hp0, hp1]; decide)] at hC
                    have HA0 := Lib.hid ha0
                    have HA1 := Lib.hid ha1
                    have hpart := name_c HX.out HH.out.1 his (by have := HH.out.2; omega) (by have := HH.out.2; omega)
                    have hltf : ∀ t, nameS s i = .ok t → i < t.e.toNat ∧ t.e.toNat ≤ s.size := fun t => nameS_lt his
                    obtain ⟨NX, hNX⟩ : ∃ q, nameS s i = q := ⟨_, rfl⟩
                    rw [hNX] at hpart hltf hC
                    clear ha0 ha1 hp0 hp1 h2 hNX
                    rcases hnd with hnd | hnd
                    all_goals
                      try have k48 : (48 : Int) ≤ (c : Int) := by omega
                      try have z57 : decide ((c : Int) ≤ 57) = false := by (rw [decide_eq_false_iff_not]; omega)
                      cases hnx : NX with
                      | error e =>
                        obtain ⟨ea, ey⟩ := e
                        rw [hnx] at hpart hC
                        have HPA := Lib.hid hpart
                        have HRR := Lib.hid hC
                        clear hpart hC hnx
                        go_wp2_with (first
                          | (go_at_call 20; refine (HJC.out _).mono ?_; rintro E w' ⟨rfl, rfl⟩)
                          | (go_at_call 22; refine (HA0.out _).mono ?_; rintro E w' ⟨rfl, rfl⟩)
                          | (go_at_call 22; refine (HA1.out _).mono ?_; rintro E w' ⟨rfl, rfl⟩)
                          | (go_at_call 23; refine HPA.out.mono ?_; rintro E w5 ⟨v, rfl, ⟨fb, rfl, hf1, hf2⟩, hb⟩; have HF := Lib.hid (And.intro hf1 (And.intro hf2 hb)); clear hf1 hf2 hb))
                        go_ret2
                        rw [← HRR.out]
                        exact ⟨_, rfl, ⟨fb, rfl, HF.out.1, HF.out.2.1⟩, HF.out.2.2⟩
                      | ok t =>
                        rw [hnx] at hpart hC
                        have hlt := hltf t hnx
                        have HPA := Lib.hid hpart
                        have HC2 := Lib.hid hC
                        clear hpart hC hnx
                        go_wp2_with (first
                          | (go_at_call 20; refine (HJC.out _).mono ?_; rintro E w' ⟨rfl, rfl⟩)
                          | (go_at_call 22; refine (HA0.out _).mono ?_; rintro E w' ⟨rfl, rfl⟩)
                          | (go_at_call 22; refine (HA1.out _).mono ?_; rintro E w' ⟨rfl, rfl⟩)
                          | (go_at_call 23; refine HPA.out.mono ?_; rintro E w5 ⟨rfl, hc⟩; have HX5 := Lib.hid hc; clear hc))
                        go_roundg gm
                        case measure => omega
                        case rel => exact ⟨t.e.toNat, l ++ [t], hlt.2, by rw [List.length_append]; simp; omega, Lib.hid (by have := HI.out; omega), HX5, HC2⟩
    · rw [if_neg his] at hC
      have HRR := Lib.hid hC
      have q1 : ((i : Int) < (s.size : Int)) = False := eq_false (by omega)
      have q2 : (i < s.size) = False := eq_false his
      obtain ⟨A, cp, hx, hr⟩ := HX.out.x
      have c2 : wr.cell? ⟨g, 2, none⟩ = some (.slice A l.length cp) := blk_cell hx 2
      have HRD := Lib.hid (Kd.R_reads' hr)
      clear hC hx hr his
      go_wp2
      go_ret2
      rw [← HRR.out]
      exact ⟨A, cp, rfl, HRD.out.2.2, HX.out.b⟩

end Go.Proofs.YtbmnifnahbehbaaGreatDoor

/- The document's Scope.value of a tree. -/
set_option linter.unusedVariables false
set_option linter.unusedSimpArgs false
namespace Go.Proofs.YtbmnifnahbehbaaGreatDoor
open Go.RowKit Go.Lib Go.Proofs.YtbmnifnahbehbaaGreatDoorW.PrintWords Go.Proofs.YtbmnifnahbehbaaGreatDoorW.PrintMore Go.Proofs.YtbmnifnahbehbaaGreatDoorW.PrintLast
open AvP
/-- The leaves are names, numbers, references, characters. -/
def Lk : Ex → Prop
  | .leaf t => t.k = 0 ∨ t.k = 1 ∨ t.k = 2 ∨ t.k = 4
  | .un _ e => Lk e
  | .bin _ l r => Lk l ∧ Lk r
theorem kmap_lk (k : Int) (h : kmap k = 0 ∨ kmap k = 1 ∨ kmap k = 2 ∨ kmap k = 4) : k = 1 ∨ k = 2 ∨ k = 3 ∨ k = 4 := by
  unfold kmap at h
  repeat' split at h
  all_goals omega
theorem dtree_ptr {W : World} {g : Nat} {e : Ex} {v : Value} (h : DTree W g e v) : ∃ a, v = .pointer (some a) := by
  cases e with
  | leaf t => obtain ⟨x, b, _, h, _⟩ := h; exact ⟨_, h⟩
  | un t e => obtain ⟨x, b, _, _, h, _⟩ := h; exact ⟨_, h⟩
  | bin t l r => obtain ⟨x, b, _, _, _, h, _⟩ := h; exact ⟨_, h⟩
theorem DTree.below {W W' : World} {g : Nat} (hb : Below W.heap.size W W') {e : Ex} {v : Value} (h : DTree W g e v) : DTree W' g e v := h.kg (KG.of_below hb)
theorem find_r {s : ByteArray} : ∀ {l : List (ByteArray × Int)} {v : Int}, (∀ y ∈ l, 0 ≤ y.2 ∧ y.2 < 18446744073709551616) → find s l = some v → 0 ≤ v ∧ v < 18446744073709551616
  | [], v, _, h => by cases h
  | y :: l, v, hr, h => by
    rw [find] at h
    split at h
    · cases h; exact hr y (List.mem_cons_self ..)
    · exact find_r (fun z hz => hr z (List.mem_cons_of_mem _ hz)) h
theorem named_r {l : List (ByteArray × Int)} (hr : ∀ y ∈ l, 0 ≤ y.2 ∧ y.2 < 18446744073709551616) (t : Tok) (v : Int) (h : named l t = some v) : 0 ≤ v ∧ v < 18446744073709551616 := by
  unfold named at h
  split at h
  · exact find_r hr h
  · cases h
set_option maxHeartbeats 4000000 in
set_option maxRecDepth 100000 in
theorem vleaf_c {W : World} {sc b : Nat} {x : DTk} {r : EvR} (hb : W.heap[b]? = some (.cells (dnode x (.pointer none) (.pointer none)) 98 (0, 0)))
    (hc : ∀ w1, Below W.heap.size W w1 → Calls Tryz.prog 30 #[.pointer (some ⟨sc, 0, none⟩), aggD x] w1 (EvD w1 r)) :
    Calls Tryz.prog 16 #[.pointer (some ⟨sc, 0, none⟩), .pointer (some ⟨b, 0, none⟩)] W (EvD W r) := by
  have hA : Below W.heap.size W (W.alloc zF) := (Below.refl _ W).alloc (Nat.le_refl _) _
  have hbA := blk_below hb hA
  have c0 : (W.alloc zF).cell? ⟨b, 0, none⟩ = some (.int .i64 x.f0) := blk_cell hbA 0
  have c1 : (W.alloc zF).cell? ⟨b, 1, none⟩ = some (.int .i64 x.f1) := blk_cell hbA 1
  have c2 : (W.alloc zF).cell? ⟨b, 2, none⟩ = some (.int .i64 x.f2) := blk_cell hbA 2
  have c3 : (W.alloc zF).cell? ⟨b, 3, none⟩ = some (.string x.f3) := blk_cell hbA 3
  have c4 : (W.alloc zF).cell? ⟨b, 4, none⟩ = some (.string x.f4) := blk_cell hbA 4
  have c5 : (W.alloc zF).cell? ⟨b, 5, none⟩ = some (.int .u64 x.f5) := blk_cell hbA 5
  have c6 : (W.alloc zF).cell? ⟨b, 6, none⟩ = some (.bool x.f6) := blk_cell hbA 6
  have c8 : (W.alloc zF).cell? ⟨b, 8, none⟩ = some (.pointer none) := blk_cell hbA 8
  have HC := Lib.hid hc
  have HA := Lib.hid hA
  clear hb hbA hA hc
  go_enter Tryz.func16, Tryz.ntmps16
  match r, HC with
  | .ok v, HC =>
    go_wp2_with (first | (go_at_call 30; refine (HC.out _ HA.out).mono ?_; rintro E w1 ⟨rfl, hb1⟩; have ha := blk_below (blk_new W zF) hb1; have HS := Lib.hid (And.intro ha (HA.out.trans (hb1.mono HA.out.size))); have b0 := blk_cell ha 0; have b1 := blk_cell ha 1; have z0 := blk_frozen ha 0; have z1 := blk_frozen ha 1; clear hb1 ha))
    refine bodyPost_ret (results_tc rfl _ _ W.heap.size 53 #[.int .i64 0, .int .i64 0] (0, 0) _ rfl (blk_put (blk_put HS.out.1 0 _ rfl) 1 _ rfl) Tryz.underlying53 rfl (by kernel_rfl)) rfl ?_
    exact ⟨rfl, Below.setCell (Below.setCell HS.out.2 (p := ⟨W.heap.size, 0, none⟩) (Nat.le_refl _) _) (p := ⟨W.heap.size, 1, none⟩) (Nat.le_refl _) _⟩
  | .error (a, y), HC =>
    go_wp2_with (first | (go_at_call 30; refine (HC.out _ HA.out).mono ?_; rintro E w1 ⟨rfl, hy, hb1⟩; have ha := blk_below (blk_new W zF) hb1; have HS := Lib.hid (And.intro ha (HA.out.trans (hb1.mono HA.out.size))); have b0 := blk_cell ha 0; have b1 := blk_cell ha 1; have z0 := blk_frozen ha 0; have z1 := blk_frozen ha 1; have HYY := Lib.hid hy; clear hb1 ha hy))
    refine bodyPost_ret (results_tc rfl _ _ W.heap.size 53 #[.int .i64 a, .int .i64 y] (0, 0) _ rfl (blk_put (blk_put HS.out.1 0 _ rfl) 1 _ rfl) Tryz.underlying53 rfl (by kernel_rfl)) rfl ?_
    exact ⟨rfl, HYY.out, Below.setCell (Below.setCell HS.out.2 (p := ⟨W.heap.size, 0, none⟩) (Nat.le_refl _) _) (p := ⟨W.heap.size, 1, none⟩) (Nat.le_refl _) _⟩
theorem valD_c {sc n cp g : Nat} {A : Option Addr} {l : List (ByteArray × Int)} (hn : n ≤ 1000000000) (hr : ∀ y ∈ l, 0 ≤ y.2 ∧ y.2 < 18446744073709551616) :
    ∀ (e : Ex) (v : Value) (W : World), Wf e → Lk e → DTree W g e v → SC sc A n cp W → Kd.C kKn W A n l → Calls Tryz.prog 16 #[.pointer (some ⟨sc, 0, none⟩), v] W (EvD W (ev (named l) e))
  | .leaf t, v, W, hw, hk, ht, hs, hl => by
    obtain ⟨x, b, rfl, rfl, _, h⟩ := ht
    exact vleaf_c h (fun w1 hb => leafD_c (blk_below hs hb) (Kd.C_below hl hb) hn x (kmap_lk _ hk))
  | .un t e, v, W, hw, hk, ht, hs, hl => by
    obtain ⟨x, b, rv, rfl, rfl, _, h, h2⟩ := ht
    obtain ⟨ra, rfl⟩ := dtree_ptr h2
    exact unD_c (named l) h hw.1 (fun v hv => ev_r (named l) (named_r hr) e v hw.2 hv) (fun w1 hb => valD_c hn hr e _ w1 hw.2 hk (h2.below hb) (blk_below hs hb) (Kd.C_below hl hb))
  | .bin t a c, v, W, hw, hk, ht, hs, hl => by
    obtain ⟨x, b, lv, rv, rfl, rfl, _, h, h2, h3⟩ := ht
    obtain ⟨la, rfl⟩ := dtree_ptr h2
    obtain ⟨ra, rfl⟩ := dtree_ptr h3
    exact binD_c (named l) h hw.1 (fun v hv => ev_r (named l) (named_r hr) a v hw.2.1 hv) (fun v hv => ev_r (named l) (named_r hr) c v hw.2.2 hv) (fun w1 hb => valD_c hn hr a _ w1 hw.2.1 hk.1 (h2.below hb) (blk_below hs hb) (Kd.C_below hl hb)) (fun w1 hb => valD_c hn hr c _ w1 hw.2.2 hk.2 (h3.below hb) (blk_below hs hb) (Kd.C_below hl hb))
end Go.Proofs.YtbmnifnahbehbaaGreatDoor

/- asm.Value. -/
set_option linter.unusedVariables false
set_option linter.unusedSimpArgs false
namespace Go.Proofs.YtbmnifnahbehbaaGreatDoor
open Go.RowKit Go.Lib Go.Proofs.YtbmnifnahbehbaaGreatDoorW.PrintWords Go.Proofs.YtbmnifnahbehbaaGreatDoorW.PrintMore Go.Proofs.YtbmnifnahbehbaaGreatDoorW.PrintLast
open AvP
def vOk (v : Int) : Prop := 0 ≤ v ∧ v < 18446744073709551616
theorem itemS_v {s : ByteArray} {i : Nat} {q : Int} {b : ByteArray} {v : Int} {n : Nat} (h : itemS s i q = some (b, v, n)) : vOk v := by
  have hR1 : (Lib.decodeGo (s.extract i s.size)).1 ≤ 2147483647 := by
    unfold Lib.decodeGo
    split
    · decide
    · exact decode_le _ 0
  unfold itemS at h
  dsimp only at h
  split at h
  · cases h
  · split at h
    · cases h
      unfold vOk
      omega
    · split at h
      · cases h
      · split at h
        · rename_i b' hb
          cases h
          have : b' < 256 := by
            unfold esc at hb
            repeat' split at hb
            all_goals first | cases hb | skip
            all_goals omega
          unfold vOk
          omega
        · split at h
          · cases h
          · split at h
            · cases h
              exact valS_r _ _
            · cases h
theorem qLoop_v (s : ByteArray) (q : Nat) : ∀ (f a k : Nat) (v : Int) (x : ByteArray) (r : Nat × Nat × Int × ByteArray), vOk v → qLoop s q f a k v x = some r → vOk r.2.2.1
  | 0, a, k, v, x, r, hv, h => by cases h
  | f + 1, a, k, v, x, r, hv, h => by
    rw [qLoop] at h
    split at h
    · cases hI : itemS s a (q : Int) with
      | none => rw [hI] at h; cases h
      | some y =>
        obtain ⟨b, v', n⟩ := y
        rw [hI] at h
        exact qLoop_v s q f n _ _ _ r (itemS_v hI) h
    · cases h
      exact hv
theorem nextS_v {s : ByteArray} {i : Nat} {t : Tok} (h : nextS s i = .ok t) : vOk t.v := by
  have h0 : vOk 0 := ⟨by decide, by decide⟩
  unfold nextS at h
  split at h
  · unfold numS at h
    dsimp only at h
    split at h
    · cases h
    · cases h
      exact valS_r _ _
  · split at h
    · cases hq : quotedS s i (by_ s i) with
      | none => rw [hq] at h; cases h
      | some y =>
        rw [hq] at h
        cases h
        unfold quotedS at hq
        cases hl : qLoop s (by_ s i) (s.size + 1) (i + 1) 0 0 ⟨#[]⟩ with
        | none => rw [hl] at hq; cases hq
        | some r =>
          obtain ⟨a, k, v, x⟩ := r
          rw [hl] at hq
          have := qLoop_v s _ _ _ _ _ _ _ h0 hl
          dsimp only at hq this
          split at hq
          · cases hq
          · cases hq; exact this
    · split at h
      · cases h; exact h0
      · split at h
        · cases h; exact h0
        · unfold nameS at h
          dsimp only at h
          split at h
          · cases h
          · split at h
            · cases h
            · cases h; exact h0
theorem cutS_v (s : ByteArray) : ∀ (f i : Nat) (l r : List Tok), (∀ t ∈ l, vOk t.v) → cutS s f i l = .ok r → ∀ t ∈ r, vOk t.v
  | 0, i, l, r, hl, h => by cases h; exact hl
  | f + 1, i, l, r, hl, h => by
    rw [cutS] at h
    split at h
    · split at h
      · exact cutS_v s f _ l r hl h
      · split at h
        · cases h; exact hl
        · cases hn : nextS s i with
          | error e => rw [hn] at h; cases h
          | ok t =>
            rw [hn] at h
            refine cutS_v s f _ _ r (fun y hy => ?_) h
            rcases List.mem_append.1 hy with hy | hy
            · exact hl y hy
            · rw [List.mem_singleton.1 hy]; exact nextS_v hn
    · cases h; exact hl
theorem cutS_len (s : ByteArray) : ∀ (f i : Nat) (l r : List Tok), l.length ≤ f + l.length → cutS s f i l = .ok r → r.length ≤ f + l.length
  | 0, i, l, r, _, h => by cases h; omega
  | f + 1, i, l, r, _, h => by
    rw [cutS] at h
    split at h
    · split at h
      · have := cutS_len s f _ l r (by omega) h; omega
      · split at h
        · cases h; omega
        · cases hn : nextS s i with
          | error e => rw [hn] at h; cases h
          | ok t =>
            rw [hn] at h
            have := cutS_len s f _ _ r (by omega) h
            simp at this
            omega
    · cases h; omega
theorem str_ten (t : Tok) (h : str t ≠ 0) : ten t.t := by
  refine Classical.byContradiction fun hn => h ?_
  unfold ten at hn
  simp only [not_or] at hn
  obtain ⟨h0, h1, h2, h3, h4, h5, h6, h7, h8, h9⟩ := hn
  unfold str
  simp only [h0, h1, h2, h3, h4, h5, h6, h7, h8, h9, or_self, if_false]
  split <;> rfl
/-- Trees that the parser makes are well formed. -/
def WfQ : Qy → Prop
  | .lp _ e _ _ => Wf e
  | _ => True
theorem pA_wf (l : List Tok) (hl : ∀ t ∈ l, vOk t.v) : ∀ n q e j, WfQ q → pA l n q = some (.ok (e, j)) → Wf e
  | 0, q, e, j, _, h => by cases h
  | n + 1, .op i d, e, j, _, h => by
    rw [pA] at h
    cases ht : l[i]? with
    | none => rw [ht] at h; cases h
    | some t =>
      rw [ht] at h
      dsimp only at h
      have htm : t ∈ l := List.mem_of_getElem? ht
      split at h
      · rename_i hs
        cases hq : pA l n (.op (i + 1) d) with
        | none => rw [hq] at h; cases h
        | some r =>
          rw [hq] at h
          match r, h with
          | .error x, h => cases h
          | .ok (e1, j1), h =>
            cases h
            exact ⟨hs, pA_wf l hl n (.op (i + 1) d) _ _ True.intro hq⟩
      · split at h
        · split at h
          · cases h
          · cases hq : pA l n (.lv 0 (i + 1) (d + 1)) with
            | none => rw [hq] at h; cases h
            | some r =>
              rw [hq] at h
              match r, h with
              | .error x, h => cases h
              | .ok (e1, j1), h =>
                dsimp only [bindR] at h
                split at h
                · cases h; exact pA_wf l hl n (.lv 0 (i + 1) (d + 1)) _ _ True.intro hq
                · cases h
        · split at h
          · cases h
          · cases h; exact hl t htm
  | n + 1, .lv k i d, e, j, _, h => by
    rw [pA] at h
    cases hq : pA l n (.op i d) with
    | none => rw [hq] at h; cases h
    | some r =>
      rw [hq] at h
      match r, h with
      | .error x, h => cases h
      | .ok (e1, j1), h => exact pA_wf l hl n (.lp k e1 j1 d) e j (pA_wf l hl n (.op i d) _ _ True.intro hq) h
  | n + 1, .lp k e0 i d, e, j, hw, h => by
    rw [pA] at h
    cases ht : l[i]? with
    | none => rw [ht] at h; cases h; exact hw
    | some t =>
      rw [ht] at h
      dsimp only at h
      split at h
      · cases h; exact hw
      · rename_i hs
        cases hq : pA l n (.lv (str t) (i + 1) d) with
        | none => rw [hq] at h; cases h
        | some r =>
          rw [hq] at h
          match r, h with
          | .error x, h => cases h
          | .ok (e1, j1), h => exact pA_wf l hl n (.lp k (.bin t e0 e1) j1 d) e j ⟨str_ten t (by omega), hw, pA_wf l hl n (.lv (str t) (i + 1) d) _ _ True.intro hq⟩ h
/-- What a reading of the tokens is worth. -/
def valR (nm : Tok → Option Int) (T : List Tok) : Res → EvR
  | .error f => .error f
  | .ok (e, j) => if j < T.length then .error (here T j, 83) else ev nm e
/-- What asm.Value answers, the tokens' reading being r. -/
def ValA (s : ByteArray) (nm : Tok → Option Int) (R : EvR) : Prop :=
  if 1000 < s.size then R = .error (1000, 80) else match cutS s (s.size + 1) 0 [] with
    | .error f => R = .error f
    | .ok T => ∃ f r, pA T f (.lv 0 0 0) = some r ∧ R = valR nm T r
theorem valA_ex (s : ByteArray) (nm : Tok → Option Int) : ∃ R, ValA s nm R := by
  unfold ValA
  split
  · exact ⟨_, rfl⟩
  · cases cutS s (s.size + 1) 0 [] with
    | error f => exact ⟨_, rfl⟩
    | ok T =>
      obtain ⟨r, ⟨f, hf⟩, _⟩ := both T
      exact ⟨_, f, r, hf, rfl⟩
/-- What an answer of asm.Value means. -/
def ValEnd (w : World) (R : EvR) (E : Ending) (w' : World) : Prop :=
  match R with
  | .ok x => E = .returned (.tuple #[.int .u64 x, .nilIface]) ∧ Below w.heap.size w w'
  | .error (a, y) => ∃ b, E = .returned (.tuple #[.int .u64 0, .iface 39 (.pointer (some ⟨b, 0, none⟩))]) ∧ w'.heap[b]? = some (.cells #[.int .i64 0, .int .i64 a, .int .i64 y] 30 (0, 0)) ∧ Below w.heap.size w w'
theorem TreeIs.other {W : World} {g b5 : Nat} {cs : Array Value} (h5 : W.heap[b5]? = some (.cells cs 22 (0, 0))) : ∀ {e : Ex} {v : Value}, TreeIs W g e v → TreeIs W b5 e v
  | .leaf t, v, ⟨b, e1, h1, h2⟩ => ⟨b, e1, fun e => by subst e; rw [h5] at h2; injection h2 with h2; injection h2 with _ h3; exact absurd h3 (by decide), h2⟩
  | .un t e, v, ⟨b, lv, e1, h1, h2, h3⟩ => ⟨b, lv, e1, fun e => by subst e; rw [h5] at h2; injection h2 with h2; injection h2 with _ h3; exact absurd h3 (by decide), h2, TreeIs.other h5 h3⟩
  | .bin t l r, v, ⟨b, lv, rv, e1, h1, h2, h3, h4⟩ => ⟨b, lv, rv, e1, fun e => by subst e; rw [h5] at h2; injection h2 with h2; injection h2 with _ h3; exact absurd h3 (by decide), h2, TreeIs.other h5 h3, TreeIs.other h5 h4⟩
set_option maxHeartbeats 8000000 in
set_option maxRecDepth 100000 in
theorem valueA_c {w : World} {s : ByteArray} {A : Option Addr} {n cp : Nat} {l : List (ByteArray × Int)} {R : EvR} (hG : Glob w) (hl : Kd.C k37 w A n l) (hn : n ≤ 1000000000) (hr : ∀ y ∈ l, 0 ≤ y.2 ∧ y.2 < 18446744073709551616) (hR : ValA s (named l) R) :
    Calls Tryz.prog 4 #[.string s, .slice A n cp] w (ValEnd w R) := by
  obtain ⟨wb, hwb⟩ : ∃ q, w.alloc (.cells #[.slice A n cp] 22) = q := ⟨_, rfl⟩
  have hB : Below w.heap.size w wb := by rw [← hwb]; exact (Below.refl _ w).alloc (Nat.le_refl _) _
  have hbx : wb.heap[w.heap.size]? = some (.cells #[.slice A n cp] 22 (0, 0)) := by rw [← hwb]; exact blk_new w _
  have hsz : wb.heap.size = w.heap.size + 1 := by rw [← hwb]; simp
  have HB := Lib.hid (And.intro hB (And.intro hbx hsz))
  have HWB := Lib.hid hwb
  have HG := Lib.hid hG
  have HL := Lib.hid (And.intro hl (And.intro hn hr))
  clear hB hbx hwb hG hl hn hr hsz
  unfold ValA at hR
  by_cases h1 : 1000 < s.size
  · rw [if_pos h1] at hR
    subst hR
    have q1 : (1000 : Int) < (s.size : Int) := by omega
    have hg0 : 0 < wb.heap.size := by have := HB.out.2.2; omega
    clear h1
    go_enter Tryz.func4, Tryz.ntmps4
    go_wp2_with (first
      | (go_at_call 8; rw [HWB.out]; refine (fault_c 1000 80 0 _ hg0).mono ?_; rintro E w5 ⟨v, rfl, ⟨fb, rfl, hf1, hf2⟩, hb⟩; have HF := Lib.hid (And.intro hf2 hb); clear hf1 hf2 hb))
    go_ret2
    exact ⟨fb, rfl, HF.out.1, HB.out.1.trans (HF.out.2.mono HB.out.1.size)⟩
  · rw [if_neg h1] at hR
    have q1 : ((1000 : Int) < (s.size : Int)) = False := eq_false (by omega)
    have hcut := cut_c s wb (Glob.step HG.out HB.out.1) (by omega)
    have HS1 := Lib.hid h1
    clear h1
    cases hc : cutS s (s.size + 1) 0 [] with
    | error f =>
      obtain ⟨a, y⟩ := f
      rw [hc] at hR hcut
      subst hR
      have HC := Lib.hid hcut
      clear hcut hc
      go_enter Tryz.func4, Tryz.ntmps4
      go_wp2_with (first
        | (go_at_call 9; rw [HWB.out]; refine HC.out.mono ?_; rintro E w5 ⟨v, rfl, ⟨fb, rfl, hf1, hf2⟩, hb⟩; have HF := Lib.hid (And.intro hf2 hb); clear hf1 hf2 hb))
      go_ret2
      exact ⟨fb, rfl, HF.out.1, HB.out.1.trans (HF.out.2.mono HB.out.1.size)⟩
    | ok T =>
      rw [hc] at hR hcut
      obtain ⟨f, r, hpr, hR⟩ := hR
      have hTv := cutS_v s _ _ _ _ (fun _ h => by cases h) hc
      have hTl := cutS_len s _ _ _ _ (by simp) hc
      have HC := Lib.hid hcut
      have HP := Lib.hid (And.intro hpr (And.intro hTv hTl))
      have hTn : T.length ≤ 1000000000 := by
        have := HS1.out
        simp at hTl
        omega
      have HTn := Lib.hid hTn
      clear hcut hc hpr hTv hTl hTn
      go_enter Tryz.func4, Tryz.ntmps4
      go_upto_region 6 with (first
        | (go_at_call 9; rw [HWB.out]; refine HC.out.mono ?_; rintro E w5 ⟨A2, cp2, rfl, hT, hb⟩; have H5 := Lib.hid (And.intro hT (HB.out.1.trans (hb.mono HB.out.1.size))); have HB5 := Lib.hid hb; clear hT hb))
      have hTl5 : T.length ≤ 1000000000 := HTn.out
      obtain ⟨tn, htn⟩ : ∃ tn, T.length = tn := ⟨_, rfl⟩
      have hT5 := H5.out.1
      rw [htn] at hT5 hTl5 ⊢
      have hpa := parse_c (cp := cp2) hT5 hTl5 (Nat.zero_le _) HP.out.1
      have HPA := Lib.hid hpa
      have HRR := Lib.hid hR
      have hwf : ∀ e j, r = .ok (e, j) → Wf e := fun e j h => pA_wf T HP.out.2.1 f (.lv 0 0 0) e j True.intro (h ▸ HP.out.1)
      have HWF := Lib.hid hwf
      have HTN := Lib.hid htn
      clear hpa hR hwf htn hT5 hTl5
      match r, HPA, HRR, HWF with
      | .error (a, y), HPA, HRR, HWF =>
        have hv : R = .error (a, y) := HRR.out
        subst hv
        go_wp2_with (first
          | (go_at_call 10; refine HPA.out.mono ?_; rintro E w6 ⟨hb, v, rfl, ⟨fb, rfl, hf1, hf2⟩⟩; have HF := Lib.hid (And.intro hf2 hb); clear hf1 hf2 hb))
        go_ret2
        exact ⟨fb, rfl, HF.out.1, H5.out.2.trans (HF.out.2.mono H5.out.2.size)⟩
      | .ok (e, j), HPA, HRR, HWF =>
        by_cases hj : j < tn
        · have hv : R = .error (here T j, 83) := by
            rw [HRR.out]
            exact if_pos (by rw [HTN.out]; exact hj)
          subst hv
          have HJ := Lib.hid hj
          clear hj
          go_wp2_with (first
            | (go_at_call 10; refine HPA.out.mono ?_; rintro E w6 ⟨hb, hcs⟩; obtain ⟨_, v, rfl, ⟨fb, rfl, hf1, hf2⟩⟩ := hcs.resolve_right (fun h => h.1 HJ.out); have HF := Lib.hid (And.intro hf2 hb); clear hf1 hf2 hb hcs))
          go_ret2
          exact ⟨fb, rfl, HF.out.1, H5.out.2.trans (HF.out.2.mono H5.out.2.size)⟩
        · have hv : R = ev (named l) e := by
            rw [HRR.out]
            exact if_neg (by rw [HTN.out]; exact hj)
          have HJ := Lib.hid hj
          have hcl : ∀ W t, Below wb.heap.size wb W → Calls Tryz.prog 12 #[.agg (tokL t).toArray, .pointer (some ⟨w.heap.size, 0, none⟩)] W fun e w' => e = .returned (.tuple #[.int .u64 ((named l t).getD 0), .bool (named l t).isSome]) ∧ Below W.heap.size W w' := fun W t hb =>
            names_c (Kd.C_below HL.out.1 (HB.out.1.trans (hb.mono HB.out.1.size))) HL.out.2.1 (blk_cell (blk_below HB.out.2.1 hb) 0) t
          have HCL := Lib.hid hcl
          have HV := Lib.hid hv
          clear hj hcl hv
          have e12 := enters12
          go_upto_region 9 with (first
            | (go_at_call 10; refine HPA.out.mono ?_; rintro E w6 ⟨hb, hcs⟩; obtain ⟨_, p, rfl, hT6⟩ := hcs.resolve_left (fun h => HJ.out h.1); have HF := Lib.hid (And.intro hT6 hb); clear hb hcs hT6))
          have hb6 := blk_below (blk_below HB.out.2.1 HB5.out) HF.out.2
          have hnv := nval_c (w0 := wb) (named l) (named_r HL.out.2.2) HCL.out e (.pointer p) w6 (HWF.out e j rfl) (HF.out.1.other hb6) (blk_lt hb6) (HB5.out.trans (HF.out.2.mono HB5.out.size))
          rw [← HV.out] at hnv
          have HNV := Lib.hid hnv
          clear hnv
          match R, HNV with
          | .ok x, HNV =>
            go_wp2_with (first
              | (go_at_call 11; refine HNV.out.mono ?_; rintro E w7 ⟨rfl, hb⟩; have H7 := Lib.hid hb; clear hb))
            go_ret2
            exact ⟨rfl, (H5.out.2.trans (HF.out.2.mono H5.out.2.size)).trans (H7.out.mono (Nat.le_trans H5.out.2.size HF.out.2.size))⟩
          | .error (a, y), HNV =>
            go_wp2_with (first
              | (go_at_call 11; refine HNV.out.mono ?_; rintro E w7 ⟨v, rfl, ⟨fb, rfl, hf1, hf2⟩, hb⟩; have H7 := Lib.hid (And.intro hf2 hb); clear hf1 hf2 hb))
            go_ret2
            exact ⟨fb, rfl, H7.out.1, (H5.out.2.trans (HF.out.2.mono H5.out.2.size)).trans (H7.out.2.mono (Nat.le_trans H5.out.2.size HF.out.2.size))⟩
end Go.Proofs.YtbmnifnahbehbaaGreatDoor

/- The document's tokens and asm's are alike. -/
set_option linter.unusedVariables false
set_option linter.unusedSimpArgs false
namespace Go.Proofs.YtbmnifnahbehbaaGreatDoor
open Go.RowKit Go.Lib Go.Proofs.YtbmnifnahbehbaaGreatDoorW.PrintWords Go.Proofs.YtbmnifnahbehbaaGreatDoorW.PrintMore Go.Proofs.YtbmnifnahbehbaaGreatDoorW.PrintLast
open AvP
/-- What counts of a token. -/
def nrm (t : Tok) : Tok := ⟨if t.k = 3 then 2 else t.k, t.a, t.e, if t.k = 0 ∨ t.k = 6 then t.t else ⟨#[]⟩, if t.k = 1 ∨ t.k = 4 then t.v else 0, false⟩
def Alike (x : DTk) (t : Tok) : Prop := nrm (ab x) = nrm t
theorem Alike.a {x : DTk} {t : Tok} (h : Alike x t) : x.f1 = t.a := by
  have := congrArg Tok.a h
  exact this
theorem Alike.e {x : DTk} {t : Tok} (h : Alike x t) : x.f2 = t.e := by
  have := congrArg Tok.e h
  exact this
theorem al_mk {x : DTk} {t : Tok} (k : (if kmap x.f0 = 3 then 2 else kmap x.f0) = if t.k = 3 then 2 else t.k) (a : x.f1 = t.a) (e : x.f2 = t.e) (hs : (kmap x.f0 = 0 ∨ kmap x.f0 = 6 → x.f3 = t.t)) (hk : (kmap x.f0 = 0 ∨ kmap x.f0 = 6) ↔ (t.k = 0 ∨ t.k = 6)) (hv : (kmap x.f0 = 1 ∨ kmap x.f0 = 4 → x.f5 = t.v)) (hj : (kmap x.f0 = 1 ∨ kmap x.f0 = 4) ↔ (t.k = 1 ∨ t.k = 4)) : Alike x t := by
  unfold Alike nrm ab
  dsimp only
  rw [k, a, e]
  congr 1
  · by_cases h : kmap x.f0 = 0 ∨ kmap x.f0 = 6
    · rw [if_pos h, if_pos (hk.1 h), hs h]
    · rw [if_neg h, if_neg (fun y => h (hk.2 y))]
  · by_cases h : kmap x.f0 = 1 ∨ kmap x.f0 = 4
    · rw [if_pos h, if_pos (hj.1 h), hv h]
    · rw [if_neg h, if_neg (fun y => h (hj.2 y))]
theorem ext_size (t : ByteArray) (i j : Nat) (hj : j ≤ t.size) : (t.extract i j).size = j - i := by rw [ByteArray.size_extract]; omega
theorem hp2 (t p : ByteArray) (h : p.size = 2) : hpB t p = true ↔ 2 ≤ t.size ∧ t.extract 0 2 = p := by
  unfold hpB
  rw [h, Bool.and_eq_true, decide_eq_true_iff, decide_eq_true_iff]
theorem ext1 (t : ByteArray) (i : Nat) (hi : i < t.size) : t.extract i (i + 1) = ⟨#[t[i]'hi]⟩ := by
  apply ByteArray.ext
  apply Array.toList_inj.1
  rw [data_ext t i (i + 1) (by omega) (by omega)]
  have e2 : t.data.toList.length = t.size := (Lib.size_eq t).symm
  rw [List.drop_eq_getElem_cons (by omega), show i + 1 - i = 1 by omega]
  simp [ByteArray.getElem_eq_getElem_data]
theorem lit1 (a b : UInt8) : (⟨#[a]⟩ : ByteArray) = ⟨#[b]⟩ ↔ a = b := by
  constructor
  · intro h
    injection h with h
    injection h with h
    injection h with h _
  · rintro rfl; rfl
theorem hs1 (t : ByteArray) (b : UInt8) (h0 : 1 ≤ t.size) : hsB t ⟨#[b]⟩ = true ↔ by_ t (t.size - 1) = b.toNat := by
  unfold hsB
  rw [Bool.and_eq_true, decide_eq_true_iff, decide_eq_true_iff]
  have hs : (⟨#[b]⟩ : ByteArray).size = 1 := rfl
  rw [hs]
  have hlt : t.size - 1 < t.size := by omega
  have he := ext1 t (t.size - 1) hlt
  rw [show t.size - 1 + 1 = t.size by omega] at he
  rw [he, lit1, ← by_at t (t.size - 1) hlt]
  constructor
  · rintro ⟨_, h⟩; rw [h]
  · intro h; exact ⟨h0, UInt8.toNat_inj.1 h⟩
theorem num_tail (t : ByteArray) (i j : Int) (h0 : 1 ≤ t.size) (n1 : ¬ hpB t ⟨#[48, 120]⟩ = true) (n2 : ¬ (hpB t ⟨#[48, 98]⟩ = true ∧ 2 < t.size)) (m1 : ¬ (2 < t.size ∧ t.extract 0 2 = ⟨#[48, 120]⟩)) (m2 : ¬ (2 < t.size ∧ t.extract 0 2 = ⟨#[48, 98]⟩)) : (numT t i j).2 = (valS (numF t).2.1.data.toList (numF t).2.2.1).2 ∧ ((valS (numF t).2.1.data.toList (numF t).2.2.1).2 = 0 → Alike (numT t i j).1 ⟨(numF t).1, i, j, t, (valS (numF t).2.1.data.toList (numF t).2.2.1).1, (numF t).2.2.2⟩) := by
  have b1 := hs1 t 98 h0
  have b2 := hs1 t 102 h0
  rw [show (98 : UInt8).toNat = 98 by decide] at b1
  rw [show (102 : UInt8).toNat = 102 by decide] at b2
  by_cases c3 : by_ t (t.size - 1) = 98
  · have e1 : numF t = (2, t.extract 0 (t.size - 1), 10, false) := by unfold numF; rw [if_neg n1, if_neg n2, if_pos (b1.2 c3)]
    have e2 : numT t i j = (⟨3, i, j, t.extract (t.size - 1) t.size, ⟨#[]⟩, (valS (t.extract 0 (t.size - 1)).data.toList 10).1, false⟩, (valS (t.extract 0 (t.size - 1)).data.toList 10).2) := by unfold numT; rw [if_neg m1, if_neg m2, if_pos (.inl c3)]
    rw [e1, e2]
    exact ⟨rfl, fun _ => rfl⟩
  · have n3 : ¬ hsB t ⟨#[98]⟩ = true := fun h => c3 (b1.1 h)
    by_cases c4 : by_ t (t.size - 1) = 102
    · have e1 : numF t = (3, t.extract 0 (t.size - 1), 10, false) := by unfold numF; rw [if_neg n1, if_neg n2, if_neg n3, if_pos (b2.2 c4)]
      have e2 : numT t i j = (⟨3, i, j, t.extract (t.size - 1) t.size, ⟨#[]⟩, (valS (t.extract 0 (t.size - 1)).data.toList 10).1, false⟩, (valS (t.extract 0 (t.size - 1)).data.toList 10).2) := by unfold numT; rw [if_neg m1, if_neg m2, if_pos (.inr c4)]
      rw [e1, e2]
      exact ⟨rfl, fun _ => rfl⟩
    · have n4 : ¬ hsB t ⟨#[102]⟩ = true := fun h => c4 (b2.1 h)
      have e1 : numF t = (1, t, 10, true) := by unfold numF; rw [if_neg n1, if_neg n2, if_neg n3, if_neg n4]
      have e2 : numT t i j = (⟨2, i, j, ⟨#[]⟩, ⟨#[]⟩, (valS t.data.toList 10).1, true⟩, (valS t.data.toList 10).2) := by unfold numT; rw [if_neg m1, if_neg m2, if_neg (fun h => h.elim c3 c4)]
      rw [e1, e2]
      exact ⟨rfl, fun _ => rfl⟩
/-- The number's two readings. -/
theorem num_al (t : ByteArray) (i j : Int) (h0 : 1 ≤ t.size) : let F := numF t
    let V := valS F.2.1.data.toList F.2.2.1
    (numT t i j).2 = V.2 ∧ (V.2 = 0 → Alike (numT t i j).1 ⟨F.1, i, j, t, V.1, F.2.2.2⟩) := by
  dsimp only
  by_cases h2 : 2 < t.size
  · have hx : ∀ p : ByteArray, p.size = 2 → (hpB t p = true ↔ t.extract 0 2 = p) := fun p hp => (hp2 t p hp).trans ⟨fun h => h.2, fun h => ⟨by omega, h⟩⟩
    by_cases c1 : t.extract 0 2 = ⟨#[48, 120]⟩
    · have e1 : numF t = (1, t.extract 2 t.size, 16, false) := by unfold numF; rw [if_pos ((hx _ rfl).2 c1)]
      have e2 : numT t i j = (⟨2, i, j, ⟨#[]⟩, ⟨#[]⟩, (valS (t.extract 2 t.size).data.toList 16).1, false⟩, (valS (t.extract 2 t.size).data.toList 16).2) := by unfold numT; rw [if_pos ⟨h2, c1⟩]
      rw [e1, e2]
      exact ⟨rfl, fun _ => rfl⟩
    · have n1 : ¬ hpB t ⟨#[48, 120]⟩ = true := fun h => c1 ((hx _ rfl).1 h)
      by_cases c2 : t.extract 0 2 = ⟨#[48, 98]⟩
      · have e1 : numF t = (1, t.extract 2 t.size, 2, false) := by unfold numF; rw [if_neg n1, if_pos ⟨(hx _ rfl).2 c2, h2⟩]
        have e2 : numT t i j = (⟨2, i, j, ⟨#[]⟩, ⟨#[]⟩, (valS (t.extract 2 t.size).data.toList 2).1, false⟩, (valS (t.extract 2 t.size).data.toList 2).2) := by unfold numT; rw [if_neg (fun h => c1 h.2), if_pos ⟨h2, c2⟩]
        rw [e1, e2]
        exact ⟨rfl, fun _ => rfl⟩
      · have n2 : ¬ (hpB t ⟨#[48, 98]⟩ = true ∧ 2 < t.size) := fun h => c2 ((hx _ rfl).1 h.1)
        exact num_tail t i j h0 n1 n2 (fun h => c1 h.2) (fun h => c2 h.2)
  · have n2 : ¬ (hpB t ⟨#[48, 98]⟩ = true ∧ 2 < t.size) := fun h => h2 h.2
    by_cases c1 : hpB t ⟨#[48, 120]⟩ = true
    · obtain ⟨hs, he⟩ := (hp2 t _ rfl).1 c1
      have ht : t = ⟨#[48, 120]⟩ := by
        rw [← he]
        have : t.size = 2 := by omega
        rw [← this]
        exact (ByteArray.extract_zero_size).symm
      subst ht
      have e2 : (numT ⟨#[48, 120]⟩ i j).2 = 83 := by
        unfold numT
        rw [if_neg (by decide), if_neg (by decide), if_neg (by decide)]
        dsimp only
        decide +kernel
      have e3 : (valS (numF ⟨#[48, 120]⟩).2.1.data.toList (numF ⟨#[48, 120]⟩).2.2.1).2 = 83 := by decide +kernel
      rw [e2, e3]
      exact ⟨rfl, fun h => absurd h (by decide)⟩
    · exact num_tail t i j h0 c1 n2 (fun h => h2 h.1) (fun h => h2 h.1)
theorem qLoop_k (s : ByteArray) (q : Nat) : ∀ (f a k : Nat) (v : Int) (x : ByteArray) (r : Nat × Nat × Int × ByteArray), qLoop s q f a k v x = some r → k ≤ r.2.1 ∧ (r.2.1 = k → r = (a, k, v, x) ∧ ¬ (a < s.size ∧ by_ s a ≠ q))
  | 0, a, k, v, x, r, h => by cases h
  | f + 1, a, k, v, x, r, h => by
    rw [qLoop] at h
    split at h
    · cases hI : itemS s a (q : Int) with
      | none => rw [hI] at h; cases h
      | some y =>
        obtain ⟨b, v', n⟩ := y
        rw [hI] at h
        have := qLoop_k s q f n _ _ _ r h
        omega
    · rename_i hc
      cases h
      exact ⟨Nat.le_refl _, fun _ => ⟨rfl, hc⟩⟩
/-- A character: one item, then the quote. -/
theorem char_q (s : ByteArray) (i : Nat) (hi : i < s.size) : charS s i = match quotedS s i 39 with | none => none | some t => some ⟨4, t.a, t.e, ⟨#[]⟩, ⟨#[]⟩, t.v, false⟩ := by
  unfold charS quotedS
  have hfu : s.size + 1 = (s.size - 1) + 1 + 1 := by omega
  rw [hfu, qLoop]
  unfold itemD
  by_cases h1 : i + 1 < s.size
  · rw [if_pos h1]
    by_cases h2 : by_ s (i + 1) = 39
    · rw [if_neg (fun h => h.2 h2)]
      have hd := itemS_asc (q := ((39 : Nat) : Int)) h1 h2 (by omega)
      have hn : itemS s (i + 1) ((39 : Nat) : Int) = none := by
        unfold itemS
        dsimp only
        rw [hd, if_pos]
        exact .inr (.inl rfl)
      rw [hn]
      dsimp only
      rw [if_pos (.inr ⟨rfl, by omega⟩)]
    · rw [if_pos ⟨h1, h2⟩]
      cases hI : itemS s (i + 1) ((39 : Nat) : Int) with
      | none => rfl
      | some r =>
        obtain ⟨b, v, n⟩ := r
        dsimp only
        rw [qLoop]
        by_cases h3 : n < s.size ∧ by_ s n ≠ 39
        · rw [if_pos h3, if_neg (fun h => h3.2 h.2)]
          cases hJ : itemS s n ((39 : Nat) : Int) with
          | none => rfl
          | some r2 =>
            obtain ⟨b2, v2, n2⟩ := r2
            dsimp only
            cases hQ : qLoop s 39 (s.size - 1) n2 (0 + 1 + 1) v2 (⟨#[]⟩ ++ b ++ b2) with
            | none => rfl
            | some r3 =>
              have hk := (qLoop_k s 39 _ _ _ _ _ r3 hQ).1
              obtain ⟨a3, k3, v3, x3⟩ := r3
              dsimp only at hk ⊢
              rw [if_pos (.inr ⟨rfl, by omega⟩)]
        · rw [if_neg h3]
          dsimp only
          by_cases h4 : n < s.size
          · have h5 : by_ s n = 39 := Classical.byContradiction fun h => h3 ⟨h4, h⟩
            rw [if_pos ⟨h4, h5⟩, if_neg (by omega)]
          · rw [if_neg (fun h => h4 h.1), if_pos (.inl (by omega))]
  · rw [if_neg h1, if_neg (fun h => h1 h.1)]
    dsimp only
    rw [if_pos (.inl (by omega))]
theorem mkJ_N : ∀ c : Nat, c < 256 → (0 ≤ mkJ c ↔ mkN c = true) := by decide +kernel
theorem nameGo_r (s : ByteArray) (i : Nat) : ∀ (f j r : Nat), j ≤ s.size → (j = i ↔ r = 0) → i ≤ j → ((nameGo s i f j r).1 = i ↔ (nameGo s i f j r).2 = 0)
  | 0, j, r, h, h2, h3 => h2
  | f + 1, j, r, h, h2, h3 => by
    rw [nameGo]
    split
    · rename_i hj
      split
      · have := dec_w s j hj
        exact nameGo_r s i f (j + (Utf8.decode s j).2) (r + 1) this.2 (by omega) (by omega)
      · exact h2
    · exact h2
/-- Two bytes at i as a text. -/
theorem hp_at (s p : ByteArray) (i : Nat) (hi : i < s.size) (hp : p.size = 2) : hpB (s.extract i s.size) p = true ↔ i + 1 < s.size ∧ s.extract i (i + 2) = p := by
  have hs := ext_size s i s.size (Nat.le_refl _)
  rw [hp2 _ _ hp, hs, ByteArray.extract_extract]
  constructor
  · rintro ⟨h1, h2⟩
    refine ⟨by omega, ?_⟩
    rw [← h2]
    congr 1
    omega
  · rintro ⟨h1, h2⟩
    refine ⟨by omega, ?_⟩
    rw [← h2]
    congr 1
    omega
theorem ext2_by (s : ByteArray) (i : Nat) (h : i + 1 < s.size) (a b : UInt8) (he : s.extract i (i + 2) = ⟨#[a, b]⟩) : by_ s i = a.toNat := by
  have h1 : (s.extract i (i + 2)).data.toList = [a, b] := by rw [he]
  rw [data_ext s i (i + 2) (by omega) (by omega)] at h1
  have e2 : s.data.toList.length = s.size := (Lib.size_eq s).symm
  rw [List.drop_eq_getElem_cons (by omega), show i + 2 - i = 1 + 1 by omega, List.take_succ_cons] at h1
  injection h1 with h1 _
  rw [← by_at s i (by omega), ← h1]
  simp [ByteArray.getElem_eq_getElem_data]
theorem sz_ne {m : ByteArray} (h : 1 ≤ m.size) : m ≠ ⟨#[]⟩ := by
  rintro rfl
  exact absurd h (by decide)
/-- Its number and its kind are as a token's are. -/
def Fine (x : DTk) : Prop := vOk x.f5 ∧ 1 ≤ x.f0 ∧ x.f0 ≤ 6
theorem Fine.z {x : DTk} (h : x.f5 = 0) (h1 : 1 ≤ x.f0) (h2 : x.f0 ≤ 6) : Fine x := ⟨h ▸ ⟨by decide, by decide⟩, h1, h2⟩
/-- What next answers of what the specification says. -/
def NextEnd (s : ByteArray) (i : Nat) (r : Except (Int × Int) Tok) : Prop :=
  match r with
  | .ok t => ∃ x a, Alike x t ∧ Fine x ∧ ∀ w, Glob w → Calls Tryz.prog 27 #[.string s, .int .i64 (i : Int)] w (NextD w x a 0)
  | .error (a, y) => y ≠ 0 ∧ ∃ x, ∀ w, Glob w → Calls Tryz.prog 27 #[.string s, .int .i64 (i : Int)] w (NextD w x a y)
theorem quoted_k {s : ByteArray} {i q : Nat} {t : Tok} (h : quotedS s i q = some t) : t.k = if q = 39 then 4 else 5 := by
  unfold quotedS at h
  cases hq : qLoop s q (s.size + 1) (i + 1) 0 0 ⟨#[]⟩ with
  | none => rw [hq] at h; cases h
  | some r =>
    obtain ⟨a, k, v, x⟩ := r
    rw [hq] at h
    dsimp only at h
    split at h
    · cases h
    · cases h
      rfl
theorem numT_fine (t : ByteArray) (i j : Int) : Fine (numT t i j).1 := by
  unfold numT
  repeat' split
  all_goals exact ⟨valS_r _ _, by dsimp only; decide, by dsimp only; decide⟩
theorem quoted_v {s : ByteArray} {i q : Nat} {t : Tok} (h : quotedS s i q = some t) : vOk t.v := by
  unfold quotedS at h
  cases hl : qLoop s q (s.size + 1) (i + 1) 0 0 ⟨#[]⟩ with
  | none => rw [hl] at h; cases h
  | some r =>
    obtain ⟨a, k, v, x⟩ := r
    rw [hl] at h
    have := qLoop_v s _ _ _ _ _ _ _ (⟨by decide, by decide⟩ : vOk 0) hl
    dsimp only at h this
    split at h
    · cases h
    · cases h; exact this
theorem next_al (s : ByteArray) (i : Nat) (hi : i < s.size) (hs : s.size ≤ 100000) : NextEnd s i (nextS s i) := by
  obtain ⟨c, hc⟩ : ∃ c, by_ s i = c := ⟨_, rfl⟩
  have hc256 : c < 256 := by rw [← hc, ← by_at s i hi]; exact UInt8.toNat_lt _
  unfold nextS
  rw [hc]
  by_cases hd : 48 ≤ c ∧ c ≤ 57
  · rw [if_pos hd]
    have hdg : digN c = true := by unfold digN; exact decide_eq_true hd
    have hw : wordN (by_ s i) = true := by rw [hc, wordN_or, hdg]; rfl
    have h1 : 1 ≤ wl (s.data.toList.drop i) := by rw [wl_step s i hi, if_pos hw]; omega
    have h2 := wl_le (s.data.toList.drop i)
    rw [List.length_drop, ← Lib.size_eq] at h2
    have hA := num_al (s.extract i (i + wl (s.data.toList.drop i))) (i : Int) ((i + wl (s.data.toList.drop i) : Nat) : Int) (by rw [ext_size _ _ _ (by omega)]; omega)
    dsimp only at hA
    have hC : ∀ w, Glob w → Calls Tryz.prog 27 #[.string s, .int .i64 (i : Int)] w (NextD w (numD s i).1 (i : Int) (numD s i).2) := fun w hG => next1_c hi hc hdg hG (fun W _ => numD_c hs hi hw)
    unfold numS
    dsimp only
    have hn2 : (numD s i).2 = (valS (numF (s.extract i (i + wl (s.data.toList.drop i)))).2.1.data.toList (numF (s.extract i (i + wl (s.data.toList.drop i)))).2.2.1).2 := hA.1
    by_cases hV : (valS (numF (s.extract i (i + wl (s.data.toList.drop i)))).2.1.data.toList (numF (s.extract i (i + wl (s.data.toList.drop i)))).2.2.1).2 ≠ 0
    · rw [if_pos hV]
      refine ⟨hV, (numD s i).1, fun w hG => ?_⟩
      rw [← hn2]
      exact hC w hG
    · rw [if_neg hV]
      have hV0 := Classical.not_not.1 hV
      refine ⟨(numD s i).1, (i : Int), hA.2 hV0, numT_fine _ _ _, fun w hG => ?_⟩
      have := hC w hG
      rw [hn2, hV0] at this
      exact this
  · rw [if_neg hd]
    have hdg : digN c = false := by unfold digN; exact decide_eq_false hd
    by_cases hq : c = 39 ∨ c = 34
    · rw [if_pos hq]
      rcases hq with rfl | rfl
      · have hcq := char_q s i hi
        have hC := fun W (hG : Glob W) => char_c (w := W) (i := i) hG hs hi
        rw [hcq] at hC
        cases hQ : quotedS s i 39 with
        | none =>
          rw [hQ] at hC
          exact ⟨by decide, PLx.z58, fun w hG => next2b_c hi hc hdg rfl hG (fun W hG => hC W hG)⟩
        | some t =>
          rw [hQ] at hC
          have hk := quoted_k hQ
          refine ⟨⟨4, t.a, t.e, ⟨#[]⟩, ⟨#[]⟩, t.v, false⟩, 0, ?_, ⟨quoted_v hQ, by dsimp only; decide, by dsimp only; decide⟩, fun w hG => next2a_c hi hc hdg rfl hG (fun W hG => hC W hG)⟩
          rw [if_pos rfl] at hk
          obtain ⟨k, a, e, x, v, d⟩ := t
          dsimp only at hk
          subst hk
          rfl
      · have hC := fun W (hG : Glob W) => text_c (w := W) (i := i) hG hs hi
        unfold textS at hC
        cases hQ : quotedS s i 34 with
        | none =>
          rw [hQ] at hC
          exact ⟨by decide, PLx.z58, fun w hG => next3b_c hi hc hdg rfl hG (fun W hG => hC W hG)⟩
        | some t =>
          rw [hQ] at hC
          have hk := quoted_k hQ
          refine ⟨⟨5, t.a, t.e, t.t, ⟨#[]⟩, 0, false⟩, 0, ?_, Fine.z rfl (by dsimp only; decide) (by dsimp only; decide), fun w hG => next3a_c hi hc hdg rfl hG (fun W hG => hC W hG)⟩
          rw [if_neg (by decide)] at hk
          obtain ⟨k, a, e, x, v, d⟩ := t
          dsimp only at hk
          subst hk
          rfl
    · rw [if_neg hq]
      have hq' : c ≠ 39 ∧ c ≠ 34 := by omega
      have hmN := mkJ_N c hc256
      have p60 := hp_at s ⟨#[60, 60]⟩ i hi rfl
      have p62 := hp_at s ⟨#[62, 62]⟩ i hi rfl
      by_cases hm : 0 ≤ mkJ c
      · rw [if_pos hm]
        have hN := hmN.1 hm
        have hne : ∀ p, by_ s i = p → mkN p = true := fun p h => by rw [← h, hc]; exact hN
        have hmk : markS s i = s.extract i (i + 1) := by
          unfold markS
          rw [if_neg (fun h => ?_), hc, if_pos hN]
          rcases h.2 with h2 | h2
          · exact absurd (hne _ (ext2_by s i h.1 _ _ h2)) (by decide)
          · exact absurd (hne _ (ext2_by s i h.1 _ _ h2)) (by decide)
        have hsz : (s.extract i (i + 1)).size = 1 := by rw [ext_size _ _ _ (by omega)]; omega
        refine ⟨⟨6, (i : Int), ((i + (markS s i).size : Nat) : Int), markS s i, ⟨#[]⟩, 0, false⟩, 0, ?_, Fine.z rfl (by dsimp only; decide) (by dsimp only; decide), fun w hG => next4_c hi hc hs hdg hq' (by rw [hmk]; exact sz_ne (by omega))⟩
        rw [hmk, hsz]
        rfl
      · rw [if_neg hm]
        have hN : mkN c = false := by
          cases h : mkN c
          · rfl
          · exact absurd (hmN.2 h) hm
        by_cases h2 : hpB (s.extract i s.size) ⟨#[60, 60]⟩ = true ∨ hpB (s.extract i s.size) ⟨#[62, 62]⟩ = true
        · rw [if_pos h2]
          have h3 : i + 1 < s.size ∧ (s.extract i (i + 2) = ⟨#[60, 60]⟩ ∨ s.extract i (i + 2) = ⟨#[62, 62]⟩) := by
            rcases h2 with h | h
            · have := p60.1 h; exact ⟨this.1, .inl this.2⟩
            · have := p62.1 h; exact ⟨this.1, .inr this.2⟩
          have hmk : markS s i = s.extract i (i + 2) := by
            unfold markS
            rw [if_pos h3]
          have hsz : (s.extract i (i + 2)).size = 2 := by rw [ext_size _ _ _ (by omega)]; omega
          refine ⟨⟨6, (i : Int), ((i + (markS s i).size : Nat) : Int), markS s i, ⟨#[]⟩, 0, false⟩, 0, ?_, Fine.z rfl (by dsimp only; decide) (by dsimp only; decide), fun w hG => next4_c hi hc hs hdg hq' (by rw [hmk]; exact sz_ne (by omega))⟩
          rw [hmk, hsz]
          rfl
        · rw [if_neg h2]
          have hmk : markS s i = ⟨#[]⟩ := by
            unfold markS
            rw [if_neg (fun h => ?_), hc, if_neg (by rw [hN]; decide)]
            rcases h.2 with h3 | h3
            · exact h2 (.inl (p60.2 ⟨h.1, h3⟩))
            · exact h2 (.inr (p62.2 ⟨h.1, h3⟩))
          have hr := nameGo_r s i (s.size + 1) i 0 (by omega) (by simp) (Nat.le_refl _)
          have hC := fun W (hG : Glob W) => nameD_c (w := W) (i := i) hG hs hi
          unfold nameS
          dsimp only
          by_cases e0 : (nameGo s i (s.size + 1) i 0).1 = i
          · rw [if_pos e0]
            exact ⟨by decide, _, fun w hG => next5a_c hi hc hs hdg hq' hmk (hr.1 e0) hG (fun W hG => hC W hG)⟩
          · rw [if_neg e0]
            by_cases e1 : 40 < (nameGo s i (s.size + 1) i 0).2
            · rw [if_pos e1]
              exact ⟨by decide, _, fun w hG => next5b_c hi hc hs hdg hq' hmk e1 hG (fun W hG => hC W hG)⟩
            · rw [if_neg e1]
              exact ⟨⟨1, (i : Int), ((nameGo s i (s.size + 1) i 0).1 : Int), s.extract i (nameGo s i (s.size + 1) i 0).1, ⟨#[]⟩, 0, false⟩, 0, rfl, Fine.z rfl (by dsimp only; decide) (by dsimp only; decide), fun w hG => next5c_c hi hc hs hdg hq' hmk ⟨fun h => e0 (hr.2 h), by omega⟩ hG (fun W hG => hC W hG)⟩
end Go.Proofs.YtbmnifnahbehbaaGreatDoor

/- The document's scan. -/
set_option linter.unusedVariables false
set_option linter.unusedSimpArgs false
namespace Go.Proofs.YtbmnifnahbehbaaGreatDoor
open Go.RowKit Go.Lib Go.Proofs.YtbmnifnahbehbaaGreatDoorW.PrintWords Go.Proofs.YtbmnifnahbehbaaGreatDoorW.PrintMore Go.Proofs.YtbmnifnahbehbaaGreatDoorW.PrintLast
open AvP
/-- The result's box, the list of tokens. -/
structure SB (w wx : World) (v : Value) (l : List DTk) : Prop where
  b : Below w.heap.size w wx
  f : wx.heap[w.heap.size]? = some (.cells #[.int .i64 0, .int .i64 0] 53 (0, 0))
  r : Kd.R PLx.k58 58 wx w.heap.size (fun k => k ≠ w.heap.size) v l
theorem SB.of (w : World) : SB w (w.alloc zF) (.slice none 0 0) [] := ⟨(Below.refl _ w).alloc (Nat.le_refl _) _, blk_new w _, Kd.R_nil _ _ _ _ _⟩
theorem SB.below {w wx wy : World} {v : Value} {l : List DTk} (h : SB w wx v l) (hb : Below wx.heap.size wx wy) : SB w wy v l := ⟨h.b.trans (hb.mono h.b.size), blk_below h.f hb, Kd.R_below h.r hb⟩
/-- Behind a call of next: the token's box and the fault's. -/
structure TF (w wx w6 wA : World) (v : Value) (l : List DTk) (cs fs : Array Value) : Prop where
  s : SB w wA v l
  t : wA.heap[w6.heap.size]? = some (.cells cs 58 (0, 0))
  f : wA.heap[w6.heap.size + 1]? = some (.cells fs 53 (0, 0))
  n : w.heap.size < w6.heap.size
  z : wA.heap.size = w6.heap.size + 2
  o : some w6.heap.size ≠ v.ownBlock
theorem TF.of {w wx w6 : World} {v : Value} {l : List DTk} (h : SB w wx v l) (hb : Below wx.heap.size wx w6) (cs fs : Array Value) : TF w wx w6 ((w6.alloc (.cells cs 58)).alloc (.cells fs 53)) v l cs fs := by
  have h6 := h.below hb
  have h1 := (Below.refl w6.heap.size w6).alloc (Nat.le_refl _) (.cells cs 58)
  have hs : (w6.alloc (.cells cs 58)).heap.size = w6.heap.size + 1 := by simp
  exact ⟨h6.below (h1.alloc h1.size _), blk_alloc (blk_new w6 _) _, hs ▸ blk_new _ _, blk_lt h6.f, by simp, fun e => by have := Kd.R_lt h6.r _ e.symm; omega⟩
/-- The same, the boxes by their own names. -/
structure TFg (w : World) (gt : Nat) (wA : World) (v : Value) (l : List DTk) (cs fs : Array Value) : Prop where
  s : SB w wA v l
  t : wA.heap[gt]? = some (.cells cs 58 (0, 0))
  f : wA.heap[gt + 1]? = some (.cells fs 53 (0, 0))
  n : w.heap.size < gt
  z : wA.heap.size = gt + 2
  o : some gt ≠ v.ownBlock
theorem TF.g {w wx w6 wA : World} {v : Value} {l : List DTk} {cs fs : Array Value} (h : TF w wx w6 wA v l cs fs) : TFg w w6.heap.size wA v l cs fs := ⟨h.s, h.t, h.f, h.n, h.z, h.o⟩
theorem SB.tok {w wA : World} {gt : Nat} {v : Value} {l : List DTk} (h : SB w wA v l) (ho : some gt ≠ v.ownBlock) (hn : w.heap.size < gt) (k : Nat) (u : Value) : SB w (wA.setCell ⟨gt, k, none⟩ u) v l := by
  refine ⟨Below.setCell h.b (p := ⟨gt, k, none⟩) (Nat.le_of_lt hn) _, blk_far h.f (p := ⟨gt, k, none⟩) (by dsimp only; omega) _, ?_⟩
  exact Kd.R_mono (Kd.R_far (p := ⟨gt, k, none⟩) (Kd.R_far1 h.r rfl ho) (fun _ hk => hk.2) u) (fun _ hk => hk.1)
/-- What scan answers. -/
def ScanD (w : World) (r : Except (Int × Int) (List Tok)) (E : Ending) (w' : World) : Prop :=
  match r with
  | .ok T => ∃ v l, E = .returned (.tuple #[v, .agg #[.int .i64 0, .int .i64 0]]) ∧ (∀ x ∈ l, Fine x) ∧ l.map (fun x => nrm (ab x)) = T.map nrm ∧ Kd.R PLx.k58 58 w' w.heap.size (fun k => k ≠ w.heap.size) v l ∧ Below w.heap.size w w'
  | .error (a, y) => E = .returned (.tuple #[.slice none 0 0, .agg #[.int .i64 a, .int .i64 y]]) ∧ y ≠ 0 ∧ Below w.heap.size w w'
theorem nextS_lt {s : ByteArray} {i : Nat} {t : Tok} (hi : i < s.size) (h : nextS s i = .ok t) : i < t.e.toNat ∧ t.e.toNat ≤ s.size ∧ t.a = (i : Int) ∧ t.e = (t.e.toNat : Int) := by
  unfold nextS at h
  split at h
  · rename_i hd
    have h1 := numS_lt hi (by unfold wordN; simp only [Bool.or_eq_true, decide_eq_true_iff]; omega) h
    refine ⟨h1.1, h1.2, ?_⟩
    unfold numS at h
    dsimp only at h
    split at h
    · cases h
    · cases h
      exact ⟨rfl, rfl⟩
  · split at h
    · cases hq : quotedS s i (by_ s i) with
      | none => rw [hq] at h; cases h
      | some y =>
        rw [hq] at h
        cases h
        have h1 := quotedS_lt hi hq
        refine ⟨h1.1, h1.2, ?_⟩
        unfold quotedS at hq
        cases hl : qLoop s (by_ s i) (s.size + 1) (i + 1) 0 0 ⟨#[]⟩ with
        | none => rw [hl] at hq; cases hq
        | some r =>
          obtain ⟨a, k, v, x⟩ := r
          rw [hl] at hq
          dsimp only at hq
          split at hq
          · cases hq
          · cases hq; exact ⟨rfl, rfl⟩
    · split at h
      · cases h
        exact ⟨by dsimp only; omega, by dsimp only; omega, rfl, rfl⟩
      · split at h
        · rename_i h2
          cases h
          have h3 : i + 1 < s.size := by
            rcases h2 with h2 | h2
            · exact ((hp_at s _ i hi rfl).1 h2).1
            · exact ((hp_at s _ i hi rfl).1 h2).1
          exact ⟨by dsimp only; omega, by dsimp only; omega, rfl, rfl⟩
        · have h1 := nameS_lt hi h
          refine ⟨h1.1, h1.2, ?_⟩
          unfold nameS at h
          dsimp only at h
          split at h
          · cases h
          · split at h
            · cases h
            · cases h; exact ⟨rfl, rfl⟩
set_option maxHeartbeats 8000000 in
set_option maxRecDepth 100000 in
theorem scan_c (s : ByteArray) (w : World) (hG : Glob w) (hs : s.size ≤ 99999) : Calls Tryz.prog 14 #[.string s] w (ScanD w (cutS s (s.size + 1) 0 [])) := by
  obtain ⟨R, hR⟩ : ∃ R, cutS s (s.size + 1) 0 [] = R := ⟨_, rfl⟩
  rw [hR]
  have HR := Lib.hid hR
  have HH := Lib.hid (And.intro hG hs)
  have H := Lib.hid (SB.of w)
  clear hR hG hs
  go_enter Tryz.func14, Tryz.ntmps14
  go_wp2
  go_loopg [4, 5] (s.size + 1) (fun gm v4 v5 wx => ∃ (i : Nat) (l : List DTk) (L : List Tok), .int .i64 (i : Int) = v5 ∧ i ≤ s.size ∧ l.length ≤ i ∧ Hid (s.size + 1 ≤ gm + i) ∧ Hid (SB w wx v4 l) ∧ Hid ((∀ x ∈ l, Fine x) ∧ l.map (fun x => nrm (ab x)) = L.map nrm) ∧ Hid (cutS s gm i L = R))
  case atStart => exact ⟨0, [], [], rfl, Nat.zero_le _, Nat.le_refl _, Lib.hid (by omega), H, Lib.hid ⟨fun _ h => (by cases h), rfl⟩, HR⟩
  case round =>
    obtain ⟨i, l, L, rfl, hi, hl, HI, HX, HL, HC⟩ := hrel
    obtain ⟨gm, rfl⟩ : ∃ z, gk = z + 1 := ⟨gk - 1, by have := HI.out; omega⟩
    have hC := HC.out
    rw [cutS] at hC
    by_cases his : i < s.size
    · rw [if_pos his] at hC
      have hbt := by_at s i his
      have hna := next_al s i his (by have := HH.out.2; omega)
      have hnl := fun t => nextS_lt (t := t) his
      obtain ⟨NX, hNX⟩ : ∃ q, nextS s i = q := ⟨_, rfl⟩
      rw [hNX] at hC hna
      obtain ⟨c, hc⟩ : ∃ c, by_ s i = c := ⟨_, rfl⟩
      rw [hc] at hC hbt
      have hbz : ((s[i]'his).toNat : Int) = (c : Int) := by rw [hbt]
      have q1 : (i : Int) < (s.size : Int) := by omega
      have e1 : IntKind.i64.wrap ((i : Int) + 1) = ((i + 1 : Nat) : Int) := by rw [IntKind.wrap_i64]; have := HH.out.2; omega
      clear hc hbt
      by_cases hbl : c = 32 ∨ c = 9 ∨ c = 13
      · rw [if_pos hbl] at hC
        have HC2 := Lib.hid hC
        have e35 : ((c : Int) != 35) = true := by rw [bne_iff_ne]; omega
        have hcs : ((c : Int) == 32) = true ∨ ((c : Int) == 32) = false ∧ ((c : Int) == 9) = true ∨ ((c : Int) == 32) = false ∧ ((c : Int) == 9) = false ∧ ((c : Int) == 13) = true := by
          simp only [beq_iff_eq, beq_eq_false_iff_ne, ne_eq]; omega
        clear hC hbl hna hnl hNX
        rcases hcs with h1 | ⟨h1, h2⟩ | ⟨h1, h2, h3⟩
        all_goals
          go_wp2
          go_roundg gm
          case measure => omega
          case rel => exact ⟨i + 1, l, L, rfl, by omega, by omega, Lib.hid (by have := HI.out; omega), HX, HL, HC2⟩
      · rw [if_neg hbl] at hC
        by_cases h35 : c = 35
        · subst h35
          rw [if_pos rfl] at hC
          have HRR := Lib.hid hC
          have b0 := blk_cell HX.out.f 0
          have b1 := blk_cell HX.out.f 1
          have z0 := blk_frozen HX.out.f 0
          have z1 := blk_frozen HX.out.f 1
          clear hC hbl hna hnl hNX
          go_wp2
          rw [← HRR.out]
          refine bodyPost_ret (results_tc rfl _ _ w.heap.size 53 #[.int .i64 0, .int .i64 0] (0, 0) _ rfl (blk_put (blk_put HX.out.f 0 _ rfl) 1 _ rfl) Tryz.underlying53 rfl (by kernel_rfl)) rfl ?_
          exact ⟨_, _, rfl, HL.out.1, HL.out.2, Kd.R_far (p := ⟨w.heap.size, 1, none⟩) (Kd.R_far (p := ⟨w.heap.size, 0, none⟩) HX.out.r (fun _ h => h) _) (fun _ h => h) _, Below.setCell (Below.setCell HX.out.b (p := ⟨w.heap.size, 0, none⟩) (Nat.le_refl _) _) (p := ⟨w.heap.size, 1, none⟩) (Nat.le_refl _) _⟩
        · rw [if_neg h35] at hC
          have e32 : ((c : Int) == 32) = false := by rw [beq_eq_false_iff_ne]; omega
          have e9 : ((c : Int) == 9) = false := by rw [beq_eq_false_iff_ne]; omega
          have e13 : ((c : Int) == 13) = false := by rw [beq_eq_false_iff_ne]; omega
          have e35 : ((c : Int) != 35) = true := by rw [bne_iff_ne]; omega
          clear hbl h35
          cases hnx : NX with
          | error e =>
            obtain ⟨ea, ey⟩ := e
            rw [hnx] at hna hC
            obtain ⟨hy, x, hca⟩ := hna
            obtain ⟨x0, x1, x2, x3, x4, x5, x6⟩ := x
            have HCA := Lib.hid (show ∀ w, Glob w → Calls Tryz.prog 27 #[.string s, .int .i64 (i : Int)] w fun e w' => e = .returned (.tuple #[.agg #[.int .i64 x0, .int .i64 x1, .int .i64 x2, .string x3, .string x4, .int .u64 x5, .bool x6], .agg #[.int .i64 ea, .int .i64 ey]]) ∧ Below w.heap.size w w' from hca)
            have HRR := Lib.hid hC
            have HYY := Lib.hid hy
            have y9 : (ey != 0) = true := by rw [bne_iff_ne]; exact hy
            clear hC hnl hNX hnx hca hy
            go_upto_region 7 with (first
              | (go_at_call 27; refine (HCA.out _ (Glob.step HH.out.1 HX.out.b)).mono ?_; rintro e6 w6 ⟨rfl, hb6⟩; have HS6 := Lib.hid (TF.of HX.out hb6 #[.int .i64 x0, .int .i64 x1, .int .i64 x2, .string x3, .string x4, .int .u64 x5, .bool x6] #[.int .i64 ea, .int .i64 ey]); clear hb6))
            obtain ⟨wA, hwA⟩ : ∃ q, (w6.alloc (.cells #[.int .i64 x0, .int .i64 x1, .int .i64 x2, .string x3, .string x4, .int .u64 x5, .bool x6] 58)).alloc (.cells #[.int .i64 ea, .int .i64 ey] 53) = q := ⟨_, rfl⟩
            obtain ⟨gt, hgt⟩ : ∃ q, w6.heap.size = q := ⟨_, rfl⟩
            have HS6 : Hid (TFg w gt wA u4 l #[.int .i64 x0, .int .i64 x1, .int .i64 x2, .string x3, .string x4, .int .u64 x5, .bool x6] #[.int .i64 ea, .int .i64 ey]) := Lib.hid (by rw [← hwA, ← hgt]; exact HS6.out.g)
            rw [hwA, hgt]
            clear hgt
            obtain ⟨gf, hgf⟩ : ∃ q, gt + 1 = q := ⟨_, rfl⟩
            have HS6f := HS6.out.f
            rw [hgf] at HS6f ⊢
            have d0 := blk_cell HS6f 0
            have d1 := blk_cell HS6f 1
            have b0 := blk_cell HS6.out.s.f 0
            have b1 := blk_cell HS6.out.s.f 1
            have z0 := blk_frozen HS6.out.s.f 0
            have z1 := blk_frozen HS6.out.s.f 1
            have hne : w.heap.size ≠ gf := by have := HS6.out.n; omega
            clear hgf hwA HS6f
            go_wp2
            go_region_held2 (fun w' => w'.cell? ⟨gf, 0, none⟩ = some (.int .i64 ea) ∧ w'.cell? ⟨gf, 1, none⟩ = some (.int .i64 ey)) (first | exact ⟨d0, d1⟩ | go_keep) (fail)
            go_wp2
            rw [← HRR.out]
            refine bodyPost_ret (results_tc rfl _ _ w.heap.size 53 #[.int .i64 ea, .int .i64 ey] (0, 0) _ rfl (blk_drew (blk_put (blk_put HS6.out.s.f 0 _ rfl) 1 _ rfl)) Tryz.underlying53 rfl (by kernel_rfl)) rfl ?_
            exact ⟨rfl, HYY.out, below_drew (Below.setCell (Below.setCell HS6.out.s.b (p := ⟨w.heap.size, 0, none⟩) (Nat.le_refl _) _) (p := ⟨w.heap.size, 1, none⟩) (Nat.le_refl _) _)⟩
          | ok t =>
            rw [hnx] at hna hC
            obtain ⟨x, a, hal, hfi, hca⟩ := hna
            obtain ⟨ht1, ht2, ht3, ht4⟩ := hnl t (hNX.trans hnx)
            obtain ⟨n, hn⟩ : ∃ n, t.e.toNat = n := ⟨_, rfl⟩
            have ha1 := hal.a.trans ht3
            have ha2 := hal.e.trans ht4
            dsimp only at hC
            rw [hn] at ht1 ht2 ha2 hC
            obtain ⟨x0, x1, x2, x3, x4, x5, x6⟩ := x
            dsimp only at ha1 ha2
            subst ha1 ha2
            have HCA := Lib.hid (show ∀ w, Glob w → Calls Tryz.prog 27 #[.string s, .int .i64 (i : Int)] w fun e w' => e = .returned (.tuple #[.agg #[.int .i64 x0, .int .i64 (i : Int), .int .i64 (n : Int), .string x3, .string x4, .int .u64 x5, .bool x6], .agg #[.int .i64 a, .int .i64 0]]) ∧ Below w.heap.size w w' from hca)
            have HC2 := Lib.hid hC
            have HAL := Lib.hid (And.intro hal hfi)
            clear hfi hC hnl hNX hnx hca hal ht3 ht4 hn
            go_upto_region 7 with (first
              | (go_at_call 27; refine (HCA.out _ (Glob.step HH.out.1 HX.out.b)).mono ?_; rintro e6 w6 ⟨rfl, hb6⟩; have HS6 := Lib.hid (TF.of HX.out hb6 #[.int .i64 x0, .int .i64 (i : Int), .int .i64 (n : Int), .string x3, .string x4, .int .u64 x5, .bool x6] #[.int .i64 a, .int .i64 0]); clear hb6))
            obtain ⟨wA, hwA⟩ : ∃ q, (w6.alloc (.cells #[.int .i64 x0, .int .i64 (i : Int), .int .i64 (n : Int), .string x3, .string x4, .int .u64 x5, .bool x6] 58)).alloc (.cells #[.int .i64 a, .int .i64 0] 53) = q := ⟨_, rfl⟩
            obtain ⟨gt, hgt⟩ : ∃ q, w6.heap.size = q := ⟨_, rfl⟩
            have HS6 : Hid (TFg w gt wA u4 l #[.int .i64 x0, .int .i64 (i : Int), .int .i64 (n : Int), .string x3, .string x4, .int .u64 x5, .bool x6] #[.int .i64 a, .int .i64 0]) := Lib.hid (by rw [← hwA, ← hgt]; exact HS6.out.g)
            rw [hwA, hgt]
            clear hgt
            have d0 := blk_cell HS6.out.f 0
            have d1 := blk_cell HS6.out.f 1
            have b0 := blk_cell HS6.out.t 0
            have b1 := blk_cell HS6.out.t 1
            have b2 := blk_cell HS6.out.t 2
            have b3 := blk_cell HS6.out.t 3
            have b4 := blk_cell HS6.out.t 4
            have b5 := blk_cell HS6.out.t 5
            have b6 := blk_cell HS6.out.t 6
            have z4 := blk_frozen HS6.out.t 4
            have k1 : i ≤ n := Nat.le_of_lt ht1
            have k2 : n ≤ s.size := ht2
            clear hwA
            go_upto_region 10 with (fail)
            obtain ⟨raw, hraw⟩ : ∃ q, s.extract i n = q := ⟨_, rfl⟩
            rw [hraw]
            have hT4 := blk_put HS6.out.t 4 (.string raw) rfl
            have hS4 : SB w (wA.setCell ⟨gt, 4, none⟩ (.string raw)) u4 l := HS6.out.s.tok HS6.out.o HS6.out.n _ _
            have hz4 : (wA.setCell ⟨gt, 4, none⟩ (.string raw)).heap.size = gt + 2 := (by simpa using HS6.out.z)
            obtain ⟨wB, hwB⟩ : ∃ q, wA.setCell ⟨gt, 4, none⟩ (.string raw) = q := ⟨_, rfl⟩
            rw [hwB] at hT4 hS4 hz4 ⊢
            clear b0 b1 b2 b3 b4 b5 b6 d0 d1 z4 hwB hraw
            have b0 := blk_cell hT4 0
            have b1 := blk_cell hT4 1
            have b2 := blk_cell hT4 2
            have b3 := blk_cell hT4 3
            have b4 := blk_cell hT4 4
            have b5 := blk_cell hT4 5
            have b6 := blk_cell hT4 6
            have HSB := Lib.hid (And.intro hT4 (And.intro hS4 (And.intro hz4 (And.intro HS6.out.n HS6.out.o))))
            clear hT4 hS4 hz4
            go_wp2_with (first
              | ((with_reducible refine gate_builtin (b := .append) (xs := #[.tmp 53, .tmp 55]) rfl ?_)
                 at_builtin
                 refine Kd.R_append PLx.k58 (w0 := w) (W := wB) w.heap.size rfl (.tmp 53) (.tmp 55) 54 58 (.agg zTc) 72 rfl Tryz.underlying54 PLx.info58 rfl (by decide) (by omega) u4 l ⟨x0, i, n, x3, raw, x5, x6⟩ [.int .i64 x0, .int .i64 (i : Int), .int .i64 (n : Int), .string x3, .string raw, .int .u64 x5, .bool x6] (fun k => k ≠ w.heap.size) (fun _ => False) rfl (by first | (go_simp; done) | (go_simp; rfl)) (PLx.k58_mkM _ _ _ ⟨x0, i, n, x3, raw, x5, x6⟩) (fun _ hk => hk.elim) (fun k hk => by have := HSB.out.2.2.1; have := HSB.out.2.2.2.1; omega) HSB.out.2.1.r HSB.out.2.1.b HSB.out.2.1.b.size (by have := HH.out.2; omega) ?_
                 intro v1 w31 ho hb hg hat
                 have HX2 := Lib.hid (SB.mk hb (blk_grown HSB.out.2.1.f hg (Kd.R_ne HSB.out.2.1.r HSB.out.2.1.f (by decide))) ho)
                 have b2 : w31.cell? ⟨gt, 2, none⟩ = some (.int .i64 (n : Int)) := blk_cell (blk_grown HSB.out.1 hg HSB.out.2.2.2.2) 2
                 clear ho hb hg hat))
            go_roundg gm
            case measure => omega
            case rel => exact ⟨n, l ++ [⟨x0, i, n, x3, raw, x5, x6⟩], L ++ [t], rfl, k2, by rw [List.length_append]; simp; omega, Lib.hid (by have := HI.out; omega), HX2, Lib.hid ⟨fun y hy => (List.mem_append.1 hy).elim (HL.out.1 y) (fun h => by rw [List.mem_singleton.1 h]; exact HAL.out.2), by rw [List.map_append, List.map_append, HL.out.2]; congr 1; exact congrArg (fun q => [q]) HAL.out.1⟩, HC2⟩
    · rw [if_neg his] at hC
      have HRR := Lib.hid hC
      have b0 := blk_cell HX.out.f 0
      have b1 := blk_cell HX.out.f 1
      have z0 := blk_frozen HX.out.f 0
      have z1 := blk_frozen HX.out.f 1
      have q1 : ((i : Int) < (s.size : Int)) = False := eq_false (by omega)
      have q2 : (i < s.size) = False := eq_false his
      clear hC his
      go_wp2
      rw [← HRR.out]
      refine bodyPost_ret (results_tc rfl _ _ w.heap.size 53 #[.int .i64 0, .int .i64 0] (0, 0) _ rfl (blk_put (blk_put HX.out.f 0 _ rfl) 1 _ rfl) Tryz.underlying53 rfl (by kernel_rfl)) rfl ?_
      exact ⟨_, _, rfl, HL.out.1, HL.out.2, Kd.R_far (p := ⟨w.heap.size, 1, none⟩) (Kd.R_far (p := ⟨w.heap.size, 0, none⟩) HX.out.r (fun _ h => h) _) (fun _ h => h) _, Below.setCell (Below.setCell HX.out.b (p := ⟨w.heap.size, 0, none⟩) (Nat.le_refl _) _) (p := ⟨w.heap.size, 1, none⟩) (Nat.le_refl _) _⟩
end Go.Proofs.YtbmnifnahbehbaaGreatDoor

/- The document's told, Value. -/
set_option linter.unusedVariables false
set_option linter.unusedSimpArgs false
namespace Go.Proofs.YtbmnifnahbehbaaGreatDoor
open Go.RowKit Go.Lib Go.Proofs.YtbmnifnahbehbaaGreatDoorW.PrintWords Go.Proofs.YtbmnifnahbehbaaGreatDoorW.PrintMore Go.Proofs.YtbmnifnahbehbaaGreatDoorW.PrintLast
open AvP
abbrev z30 : Obj := .cells #[.int .i64 0, .int .i64 0, .int .i64 0] 30
set_option maxHeartbeats 8000000 in
set_option maxRecDepth 100000 in
theorem told_c (l a y : Int) (w : World) : Calls Tryz.prog 13 #[.int .i64 l, .agg #[.int .i64 a, .int .i64 y]] w fun e w' => e = .returned (.agg #[.int .i64 l, .int .i64 a, .int .i64 y]) ∧ Below w.heap.size w w' := by
  have hA := (Below.refl w.heap.size w).alloc (Nat.le_refl _) (.cells #[.int .i64 a, .int .i64 y] 53)
  have hs : (w.alloc (.cells #[.int .i64 a, .int .i64 y] 53)).heap.size = w.heap.size + 1 := by simp
  have hB := hA.alloc hA.size (.cells #[.int .i64 l, .int .i64 a, .int .i64 y] 30)
  have hx := blk_new (w.alloc (.cells #[.int .i64 a, .int .i64 y] 53)) (.cells #[.int .i64 l, .int .i64 a, .int .i64 y] 30)
  rw [hs] at hx
  have HB := Lib.hid (And.intro hB hx)
  clear hA hs hB hx
  go_enter Tryz.func13, Tryz.ntmps13
  go_wp2
  refine bodyPost_ret (results_cell_row (fn := Tryz.f13) (p := 4) (ty := 30) rfl _ _ (w.heap.size + 1) 30 #[.int .i64 l, .int .i64 a, .int .i64 y] (0, 0) _ rfl HB.out.2 Tryz.underlying30 rfl (by kernel_rfl)) rfl ?_
  exact ⟨rfl, HB.out.1⟩
/-- What Value answers. -/
def ValD (w : World) (R : EvR) (E : Ending) (w' : World) : Prop :=
  match R with
  | .ok x => E = .returned (.tuple #[.int .u64 x, .agg #[.int .i64 0, .int .i64 0, .int .i64 0]]) ∧ Below w.heap.size w w'
  | .error (a, y) => E = .returned (.tuple #[.int .u64 0, .agg #[.int .i64 0, .int .i64 a, .int .i64 y]]) ∧ y ≠ 0 ∧ Below w.heap.size w w'
/-- The result's box beside what is made. -/
structure QB (w wx : World) : Prop where
  b : Below w.heap.size w wx
  q : wx.heap[w.heap.size]? = some (.cells #[.int .i64 0, .int .i64 0, .int .i64 0] 30 (0, 0))
theorem QB.of (w : World) : QB w (w.alloc z30) := ⟨(Below.refl _ w).alloc (Nat.le_refl _) _, blk_new w _⟩
theorem QB.below {w wx wy : World} (h : QB w wx) (hb : Below wx.heap.size wx wy) : QB w wy := ⟨h.b.trans (hb.mono h.b.size), blk_below h.q hb⟩
theorem QB.box {w wx w5 : World} (h : QB w wx) (hb : Below wx.heap.size wx w5) (cs : Array Value) (tc : TypeId) : QB w (w5.alloc (.cells cs tc)) ∧ (w5.alloc (.cells cs tc)).heap[w5.heap.size]? = some (.cells cs tc (0, 0)) ∧ w.heap.size < w5.heap.size :=
  ⟨h.below (hb.alloc hb.size _), blk_new _ _, blk_lt (h.below hb).q⟩
set_option maxHeartbeats 8000000 in
set_option maxRecDepth 100000 in
theorem valueD1_c {w : World} {s : ByteArray} {A : Option Addr} {n cp : Nat} (h : 1000 < s.size) :
    Calls Tryz.prog 5 #[.string s, .slice A n cp] w (ValD w (.error (1000, 80))) := by
  have q1 : (1000 : Int) < (s.size : Int) := by omega
  have HT := Lib.hid (told_c 0 1000 80)
  have HQ := Lib.hid (QB.of w)
  clear h
  go_enter Tryz.func5, Tryz.ntmps5
  go_wp2_with (first
    | (go_at_call 13; refine (HT.out _).mono ?_; rintro e1 w1 ⟨rfl, hb1⟩; have HS := Lib.hid (HQ.out.below hb1); have b0 := blk_cell HS.out.q 0; have b1 := blk_cell HS.out.q 1; have b2 := blk_cell HS.out.q 2; have z0 := blk_frozen HS.out.q 0; have z1 := blk_frozen HS.out.q 1; have z2 := blk_frozen HS.out.q 2; clear hb1))
  refine bodyPost_ret (results_tc rfl _ _ w.heap.size 30 #[.int .i64 0, .int .i64 1000, .int .i64 80] (0, 0) _ rfl (blk_put (blk_put (blk_put HS.out.q 0 _ rfl) 1 _ rfl) 2 _ rfl) Tryz.underlying30 rfl (by kernel_rfl)) rfl ?_
  exact ⟨rfl, by decide, (Below.setCell (Below.setCell (Below.setCell HS.out.b (p := ⟨w.heap.size, 0, none⟩) (Nat.le_refl _) _) (p := ⟨w.heap.size, 1, none⟩) (Nat.le_refl _) _) (p := ⟨w.heap.size, 2, none⟩) (Nat.le_refl _) _)⟩
set_option maxHeartbeats 8000000 in
set_option maxRecDepth 100000 in
theorem valueD2_c {w : World} {s : ByteArray} {A : Option Addr} {n cp : Nat} {a y : Int} (h : ¬ 1000 < s.size) (hy : y ≠ 0) (hC : Calls Tryz.prog 14 #[.string s] (w.alloc z30) fun e w' => e = .returned (.tuple #[.slice none 0 0, .agg #[.int .i64 a, .int .i64 y]]) ∧ Below (w.alloc z30).heap.size (w.alloc z30) w') :
    Calls Tryz.prog 5 #[.string s, .slice A n cp] w (ValD w (.error (a, y))) := by
  have q1 : ((1000 : Int) < (s.size : Int)) = False := eq_false (by omega)
  have y9 : (y != 0) = true := by rw [bne_iff_ne]; exact hy
  have HT := Lib.hid (told_c 0 a y)
  have HQ := Lib.hid (QB.of w)
  have HY := Lib.hid hy
  have HC := Lib.hid hC
  clear h hC hy
  go_enter Tryz.func5, Tryz.ntmps5
  go_upto_region 4 with (first
    | (go_at_call 14; refine HC.out.mono ?_; rintro e6 w6 ⟨rfl, hb6⟩; have HS6 := Lib.hid (HQ.out.box hb6 #[.int .i64 a, .int .i64 y] 53); clear hb6))
  obtain ⟨wA, hwA⟩ : ∃ q, w6.alloc (.cells #[.int .i64 a, .int .i64 y] 53) = q := ⟨_, rfl⟩
  obtain ⟨gf, hgf⟩ : ∃ q, w6.heap.size = q := ⟨_, rfl⟩
  rw [hwA, hgf] at HS6 ⊢
  have HS := Lib.hid HS6.out.1
  have b0 := blk_cell HS.out.q 0
  have b1 := blk_cell HS.out.q 1
  have b2 := blk_cell HS.out.q 2
  have z0 := blk_frozen HS.out.q 0
  have z1 := blk_frozen HS.out.q 1
  have z2 := blk_frozen HS.out.q 2
  have d0 := blk_cell HS6.out.2.1 0
  have d1 := blk_cell HS6.out.2.1 1
  clear hwA hgf
  go_wp2_with (first
    | (go_at_call 13; refine (HT.out _).mono ?_; rintro e1 w1 ⟨rfl, hb1⟩; have HS9 := Lib.hid (HS.out.below hb1); clear b0 b1 b2 z0 z1 z2; have b0 := blk_cell HS9.out.q 0; have b1 := blk_cell HS9.out.q 1; have b2 := blk_cell HS9.out.q 2; have z0 := blk_frozen HS9.out.q 0; have z1 := blk_frozen HS9.out.q 1; have z2 := blk_frozen HS9.out.q 2; clear hb1))
  refine bodyPost_ret (results_tc rfl _ _ w.heap.size 30 #[.int .i64 0, .int .i64 a, .int .i64 y] (0, 0) _ rfl (blk_put (blk_put (blk_put HS9.out.q 0 _ rfl) 1 _ rfl) 2 _ rfl) Tryz.underlying30 rfl (by kernel_rfl)) rfl ?_
  exact ⟨rfl, HY.out, (Below.setCell (Below.setCell (Below.setCell HS9.out.b (p := ⟨w.heap.size, 0, none⟩) (Nat.le_refl _) _) (p := ⟨w.heap.size, 1, none⟩) (Nat.le_refl _) _) (p := ⟨w.heap.size, 2, none⟩) (Nat.le_refl _) _)⟩
/-- The parser's box apart. -/
theorem slice_C {W : World} {base : Nat} {ok : Nat → Prop} {v : Value} {l : List DTk} (h : Kd.R PLx.k58 58 W base ok v l) : ∃ A c, v = .slice A l.length c ∧ Kd.C PLx.k58 W A l.length l := by
  obtain ⟨A, c, rfl⟩ := Kd.R_slice h
  exact ⟨A, c, rfl, (Kd.R_reads' h).2.2⟩
end Go.Proofs.YtbmnifnahbehbaaGreatDoor

/- The document's Value, its tokens whole. -/
set_option linter.unusedVariables false
set_option linter.unusedSimpArgs false
namespace Go.Proofs.YtbmnifnahbehbaaGreatDoor
open Go.RowKit Go.Lib Go.Proofs.YtbmnifnahbehbaaGreatDoorW.PrintWords Go.Proofs.YtbmnifnahbehbaaGreatDoorW.PrintMore Go.Proofs.YtbmnifnahbehbaaGreatDoorW.PrintLast
open AvP
def knL (x : ByteArray × Int) : List Value := [.string x.1, .int .u64 x.2, .bool true, .bool false]
theorem kKn_mkM (w : World) (base : Nat) (ok : Nat → Prop) (x : ByteArray × Int) : kKn.M w base ok x (knL x) := ⟨[.string x.1], [.int .u64 x.2, .bool true, .bool false], rfl, rfl, ⟨[.int .u64 x.2], [.bool true, .bool false], rfl, rfl, ⟨[.bool true], [.bool false], rfl, rfl, rfl⟩⟩⟩
theorem info65 : ∃ i, Tryz.prog.info? 65 = some i ∧ i.zero = some (.agg #[.string ⟨#[]⟩, .int .u64 0, .bool false, .bool false]) ∧ i.size = 4 ∧ i.bytes = 32 := by
  have h : (Tryz.prog.info? 65).map (fun i => (i.zero, i.size, i.bytes)) = some (some (.agg #[.string ⟨#[]⟩, .int .u64 0, .bool false, .bool false]), 4, 32) := by kernel_rfl
  cases h2 : Tryz.prog.info? 65 with
  | none => rw [h2] at h; cases h
  | some i =>
    rw [h2] at h
    simp only [Option.map_some, Option.some.injEq, Prod.mk.injEq] at h
    exact ⟨i, rfl, h.1, h.2.1, h.2.2⟩
theorem DTree.ty {W : World} {g b5 t5 : Nat} {cs : Array Value} (h5 : W.heap[b5]? = some (.cells cs t5 (0, 0))) (ht : t5 ≠ 98) : ∀ {e : Ex} {v : Value}, DTree W g e v → DTree W b5 e v
  | .leaf t, v, ⟨x, b, e0, e1, h1, h2⟩ => ⟨x, b, e0, e1, fun e => by subst e; rw [h5] at h2; injection h2 with h2; injection h2 with _ h3; exact ht h3, h2⟩
  | .un t e, v, ⟨x, b, ev, e0, e1, h1, h2, h3⟩ => ⟨x, b, ev, e0, e1, fun e => by subst e; rw [h5] at h2; injection h2 with h2; injection h2 with _ h3; exact ht h3, h2, DTree.ty h5 ht h3⟩
  | .bin t l r, v, ⟨x, b, lv, rv, e0, e1, h1, h2, h3, h4⟩ => ⟨x, b, lv, rv, e0, e1, fun e => by subst e; rw [h5] at h2; injection h2 with h2; injection h2 with _ h3; exact ht h3, h2, DTree.ty h5 ht h3, DTree.ty h5 ht h4⟩
/-- Only this row's block has changed. -/
theorem DTree.grown {W W1 : World} {g : Nat} {row : Option Nat} (hg : W.grownBy W1 row) (hr : ∀ k, row = some k → ∃ cs t, W.heap[k]? = some (.cells cs t (0, 0)) ∧ t ≠ 98) : ∀ {e : Ex} {v : Value}, DTree W g e v → DTree W1 g e v
  | .leaf t, v, ⟨x, b, e0, e1, h1, h2⟩ => ⟨x, b, e0, e1, h1, (hg.block b (blk_lt h2) (fun e => by obtain ⟨cs, t, h5, ht⟩ := hr b e.symm; rw [h5] at h2; injection h2 with h2; injection h2 with _ h3; exact ht h3)).trans h2⟩
  | .un t e, v, ⟨x, b, ev, e0, e1, h1, h2, h3⟩ => ⟨x, b, ev, e0, e1, h1, (hg.block b (blk_lt h2) (fun e => by obtain ⟨cs, t, h5, ht⟩ := hr b e.symm; rw [h5] at h2; injection h2 with h2; injection h2 with _ h3; exact ht h3)).trans h2, DTree.grown hg hr h3⟩
  | .bin t l r, v, ⟨x, b, lv, rv, e0, e1, h1, h2, h3, h4⟩ => ⟨x, b, lv, rv, e0, e1, h1, (hg.block b (blk_lt h2) (fun e => by obtain ⟨cs, t, h5, ht⟩ := hr b e.symm; rw [h5] at h2; injection h2 with h2; injection h2 with _ h3; exact ht h3)).trans h2, DTree.grown hg hr h3, DTree.grown hg hr h4⟩
theorem QB.far {w wx : World} {g : Nat} (h : QB w wx) (hg : w.heap.size < g) (k : Nat) (u : Value) : QB w (wx.setCell ⟨g, k, none⟩ u) :=
  ⟨Below.setCell h.b (p := ⟨g, k, none⟩) (Nat.le_of_lt hg) _, blk_far h.q (p := ⟨g, k, none⟩) (by dsimp only; omega) _⟩
/-- The boxes of Value: its result, the fault, the scope with the row v0; the row v of names, the tree. -/
structure VBp (w : World) (gf gs : Nat) (fa : Int) (l : List (ByteArray × Int)) (e : Ex) (p v0 v : Value) (wx : World) : Prop where
  q : QB w wx
  f : wx.heap[gf]? = some (.cells #[.int .i64 fa, .int .i64 0] 53 (0, 0))
  s : wx.heap[gs]? = some (.cells #[v0, .string ⟨#[]⟩, .int .u64 0, .bool false, .bool false, .slice none 0 0, .int .i64 0, .bool false] 68 (0, 0))
  r : Kd.R kKn 65 wx w.heap.size (fun k => k ≠ w.heap.size ∧ k ≠ gf ∧ k ≠ gs) v l
  t : DTree wx gs e p
  gf0 : w.heap.size < gf
  gs0 : w.heap.size < gs
  n : gf ≠ gs
section
variable {w W W' : World} {gf gs : Nat} {fa : Int} {l : List (ByteArray × Int)} {e : Ex} {p v0 v : Value}
theorem VBp.below (h : VBp w gf gs fa l e p v0 v W) (hb : Below W.heap.size W W') : VBp w gf gs fa l e p v0 v W' :=
  ⟨h.q.below hb, blk_below h.f hb, blk_below h.s hb, Kd.R_below h.r hb, h.t.below hb, h.gf0, h.gs0, h.n⟩
theorem VBp.drew (h : VBp w gf gs fa l e p v0 v W) : VBp w gf gs fa l e p v0 v W.drew := h.below (below_drew (Below.refl _ _))
theorem VBp.set (h : VBp w gf gs fa l e p v0 v W) : VBp w gf gs fa l e p v v (W.setCell ⟨gs, 0, none⟩ v) :=
  ⟨h.q.far h.gs0 0 _, blk_far h.f (p := ⟨gs, 0, none⟩) h.n _, blk_put h.s 0 _ rfl, Kd.R_far (p := ⟨gs, 0, none⟩) h.r (fun _ hk => hk.2.2) _, h.t.kg ((KG.refl gs W).set 0 _), h.gf0, h.gs0, h.n⟩
theorem VBp.app (h : VBp w gf gs fa l e p v0 v W) (x : ByteArray × Int) (hl : l.length ≤ 1000000000) :
    ∃ v' w1, (Builtin.append_ #[63, 63] 63 #[v, .slice (some ⟨W.heap.size, 0, none⟩) 1 1]).run Tryz.prog (W.alloc (.cells (knL x).toArray 65)) = .ok v' w1 ∧ VBp w gf gs fa (l ++ [x]) e p v0 v' w1 := by
  obtain ⟨inf, hi, hz, hsz, hby⟩ := info65
  have hA : VBp w gf gs fa l e p v0 v (W.alloc (.cells (knL x).toArray 65)) := h.below ((Below.refl W.heap.size W).alloc (Nat.le_refl _) (.cells (knL x).toArray 65))
  obtain ⟨h0, inner, hown, hr⟩ := hA.r
  have hnew := blk_new W (Obj.cells (knL x).toArray 65)
  obtain ⟨v1, w1, hrun, hown1, hg1, _, hat⟩ := run_append_own_at (w := W.alloc (.cells (knL x).toArray 65)) (P := Tryz.prog) w.heap.size 63 63 65 inf _ 4 32 Tryz.underlying63 hi hz hsz hby rfl (by decide) v l.length inner hown ⟨W.heap.size, 0, none⟩ 1 1 (knL x) rfl (fun j u hu => by
    have : (knL x).toArray[j]? = some u := by simpa using hu
    rw [Addr.add_lit, Nat.zero_add]
    exact (blk_cell hnew j).trans this) (by simp [knL, Value.oneCell']) (by show l.length + 1 ≤ 9223372036854775807; omega) (by omega) hA.q.b.size
  have hlt := hA.q.b.size
  have hR := Kd.R_appended h0 hr (kKn_mkM (W.alloc (.cells (knL x).toArray 65)) w.heap.size (fun _ => False) x) (fun _ h => h.elim) (fun k hk => ⟨by have := blk_lt hA.q.q; omega, by have := blk_lt hA.f; omega, by have := blk_lt hA.s; omega⟩) hown1 hg1 (hat.imp id (fun e => ⟨_, e, Nat.le_refl _⟩))
  have hrow : ∀ k, v.ownBlock = some k → ∃ cs t, (W.alloc (.cells (knL x).toArray 65)).heap[k]? = some (.cells cs t (0, 0)) ∧ t ≠ 98 := fun k hk => by
    obtain ⟨_, _, _, q, hq, cells, hc⟩ := (Kd.R_bound hA.r).1 k hk
    refine ⟨cells, q, hc, ?_⟩
    rcases List.mem_cons.1 hq with rfl | hq
    · decide
    · cases hq
  refine ⟨v1, w1, hrun, ⟨?_, ?_⟩, ?_, ?_, hR, h.t.below ((Below.refl W.heap.size W).alloc (Nat.le_refl _) (.cells (knL x).toArray 65)) |>.grown hg1 hrow, h.gf0, h.gs0, h.n⟩
  · refine ⟨hg1.os.trans hA.q.b.os, hg1.tape.trans hA.q.b.tape, hg1.output.trans hA.q.b.output, Nat.le_trans hA.q.b.size hg1.size, fun j hj => (hg1.block j (Nat.lt_of_lt_of_le hj hA.q.b.size) (fun e => ?_)).trans (hA.q.b.block j hj)⟩
    exact absurd (Kd.R_bound hA.r).1 (fun hh => by have := (hh j e.symm).2.1; omega)
  · exact blk_grown hA.q.q hg1 (fun e => (hA.r.1 _ e.symm).1 rfl)
  · exact blk_grown hA.f hg1 (fun e => (hA.r.1 _ e.symm).2.1 rfl)
  · exact blk_grown hA.s hg1 (fun e => (hA.r.1 _ e.symm).2.2 rfl)
end
/-- What the tokens are worth. -/
def PDn (nm : Tok → Option Int) (R : EvR) (l : List DTk) : Prop := ∃ f r, pD (l.map ab) f (.lv 0 0 0) = some r ∧ (match r with
  | .error x => R = .error x
  | .ok (e, j) => if j < l.length then R = .error (hereD l (behind l) j, 83) else R = ev nm e ∧ Wf e ∧ Lk e)
end Go.Proofs.YtbmnifnahbehbaaGreatDoor

/- The document's Value walked, its tokens whole. -/
set_option linter.unusedVariables false
set_option linter.unusedSimpArgs false
namespace Go.Proofs.YtbmnifnahbehbaaGreatDoor
open Go.RowKit Go.Lib Go.Proofs.YtbmnifnahbehbaaGreatDoorW.PrintWords Go.Proofs.YtbmnifnahbehbaaGreatDoorW.PrintMore Go.Proofs.YtbmnifnahbehbaaGreatDoorW.PrintLast
open AvP
set_option maxHeartbeats 8000000 in
set_option maxRecDepth 100000 in
theorem valueD3_c {w : World} {s : ByteArray} {A : Option Addr} {n cp : Nat} {T : List Tok} {R : EvR} {nl : List (ByteArray × Int)} (hG : Glob w) (hl : Kd.C k37 w A n nl) (hn : n ≤ 1000000000) (hr : ∀ y ∈ nl, 0 ≤ y.2 ∧ y.2 < 18446744073709551616)
    (h : ¬ 1000 < s.size) (hT : cutS s (s.size + 1) 0 [] = .ok T) (hL : ∀ l : List DTk, (∀ x ∈ l, Fine x) → l.map (fun x => nrm (ab x)) = T.map nrm → PDn (named nl) R l) :
    Calls Tryz.prog 5 #[.string s, .slice A n cp] w (ValD w R) := by
  have q1 : ((1000 : Int) < (s.size : Int)) = False := eq_false (by omega)
  have hC := scan_c s (w.alloc z30) (Glob.step hG ((Below.refl _ w).alloc (Nat.le_refl _) _)) (by omega)
  have hTl := cutS_len s _ _ _ _ (by simp) hT
  rw [hT] at hC
  have HQ := Lib.hid (QB.of w)
  have HC := Lib.hid hC
  have HLL := Lib.hid hL
  have HH := Lib.hid (And.intro hG (And.intro hl (And.intro hn hr)))
  have HTL := Lib.hid (show T.length ≤ 1002 by simp at hTl; omega)
  have hn1 : n ≤ 1000000000 := hn
  have hln : nl.length = n := hl.1
  clear h hT hC hL hG hl hn hr hTl
  go_enter Tryz.func5, Tryz.ntmps5
  go_upto_region 4 with (first
    | (go_at_call 14; refine HC.out.mono ?_; rintro e6 w6 ⟨v, l, rfl, hfi, hnr, hR, hb6⟩; obtain ⟨B, cb, rfl, hKC⟩ := slice_C hR; have HS6 := Lib.hid (HQ.out.box hb6 #[.int .i64 0, .int .i64 0] 53); have HK := Lib.hid (Kd.C_below hKC ((Below.refl _ _).alloc (Nat.le_refl _) (.cells #[.int .i64 0, .int .i64 0] 53))); have HPD := Lib.hid (HLL.out l hfi hnr); have HLT := Lib.hid (show l.length ≤ 1002 by have := congrArg List.length hnr; rw [List.length_map, List.length_map] at this; have := HTL.out; omega); clear hb6 hKC hR hfi hnr))
  obtain ⟨wA, hwA⟩ : ∃ q, w6.alloc (.cells #[.int .i64 0, .int .i64 0] 53) = q := ⟨_, rfl⟩
  obtain ⟨gf, hgf⟩ : ∃ q, w6.heap.size = q := ⟨_, rfl⟩
  rw [hwA, hgf] at HS6 ⊢
  rw [hwA] at HK
  have d0 := blk_cell HS6.out.2.1 0
  have d1 := blk_cell HS6.out.2.1 1
  obtain ⟨m, hm⟩ : ∃ m, l.length = m := ⟨_, rfl⟩
  obtain ⟨bh, hbh⟩ : ∃ q, behind l = q := ⟨_, rfl⟩
  obtain ⟨fP, rD, hpd, hrd⟩ := HPD.out
  have hml : m ≤ 1002 := by have := HLT.out; omega
  rw [hm] at HK ⊢
  have HP := Lib.hid (parseD_c (cp := cb) HK.out (by omega : m ≤ 1000000000) hpd)
  rw [hbh] at HP
  have HRD := Lib.hid hrd
  have HM := Lib.hid (And.intro hm hbh)
  clear hwA hgf hpd hrd hm hbh
  have hcs : m = 0 ∨ ∃ k, m = k + 1 := by
    rcases Nat.eq_zero_or_pos m with h | h
    · exact .inl h
    · exact .inr ⟨m - 1, by omega⟩
  rcases hcs with h0 | ⟨k, hk⟩
  case' inl =>
    have hb0 : bh = 0 := by
      rw [← HM.out.2]
      have : l = [] := List.length_eq_zero_iff.1 (HM.out.1.trans h0)
      rw [this]
      rfl
    subst hb0
    have m0 : ((0 : Int) < (m : Int)) = False := eq_false (by omega)
    have m1 : (0 < m) = False := eq_false (by omega)
    clear h0
    go_upto_region 9 with (fail)
    clear m0 m1
  case' inr =>
    obtain ⟨x, hx⟩ : ∃ x, l[k]? = some x := ⟨_, List.getElem?_eq_getElem (by rw [HM.out.1]; omega)⟩
    have hbx : bh = x.f2 := by
      rw [← HM.out.2]
      unfold behind
      rw [List.getLast?_eq_getElem?, HM.out.1, hk, Nat.add_sub_cancel, hx]
    obtain ⟨ad, rfl, _, k0, k1, k2, k3, k4, k5, k6⟩ := dtok_at HK.out hx
    have m0 : (0 : Int) < (m : Int) := by omega
    have m1 : 0 < m := by omega
    have mw : IntKind.i64.wrap ((m : Int) - 1) = (k : Int) := by rw [IntKind.wrap_i64]; omega
    have mk : (k : Int) < (m : Int) := by omega
    have mk0 : (0 : Int) ≤ (k : Int) := by omega
    have mkn : k < m := by omega
    subst hbx
    clear hk hx k0 k1 k3 k4 k5 k6
    go_upto_region 9 with (fail)
    clear k2 m0 m1 mw mk mk0 mkn
  all_goals
    have h53 := HS6.out.2.1
    have z0 := blk_frozen h53 0
    have z1 := blk_frozen h53 1
    match rD, HP, HRD with
    | .error (ea, ey), HP, HRD =>
      have HRR : Hid (R = .error (ea, ey)) := Lib.hid HRD.out
      have HT := Lib.hid (told_c 0 ea ey)
      go_upto_region 10 with (first
        | (go_at_call 15; refine HP.out.mono ?_; rintro e7 w7 ⟨hb7, hy0, pp, rfl⟩; have y9 : (ey != 0) = true := (by rw [bne_iff_ne]; exact hy0); have HYY := Lib.hid hy0; have HS7 := Lib.hid (And.intro (HS6.out.1.below hb7) (blk_below h53 hb7)); clear d0 d1 z0 z1; have d0 := blk_cell HS7.out.2 0; have d1 := blk_cell HS7.out.2 1; have z0 := blk_frozen HS7.out.2 0; have z1 := blk_frozen HS7.out.2 1; clear hb7 hy0))
      obtain ⟨wB, hwB⟩ : ∃ q, (w7.setCell ⟨gf, 0, none⟩ (.int .i64 ea)).setCell ⟨gf, 1, none⟩ (.int .i64 ey) = q := ⟨_, rfl⟩
      have HSB : Hid (QB w wB ∧ wB.heap[gf]? = some (.cells #[.int .i64 ea, .int .i64 ey] 53 (0, 0))) := Lib.hid (by
        rw [← hwB]
        exact ⟨(HS7.out.1.far HS6.out.2.2 0 _).far HS6.out.2.2 1 _, blk_put (blk_put HS7.out.2 0 _ rfl) 1 _ rfl⟩)
      rw [hwB]
      clear d0 d1 z0 z1 hwB
      have d0 := blk_cell HSB.out.2 0
      have d1 := blk_cell HSB.out.2 1
      have HS := Lib.hid HSB.out.1
      have b0 := blk_cell HS.out.q 0
      have b1 := blk_cell HS.out.q 1
      have b2 := blk_cell HS.out.q 2
      have z0 := blk_frozen HS.out.q 0
      have z1 := blk_frozen HS.out.q 1
      have z2 := blk_frozen HS.out.q 2
      go_wp2_with (first
        | (go_at_call 13; refine (HT.out _).mono ?_; rintro e1 w1 ⟨rfl, hb1⟩; have HS5 := Lib.hid (HS.out.below hb1); clear b0 b1 b2 z0 z1 z2; have b0 := blk_cell HS5.out.q 0; have b1 := blk_cell HS5.out.q 1; have b2 := blk_cell HS5.out.q 2; have z0 := blk_frozen HS5.out.q 0; have z1 := blk_frozen HS5.out.q 1; have z2 := blk_frozen HS5.out.q 2; clear hb1))
      rw [HRR.out]
      refine bodyPost_ret (results_tc rfl _ _ w.heap.size 30 #[.int .i64 0, .int .i64 ea, .int .i64 ey] (0, 0) _ rfl (blk_put (blk_put (blk_put HS5.out.q 0 _ rfl) 1 _ rfl) 2 _ rfl) Tryz.underlying30 rfl (by kernel_rfl)) rfl ?_
      exact ⟨rfl, HYY.out, (Below.setCell (Below.setCell (Below.setCell HS5.out.b (p := ⟨w.heap.size, 0, none⟩) (Nat.le_refl _) _) (p := ⟨w.heap.size, 1, none⟩) (Nat.le_refl _) _) (p := ⟨w.heap.size, 2, none⟩) (Nat.le_refl _) _)⟩
    | .ok (ex, j), HP, HRD =>
      by_cases hjn : j < m
      · obtain ⟨ea, hea⟩ : ∃ q, hereD l (behind l) j = q := ⟨_, rfl⟩
        have hRR : R = .error (ea, 83) := by
          have := HRD.out
          dsimp only at this
          rw [HM.out.1, if_pos hjn, hea] at this
          exact this
        obtain ⟨ey, hey⟩ : ∃ q : Int, (83 : Int) = q := ⟨_, rfl⟩
        rw [hey] at hRR
        have hy0 : ey ≠ 0 := by omega
        have HRR := Lib.hid hRR
        have HEA := Lib.hid (And.intro hea (And.intro hey hjn))
        have HYY := Lib.hid hy0
        have y9 : (ey != 0) = true := by rw [bne_iff_ne]; exact hy0
        have HT := Lib.hid (told_c 0 ea ey)
        clear hRR hea hey hy0 hjn
        go_upto_region 10 with (first
          | (go_at_call 15; refine HP.out.mono ?_; rintro e7 w7 ⟨hb7, hA⟩; replace hA := hA.resolve_right (fun h => h.1 HEA.out.2.2); obtain ⟨hj7, pp, rfl⟩ := hA; rw [HEA.out.1, HEA.out.2.1]; have HS7 := Lib.hid (And.intro (HS6.out.1.below hb7) (blk_below h53 hb7)); clear d0 d1 z0 z1; have d0 := blk_cell HS7.out.2 0; have d1 := blk_cell HS7.out.2 1; have z0 := blk_frozen HS7.out.2 0; have z1 := blk_frozen HS7.out.2 1; clear hb7 hj7))
        obtain ⟨wB, hwB⟩ : ∃ q, (w7.setCell ⟨gf, 0, none⟩ (.int .i64 ea)).setCell ⟨gf, 1, none⟩ (.int .i64 ey) = q := ⟨_, rfl⟩
        have HSB : Hid (QB w wB ∧ wB.heap[gf]? = some (.cells #[.int .i64 ea, .int .i64 ey] 53 (0, 0))) := Lib.hid (by
          rw [← hwB]
          exact ⟨(HS7.out.1.far HS6.out.2.2 0 _).far HS6.out.2.2 1 _, blk_put (blk_put HS7.out.2 0 _ rfl) 1 _ rfl⟩)
        rw [hwB]
        clear d0 d1 z0 z1 hwB
        have d0 := blk_cell HSB.out.2 0
        have d1 := blk_cell HSB.out.2 1
        have HS := Lib.hid HSB.out.1
        have b0 := blk_cell HS.out.q 0
        have b1 := blk_cell HS.out.q 1
        have b2 := blk_cell HS.out.q 2
        have z0 := blk_frozen HS.out.q 0
        have z1 := blk_frozen HS.out.q 1
        have z2 := blk_frozen HS.out.q 2
        go_wp2_with (first
          | (go_at_call 13; refine (HT.out _).mono ?_; rintro e1 w1 ⟨rfl, hb1⟩; have HS5 := Lib.hid (HS.out.below hb1); clear b0 b1 b2 z0 z1 z2; have b0 := blk_cell HS5.out.q 0; have b1 := blk_cell HS5.out.q 1; have b2 := blk_cell HS5.out.q 2; have z0 := blk_frozen HS5.out.q 0; have z1 := blk_frozen HS5.out.q 1; have z2 := blk_frozen HS5.out.q 2; clear hb1))
        rw [HRR.out]
        refine bodyPost_ret (results_tc rfl _ _ w.heap.size 30 #[.int .i64 0, .int .i64 ea, .int .i64 ey] (0, 0) _ rfl (blk_put (blk_put (blk_put HS5.out.q 0 _ rfl) 1 _ rfl) 2 _ rfl) Tryz.underlying30 rfl (by kernel_rfl)) rfl ?_
        exact ⟨rfl, HYY.out, (Below.setCell (Below.setCell (Below.setCell HS5.out.b (p := ⟨w.heap.size, 0, none⟩) (Nat.le_refl _) _) (p := ⟨w.heap.size, 1, none⟩) (Nat.le_refl _) _) (p := ⟨w.heap.size, 2, none⟩) (Nat.le_refl _) _)⟩
      · have hRR : R = ev (named nl) ex ∧ Wf ex ∧ Lk ex := by
          have := HRD.out
          dsimp only at this
          rw [HM.out.1, if_neg hjn] at this
          exact this
        have HRR := Lib.hid hRR
        have HJN := Lib.hid hjn
        clear hRR hjn
        go_upto_region 10 with (first
          | (go_at_call 15; refine HP.out.mono ?_; rintro e7 w7 ⟨hb7, hA⟩; replace hA := hA.resolve_left (fun h => HJN.out h.1); obtain ⟨hj7, pp, fa, rfl, hT7⟩ := hA; have HS7 := Lib.hid (And.intro (HS6.out.1.below hb7) (And.intro (blk_below h53 hb7) (hT7.ty (blk_below h53 hb7) (by decide)))); clear d0 d1 z0 z1; have d0 := blk_cell HS7.out.2.1 0; have d1 := blk_cell HS7.out.2.1 1; have z0 := blk_frozen HS7.out.2.1 0; have z1 := blk_frozen HS7.out.2.1 1; clear hb7 hj7 hT7))
        obtain ⟨wB, hwB⟩ : ∃ q, (w7.setCell ⟨gf, 0, none⟩ (.int .i64 fa)).setCell ⟨gf, 1, none⟩ (.int .i64 0) = q := ⟨_, rfl⟩
        have HSB : Hid (QB w wB ∧ wB.heap[gf]? = some (.cells #[.int .i64 fa, .int .i64 0] 53 (0, 0)) ∧ DTree wB gf ex (.pointer pp)) := Lib.hid (by
          rw [← hwB]
          exact ⟨(HS7.out.1.far HS6.out.2.2 0 _).far HS6.out.2.2 1 _, blk_put (blk_put HS7.out.2.1 0 _ rfl) 1 _ rfl, HS7.out.2.2.kg (((KG.refl gf w7).set 0 _).set 1 _)⟩)
        rw [hwB]
        clear d0 d1 z0 z1 hwB
        have d0 := blk_cell HSB.out.2.1 0
        have d1 := blk_cell HSB.out.2.1 1
        go_upto_region 13 with (fail)
        have hVB : VBp w gf wB.heap.size fa (nl.take 0) ex (.pointer pp) (.slice none 0 0) (.slice none 0 0) (wB.alloc (.cells #[.slice none 0 0, .string ⟨#[]⟩, .int .u64 0, .bool false, .bool false, .slice none 0 0, .int .i64 0, .bool false] 68)) := by
          have hb := (Below.refl wB.heap.size wB).alloc (Nat.le_refl _) (.cells #[.slice none 0 0, .string ⟨#[]⟩, .int .u64 0, .bool false, .bool false, .slice none 0 0, .int .i64 0, .bool false] 68)
          have h68 := blk_new wB (.cells #[.slice none 0 0, .string ⟨#[]⟩, .int .u64 0, .bool false, .bool false, .slice none 0 0, .int .i64 0, .bool false] 68)
          have := blk_lt HSB.out.2.1
          exact ⟨HSB.out.1.below hb, blk_below HSB.out.2.1 hb, h68, Kd.R_nil _ _ _ _ _, (HSB.out.2.2.below hb).ty h68 (by decide), HS6.out.2.2, blk_lt HSB.out.1.q, by omega⟩
        obtain ⟨wV, hwV⟩ : ∃ q, wB.alloc (.cells #[.slice none 0 0, .string ⟨#[]⟩, .int .u64 0, .bool false, .bool false, .slice none 0 0, .int .i64 0, .bool false] 68) = q := ⟨_, rfl⟩
        obtain ⟨gs, hgs⟩ : ∃ q, wB.heap.size = q := ⟨_, rfl⟩
        rw [hwV, hgs] at hVB ⊢
        have HVB := Lib.hid hVB
        clear hwV hgs hVB d0 d1
        go_wp2
        go_loopg [11] n (fun gm v11 wx => ∃ (i : Nat) (v : Value), .int .i64 (i : Int) = v11 ∧ i ≤ n ∧ Hid (gm + i = n) ∧ Hid (VBp w gf gs fa (nl.take i) ex (.pointer pp) v v wx))
        case atStart => exact ⟨0, _, rfl, Nat.zero_le _, Lib.hid rfl, HVB⟩
        case round =>
          obtain ⟨i, v, rfl, hi, HI, HX⟩ := hrel
          by_cases h1 : i < n
          · obtain ⟨x, hx⟩ : ∃ x, nl[i]? = some x := ⟨_, List.getElem?_eq_getElem (by omega)⟩
            obtain ⟨ad, rfl, _, c0, c1⟩ := name_at HH.out.2.1 hx
            have q2 : decide ((i : Int) < (n : Int)) = true := by simp [h1]
            have q3 : (0 : Int) ≤ (i : Int) := by omega
            have q4 : (i : Int) < (n : Int) := by omega
            have e1 : IntKind.i64.wrap ((i : Int) + 1) = ((i + 1 : Nat) : Int) := by rw [IntKind.wrap_i64]; omega
            have HL := Lib.hid (And.intro hx h1)
            obtain ⟨gm, rfl⟩ : ∃ q, gk = q + 1 := ⟨gk - 1, by have := HI.out; omega⟩
            clear c0 c1 hx
            go_upto_region 16 with (fail)
            obtain ⟨v2, wC, hap, hV2⟩ := HX.out.drew.app x (by rw [List.length_take]; omega)
            obtain ⟨A2, c2, hv2⟩ := Kd.R_slice hV2.r
            obtain ⟨n2, hn2⟩ : ∃ q, (nl.take i ++ [x]).length = q := ⟨_, rfl⟩
            rw [hn2] at hv2
            subst hv2
            clear hn2
            have HA := Lib.hid hap
            have HV2 := Lib.hid hV2
            have HNM : Hid (∀ w', Below w.heap.size w w' → w'.cell? (ad.add (i * 2)) = some (.string x.1) ∧ w'.cell? ⟨(ad.add (i * 2)).block, (ad.add (i * 2)).off + 1, none⟩ = some (.int .u64 x.2)) := Lib.hid (fun w' hb => by
              obtain ⟨ad', e', _, c0, c1⟩ := name_at (Kd.C_below HH.out.2.1 hb) HL.out.1
              injection e' with e'
              subst e'
              exact ⟨c0, c1⟩)
            have HXD := Lib.hid HX.out.drew
            clear hap hV2
            have g0 : wr.drew.cell? ⟨gs, 0, none⟩ = some v := blk_cell HXD.out.s 0
            obtain ⟨g1, g2⟩ := HNM.out wr.drew HXD.out.q.b
            refine wp_region_G (fun w' => w'.cell? ⟨gs, 0, none⟩ = some v ∧ w'.cell? (ad.add (i * 2)) = some (.string x.1) ∧ w'.cell? ⟨(ad.add (i * 2)).block, (ad.add (i * 2)).off + 1, none⟩ = some (.int .u64 x.2)) 20 (by kernel_rfl) ?_
            refine wpAnyG_take (i := 0) (v := ?_) rfl (by kernel_rfl) (by kernel_rfl) (by kernel_rfl) (by kernel_rfl) (fun _ _ _ h => h) (Or.inl ⟨by rfl, ?_⟩) ⟨g0, g1, g2⟩ ?_
            rotate_left
            · intro w hSw
              obtain ⟨k0, k1, k2⟩ := hSw
              go_simp
              try with_reducible rfl
            simp only [Act.put, List.setIfInBounds_toArray, List.set_cons_zero, List.set_cons_succ]
            refine wpAnyG_take (i := 1) (v := ?_) rfl (by kernel_rfl) (by kernel_rfl) (by kernel_rfl) (by kernel_rfl) (fun _ _ _ h => h) (Or.inl ⟨by rfl, ?_⟩) ⟨g0, g1, g2⟩ ?_
            rotate_left
            · intro w hSw
              obtain ⟨k0, k1, k2⟩ := hSw
              go_simp
              try with_reducible rfl
            simp only [Act.put, List.setIfInBounds_toArray, List.set_cons_zero, List.set_cons_succ]
            refine wpAnyG_take (i := 2) (v := ?_) rfl (by kernel_rfl) (by kernel_rfl) (by kernel_rfl) (by kernel_rfl) (fun _ _ _ h => h) (Or.inl ⟨by rfl, ?_⟩) ⟨g0, g1, g2⟩ ?_
            rotate_left
            · intro w hSw
              obtain ⟨k0, k1, k2⟩ := hSw
              go_simp
              try with_reducible rfl
            simp only [Act.put, List.setIfInBounds_toArray, List.set_cons_zero, List.set_cons_succ]
            refine wpAnyG_take (i := 3) (v := ?_) rfl (by kernel_rfl) (by kernel_rfl) (by kernel_rfl) (by kernel_rfl) (fun _ _ _ h => h) (Or.inl ⟨by rfl, ?_⟩) ⟨g0, g1, g2⟩ ?_
            rotate_left
            · intro w hSw
              obtain ⟨k0, k1, k2⟩ := hSw
              go_simp
              try with_reducible rfl
            simp only [Act.put, List.setIfInBounds_toArray, List.set_cons_zero, List.set_cons_succ]
            refine wpAnyG_take (i := 4) (v := ?_) rfl (by kernel_rfl) (by kernel_rfl) (by kernel_rfl) (by kernel_rfl) (fun _ _ _ h => h) (Or.inl ⟨by rfl, ?_⟩) ⟨g0, g1, g2⟩ ?_
            rotate_left
            · intro w hSw
              obtain ⟨k0, k1, k2⟩ := hSw
              go_simp
              try with_reducible rfl
            simp only [Act.put, List.setIfInBounds_toArray, List.set_cons_zero, List.set_cons_succ]
            refine wpAnyG_take (i := 5) (v := ?_) rfl (by kernel_rfl) (by kernel_rfl) (by kernel_rfl) (by kernel_rfl) (fun _ _ _ h => h) (Or.inl ⟨by rfl, ?_⟩) ⟨g0, g1, g2⟩ ?_
            rotate_left
            · intro w hSw
              obtain ⟨k0, k1, k2⟩ := hSw
              go_simp
              try with_reducible rfl
            simp only [Act.put, List.setIfInBounds_toArray, List.set_cons_zero, List.set_cons_succ]
            refine wpAnyG_take (i := 6) (v := ?_) rfl (by kernel_rfl) (by kernel_rfl) (by kernel_rfl) (by kernel_rfl) (fun _ _ _ h => h) (Or.inl ⟨by rfl, ?_⟩) ⟨g0, g1, g2⟩ ?_
            rotate_left
            · intro w hSw
              obtain ⟨k0, k1, k2⟩ := hSw
              go_simp
              try with_reducible rfl
            simp only [Act.put, List.setIfInBounds_toArray, List.set_cons_zero, List.set_cons_succ]
            refine wpAnyG_take (i := 7) (v := ?_) rfl (by kernel_rfl) (by kernel_rfl) (by kernel_rfl) (by kernel_rfl) (fun _ _ _ h => h) (Or.inl ⟨by rfl, ?_⟩) ⟨g0, g1, g2⟩ ?_
            rotate_left
            · intro w hSw
              obtain ⟨k0, k1, k2⟩ := hSw
              go_simp
              try with_reducible rfl
            simp only [Act.put, List.setIfInBounds_toArray, List.set_cons_zero, List.set_cons_succ]
            refine wpAnyG_take (i := 8) (v := ?_) rfl (by kernel_rfl) (by kernel_rfl) (by kernel_rfl) (by kernel_rfl) (fun _ _ _ h => h) (Or.inl ⟨by rfl, ?_⟩) ⟨g0, g1, g2⟩ ?_
            rotate_left
            · intro w hSw
              obtain ⟨k0, k1, k2⟩ := hSw
              go_simp
              try with_reducible rfl
            simp only [Act.put, List.setIfInBounds_toArray, List.set_cons_zero, List.set_cons_succ]
            refine wpAnyG_take (i := 9) (v := ?_) rfl (by kernel_rfl) (by kernel_rfl) (by kernel_rfl) (by kernel_rfl) (fun _ _ _ h => h) (Or.inl ⟨by rfl, ?_⟩) ⟨g0, g1, g2⟩ ?_
            rotate_left
            · intro w hSw
              obtain ⟨k0, k1, k2⟩ := hSw
              go_simp
              try with_reducible rfl
            simp only [Act.put, List.setIfInBounds_toArray, List.set_cons_zero, List.set_cons_succ]
            refine wpAnyG_take (i := 10) (v := ?_) rfl (by kernel_rfl) (by kernel_rfl) (by kernel_rfl) (by kernel_rfl) (fun _ _ _ h => h) (Or.inl ⟨by rfl, ?_⟩) ⟨g0, g1, g2⟩ ?_
            rotate_left
            · intro w hSw
              obtain ⟨k0, k1, k2⟩ := hSw
              go_simp
              try with_reducible rfl
            simp only [Act.put, List.setIfInBounds_toArray, List.set_cons_zero, List.set_cons_succ]
            refine wpAnyG_take (i := 11) (v := ?_) rfl (by kernel_rfl) (by kernel_rfl) (by kernel_rfl) (by kernel_rfl) (fun _ _ _ h => h) (Or.inl ⟨by rfl, ?_⟩) ⟨g0, g1, g2⟩ ?_
            rotate_left
            · intro w hSw
              obtain ⟨k0, k1, k2⟩ := hSw
              go_simp
              try with_reducible rfl
            simp only [Act.put, List.setIfInBounds_toArray, List.set_cons_zero, List.set_cons_succ]
            refine wpAnyG_take (i := 12) (v := ?_) rfl (by kernel_rfl) (by kernel_rfl) (by kernel_rfl) (by kernel_rfl) (fun _ _ _ h => h) (Or.inl ⟨by rfl, ?_⟩) ⟨g0, g1, g2⟩ ?_
            rotate_left
            · intro w hSw
              obtain ⟨k0, k1, k2⟩ := hSw
              go_simp
              try with_reducible rfl
            simp only [Act.put, List.setIfInBounds_toArray, List.set_cons_zero, List.set_cons_succ]
            refine wpAnyG_take (i := 13) (v := ?_) rfl (by kernel_rfl) (by kernel_rfl) (by kernel_rfl) (by kernel_rfl) (fun _ _ _ h => h) (Or.inl ⟨by rfl, ?_⟩) ⟨g0, g1, g2⟩ ?_
            rotate_left
            · intro w hSw
              obtain ⟨k0, k1, k2⟩ := hSw
              go_simp
              try with_reducible rfl
            simp only [Act.put, List.setIfInBounds_toArray, List.set_cons_zero, List.set_cons_succ]
            refine wpAnyG_take (i := 14) (v := ?_) rfl (by kernel_rfl) (by kernel_rfl) (by kernel_rfl) (by kernel_rfl) (fun _ _ _ h => h) (Or.inl ⟨by rfl, ?_⟩) ⟨g0, g1, g2⟩ ?_
            rotate_left
            · intro w hSw
              obtain ⟨k0, k1, k2⟩ := hSw
              go_simp
              try with_reducible rfl
            simp only [Act.put, List.setIfInBounds_toArray, List.set_cons_zero, List.set_cons_succ]
            refine wpAnyG_take (i := 15) (v := ?_) rfl (by kernel_rfl) (by kernel_rfl) (by kernel_rfl) (by kernel_rfl) (fun _ _ _ h => h) (Or.inl ⟨by rfl, ?_⟩) ⟨g0, g1, g2⟩ ?_
            rotate_left
            · intro w hSw
              obtain ⟨k0, k1, k2⟩ := hSw
              go_simp
              try with_reducible rfl
            simp only [Act.put, List.setIfInBounds_toArray, List.set_cons_zero, List.set_cons_succ]
            refine wpAnyG_one (i := 16) (by kernel_rfl) rfl (fun K hK => ?_)
            go_simp
            clear g0 g1 g2
            have hXA := HXD.out.below ((Below.refl wr.drew.heap.size wr.drew).alloc (Nat.le_refl _) (.cells (knL x).toArray 65))
            have g0 : (wr.drew.alloc (.cells (knL x).toArray 65)).cell? ⟨gs, 0, none⟩ = some v := blk_cell hXA.s 0
            obtain ⟨g1, g2⟩ := HNM.out _ hXA.q.b
            refine hK.out _ _ (.inr ⟨g0, g1, g2⟩) ?_
            clear hK K hXA
            try simp only [Act.put, List.setIfInBounds_toArray, List.set_cons_zero, List.set_cons_succ]
            refine wpAnyG_one (i := 17) (by kernel_rfl) rfl (fun K hK => ?_)
            refine step_run (by rfl) (.tmp 61) (.tmp 73) 63 (by rfl) (by rfl) (by rfl) HA.out ?_
            clear g0 g1 g2
            have g0 : wC.cell? ⟨gs, 0, none⟩ = some v := blk_cell HV2.out.s 0
            obtain ⟨g1, g2⟩ := HNM.out _ HV2.out.q.b
            refine hK.out _ _ (.inr ⟨g0, g1, g2⟩) ?_
            clear hK K
            have f2 : wC.frozen? ⟨gs, 0, none⟩ = false := blk_frozen HV2.out.s 0
            try simp only [Act.put, List.setIfInBounds_toArray, List.set_cons_zero, List.set_cons_succ]
            refine wpAnyG_one (i := 18) (by kernel_rfl) rfl (fun K hK => ?_)
            go_simp
            refine hK.out _ _ (.inr ⟨g0, g1, g2⟩) ?_
            clear hK K
            try simp only [Act.put, List.setIfInBounds_toArray, List.set_cons_zero, List.set_cons_succ]
            refine wpAnyG_one (i := 19) (by kernel_rfl) rfl (fun K hK => ?_)
            go_simp
            refine hK.out _ _ (.inr ⟨g0, g1, g2⟩) ?_
            clear hK K
            try simp only [Act.put, List.setIfInBounds_toArray, List.set_cons_zero, List.set_cons_succ]
            refine wpAnyG_one (i := 20) (by kernel_rfl) rfl (fun K hK => ?_)
            go_simp
            refine hK.out _ _ (.inl rfl) ?_
            clear hK K
            try simp only [Act.put, List.setIfInBounds_toArray, List.set_cons_zero, List.set_cons_succ]
            refine wpAnyG_done (by kernel_rfl) ?_ _
            clear g0 g1 g2 f2
            go_wp2
            go_roundg gm
            case measure => omega
            case rel => exact ⟨i + 1, _, rfl, by omega, Lib.hid (by have := HI.out; omega), Lib.hid (by rw [List.take_add_one, HL.out.1]; exact HV2.out.set)⟩
          · have q2 : ((i : Int) < (n : Int)) = False := eq_false (by omega)
            have q3 : (i < n) = False := eq_false h1
            have hX := HX.out
            rw [show nl.take i = nl from List.take_of_length_le (by omega)] at hX
            obtain ⟨B2, c2, rfl⟩ := Kd.R_slice hX.r
            have hval := valD_c (n := nl.length) (cp := c2) (sc := gs) (g := gs) (by omega) HH.out.2.2.2 ex (.pointer pp) wr HRR.out.2.1 HRR.out.2.2 hX.t hX.s (Kd.R_reads' hX.r).2.2
            have HV := Lib.hid hval
            have HXX := Lib.hid hX
            obtain ⟨RV, hRV⟩ : ∃ q, ev (named nl) ex = q := ⟨_, rfl⟩
            have HRV : Hid (R = RV) := Lib.hid (by rw [HRR.out.1]; exact hRV)
            rw [hRV] at HV
            clear hX hval hRV h1
            match RV, HV, HRV with
            | .ok xv, HV, HRV =>
              go_upto_region 18 with (first
                | (go_at_call 16; refine HV.out.mono ?_; rintro e9 w9 ⟨rfl, hb9⟩; have HS9 := Lib.hid (HXX.out.below hb9); have d0 := blk_cell HS9.out.f 0; have d1 := blk_cell HS9.out.f 1; have z0 := blk_frozen HS9.out.f 0; have z1 := blk_frozen HS9.out.f 1; clear hb9))
              obtain ⟨wZ, hwZ⟩ : ∃ q, (w9.setCell ⟨gf, 0, none⟩ (.int .i64 0)).setCell ⟨gf, 1, none⟩ (.int .i64 0) = q := ⟨_, rfl⟩
              have HSZ : Hid (QB w wZ ∧ wZ.heap[gf]? = some (.cells #[.int .i64 0, .int .i64 0] 53 (0, 0))) := Lib.hid (by
                rw [← hwZ]
                exact ⟨(HS9.out.q.far HS9.out.gf0 0 _).far HS9.out.gf0 1 _, blk_put (blk_put HS9.out.f 0 _ rfl) 1 _ rfl⟩)
              rw [hwZ]
              clear d0 d1 z0 z1 hwZ
              have d0 := blk_cell HSZ.out.2 0
              have d1 := blk_cell HSZ.out.2 1
              have b0 := blk_cell HSZ.out.1.q 0
              have b1 := blk_cell HSZ.out.1.q 1
              have b2 := blk_cell HSZ.out.1.q 2
              have z0 := blk_frozen HSZ.out.1.q 0
              have z1 := blk_frozen HSZ.out.1.q 1
              have z2 := blk_frozen HSZ.out.1.q 2
              go_wp2
              rw [HRV.out]
              refine bodyPost_ret (results_tc rfl _ _ w.heap.size 30 #[.int .i64 0, .int .i64 0, .int .i64 0] (0, 0) _ rfl (blk_put (blk_put (blk_put HSZ.out.1.q 0 _ rfl) 1 _ rfl) 2 _ rfl) Tryz.underlying30 rfl (by kernel_rfl)) rfl ?_
              exact ⟨rfl, (Below.setCell (Below.setCell (Below.setCell HSZ.out.1.b (p := ⟨w.heap.size, 0, none⟩) (Nat.le_refl _) _) (p := ⟨w.heap.size, 1, none⟩) (Nat.le_refl _) _) (p := ⟨w.heap.size, 2, none⟩) (Nat.le_refl _) _)⟩
            | .error (ea, ey), HV, HRV =>
              have HT := Lib.hid (told_c 0 ea ey)
              go_upto_region 18 with (first
                | (go_at_call 16; refine HV.out.mono ?_; rintro e9 w9 ⟨rfl, hy0, hb9⟩; have y9 : (ey != 0) = true := (by rw [bne_iff_ne]; exact hy0); have HYY := Lib.hid hy0; have HS9 := Lib.hid (HXX.out.below hb9); have d0 := blk_cell HS9.out.f 0; have d1 := blk_cell HS9.out.f 1; have z0 := blk_frozen HS9.out.f 0; have z1 := blk_frozen HS9.out.f 1; clear hb9 hy0))
              have HS7 := Lib.hid (And.intro HS9.out.q HS9.out.f)
              obtain ⟨wB, hwB⟩ : ∃ q, (w9.setCell ⟨gf, 0, none⟩ (.int .i64 ea)).setCell ⟨gf, 1, none⟩ (.int .i64 ey) = q := ⟨_, rfl⟩
              have HSB : Hid (QB w wB ∧ wB.heap[gf]? = some (.cells #[.int .i64 ea, .int .i64 ey] 53 (0, 0))) := Lib.hid (by
                rw [← hwB]
                exact ⟨(HS7.out.1.far HS9.out.gf0 0 _).far HS9.out.gf0 1 _, blk_put (blk_put HS7.out.2 0 _ rfl) 1 _ rfl⟩)
              rw [hwB]
              clear d0 d1 z0 z1 hwB
              have d0 := blk_cell HSB.out.2 0
              have d1 := blk_cell HSB.out.2 1
              have HS := Lib.hid HSB.out.1
              have b0 := blk_cell HS.out.q 0
              have b1 := blk_cell HS.out.q 1
              have b2 := blk_cell HS.out.q 2
              have z0 := blk_frozen HS.out.q 0
              have z1 := blk_frozen HS.out.q 1
              have z2 := blk_frozen HS.out.q 2
              go_wp2_with (first
                | (go_at_call 13; refine (HT.out _).mono ?_; rintro e1 w1 ⟨rfl, hb1⟩; have HS5 := Lib.hid (HS.out.below hb1); clear b0 b1 b2 z0 z1 z2; have b0 := blk_cell HS5.out.q 0; have b1 := blk_cell HS5.out.q 1; have b2 := blk_cell HS5.out.q 2; have z0 := blk_frozen HS5.out.q 0; have z1 := blk_frozen HS5.out.q 1; have z2 := blk_frozen HS5.out.q 2; clear hb1))
              rw [HRV.out]
              refine bodyPost_ret (results_tc rfl _ _ w.heap.size 30 #[.int .i64 0, .int .i64 ea, .int .i64 ey] (0, 0) _ rfl (blk_put (blk_put (blk_put HS5.out.q 0 _ rfl) 1 _ rfl) 2 _ rfl) Tryz.underlying30 rfl (by kernel_rfl)) rfl ?_
              exact ⟨rfl, HYY.out, (Below.setCell (Below.setCell (Below.setCell HS5.out.b (p := ⟨w.heap.size, 0, none⟩) (Nat.le_refl _) _) (p := ⟨w.heap.size, 1, none⟩) (Nat.le_refl _) _) (p := ⟨w.heap.size, 2, none⟩) (Nat.le_refl _) _)⟩
end Go.Proofs.YtbmnifnahbehbaaGreatDoor

/- What counts of a token decides what the tokens are worth: asm's answer and the document's. -/
set_option linter.unusedVariables false
set_option linter.unusedSimpArgs false
namespace Go.Proofs.YtbmnifnahbehbaaGreatDoor
open Go.RowKit Go.Lib Go.Proofs.YtbmnifnahbehbaaGreatDoorW.PrintWords Go.Proofs.YtbmnifnahbehbaaGreatDoorW.PrintMore Go.Proofs.YtbmnifnahbehbaaGreatDoorW.PrintLast
open AvP
def mapE : Ex → Ex
  | .leaf t => .leaf (nrm t)
  | .un t e => .un (nrm t) (mapE e)
  | .bin t l r => .bin (nrm t) (mapE l) (mapE r)
def mapR : Res → Res
  | .error x => .error x
  | .ok (e, j) => .ok (mapE e, j)
def mapQ : Qy → Qy
  | .op i d => .op i d
  | .lv k i d => .lv k i d
  | .lp k e i d => .lp k (mapE e) i d
theorem nrm_k6 (t : Tok) : (nrm t).k = 6 ↔ t.k = 6 := by unfold nrm; dsimp only; split <;> omega
theorem nrm_k5 (t : Tok) : (nrm t).k = 5 ↔ t.k = 5 := by unfold nrm; dsimp only; split <;> omega
theorem nrm_t6 (t : Tok) (h : t.k = 6) : (nrm t).t = t.t := by unfold nrm; dsimp only; rw [if_pos (.inr h)]
theorem nrm_isM (t : Tok) (m : ByteArray) : isM (nrm t) m = isM t m := by
  unfold isM
  by_cases h : t.k = 6
  · rw [decide_eq_true h, decide_eq_true ((nrm_k6 t).2 h), nrm_t6 t h]
  · rw [decide_eq_false h, decide_eq_false (fun x => h ((nrm_k6 t).1 x)), Bool.false_and, Bool.false_and]
theorem nrm_sign (t : Tok) : sign (nrm t) = sign t := by unfold sign; rw [nrm_isM, nrm_isM, nrm_isM]
theorem nrm_str (t : Tok) : str (nrm t) = str t := by
  unfold str
  by_cases h : t.k = 6
  · rw [if_pos h, if_pos ((nrm_k6 t).2 h), nrm_t6 t h]
  · rw [if_neg h, if_neg (fun x => h ((nrm_k6 t).1 x))]
theorem nrm_here (l : List Tok) (i : Nat) : here (l.map nrm) i = here l i := by
  unfold here
  rw [List.getElem?_map, List.getLast?_map]
  cases l[i]? with
  | some t => rfl
  | none => cases l.getLast? <;> rfl
theorem nrm_closes (l : List Tok) (i : Nat) : closes (l.map nrm) i = closes l i := by
  unfold closes
  rw [List.getElem?_map]
  cases l[i]? with
  | some t => exact nrm_isM t _
  | none => rfl
theorem bindR_map {o : Option Res} {f g : Ex → Nat → Option Res} (h : ∀ e j, g (mapE e) j = (f e j).map mapR) : bindR (o.map mapR) g = (bindR o f).map mapR := by
  match o with
  | none => rfl
  | some (.error x) => rfl
  | some (.ok (e, j)) => exact h e j
theorem pA_map (l : List Tok) : ∀ n q, pA (l.map nrm) n (mapQ q) = (pA l n q).map mapR
  | 0, q => by simp [pA]
  | n + 1, .op i d => by
    have ih := pA_map l n
    show pA (l.map nrm) (n + 1) (.op i d) = _
    rw [pA, pA, List.getElem?_map]
    cases hl : l[i]? with
    | none => rw [Option.map_none]; dsimp only; rw [nrm_here]; rfl
    | some t =>
      rw [Option.map_some]
      dsimp only
      rw [nrm_sign, nrm_isM]
      split
      · have := ih (.op (i + 1) d)
        dsimp only [mapQ] at this
        rw [this]
        exact bindR_map (fun e j => rfl)
      · split
        · split
          · rfl
          · have := ih (.lv 0 (i + 1) (d + 1))
            dsimp only [mapQ] at this
            rw [this]
            refine bindR_map (fun e j => ?_)
            rw [nrm_closes, nrm_here]
            split <;> rfl
        · by_cases h : t.k = 6 ∨ t.k = 5
          · rw [if_pos h, if_pos (h.imp (nrm_k6 t).2 (nrm_k5 t).2)]; rfl
          · rw [if_neg h, if_neg (fun x => h (x.imp (nrm_k6 t).1 (nrm_k5 t).1))]; rfl
  | n + 1, .lv k i d => by
    have ih := pA_map l n
    show pA (l.map nrm) (n + 1) (.lv k i d) = _
    rw [pA, pA]
    have := ih (.op i d)
    dsimp only [mapQ] at this
    rw [this]
    exact bindR_map (fun e j => ih (.lp k e j d))
  | n + 1, .lp k e i d => by
    have ih := pA_map l n
    show pA (l.map nrm) (n + 1) (.lp k (mapE e) i d) = _
    rw [pA, pA, List.getElem?_map]
    cases hl : l[i]? with
    | none => rfl
    | some t =>
      rw [Option.map_some]
      dsimp only
      rw [nrm_str]
      split
      · rfl
      · have := ih (.lv (str t) (i + 1) d)
        dsimp only [mapQ] at this
        rw [this]
        exact bindR_map (fun r j => ih (.lp k (.bin t e r) j d))
theorem pA_up (l : List Tok) (q : Qy) (r : Res) : ∀ n k, pA l n q = some r → pA l (n + k) q = some r
  | n, 0, h => h
  | n, k + 1, h => pA_mono l (n + k) q r (pA_up l q r n k h)
theorem pA_det {l : List Tok} {q : Qy} {r r' : Res} {n m : Nat} (h : pA l n q = some r) (h' : pA l m q = some r') : r = r' := by
  have h1 := pA_up l q r n m h
  have h2 := pA_up l q r' m n h'
  rw [Nat.add_comm] at h2
  exact Option.some.inj (h1.symm.trans h2)
/-- The leaves hold P and are no marks or texts; signs and marks are marks. -/
def Ok6 (P : Tok → Prop) : Ex → Prop
  | .leaf t => P t ∧ t.k ≠ 5 ∧ t.k ≠ 6
  | .un t e => t.k = 6 ∧ Ok6 P e
  | .bin t l r => t.k = 6 ∧ Ok6 P l ∧ Ok6 P r
def Ok6Q (P : Tok → Prop) : Qy → Prop
  | .lp _ e _ _ => Ok6 P e
  | _ => True
theorem str_k6 (t : Tok) (h : str t ≠ 0) : t.k = 6 := by
  refine Classical.byContradiction fun hn => h ?_
  unfold str
  rw [if_neg hn]
theorem sign_k6 (t : Tok) (h : sign t = true) : t.k = 6 := by
  refine Classical.byContradiction fun hn => ?_
  unfold sign isM at h
  rw [decide_eq_false hn, Bool.false_and, Bool.false_and, Bool.false_and] at h
  cases h
theorem pA_ok6 (P : Tok → Prop) (l : List Tok) (hl : ∀ t ∈ l, P t) : ∀ n q e j, Ok6Q P q → pA l n q = some (.ok (e, j)) → Ok6 P e
  | 0, q, e, j, _, h => by cases h
  | n + 1, .op i d, e, j, _, h => by
    rw [pA] at h
    cases ht : l[i]? with
    | none => rw [ht] at h; cases h
    | some t =>
      rw [ht] at h
      dsimp only at h
      have htm : t ∈ l := List.mem_of_getElem? ht
      split at h
      · rename_i hs
        cases hq : pA l n (.op (i + 1) d) with
        | none => rw [hq] at h; cases h
        | some r =>
          rw [hq] at h
          match r, h with
          | .error x, h => cases h
          | .ok (e1, j1), h =>
            cases h
            exact ⟨sign_k6 t hs, pA_ok6 P l hl n (.op (i + 1) d) _ _ True.intro hq⟩
      · split at h
        · split at h
          · cases h
          · cases hq : pA l n (.lv 0 (i + 1) (d + 1)) with
            | none => rw [hq] at h; cases h
            | some r =>
              rw [hq] at h
              match r, h with
              | .error x, h => cases h
              | .ok (e1, j1), h =>
                dsimp only [bindR] at h
                split at h
                · cases h; exact pA_ok6 P l hl n (.lv 0 (i + 1) (d + 1)) _ _ True.intro hq
                · cases h
        · split at h
          · cases h
          · rename_i hk
            cases h; exact ⟨hl t htm, fun x => hk (.inr x), fun x => hk (.inl x)⟩
  | n + 1, .lv k i d, e, j, _, h => by
    rw [pA] at h
    cases hq : pA l n (.op i d) with
    | none => rw [hq] at h; cases h
    | some r =>
      rw [hq] at h
      match r, h with
      | .error x, h => cases h
      | .ok (e1, j1), h => exact pA_ok6 P l hl n (.lp k e1 j1 d) e j (pA_ok6 P l hl n (.op i d) _ _ True.intro hq) h
  | n + 1, .lp k e0 i d, e, j, hw, h => by
    rw [pA] at h
    cases ht : l[i]? with
    | none => rw [ht] at h; cases h; exact hw
    | some t =>
      rw [ht] at h
      dsimp only at h
      split at h
      · cases h; exact hw
      · rename_i hs
        cases hq : pA l n (.lv (str t) (i + 1) d) with
        | none => rw [hq] at h; cases h
        | some r =>
          rw [hq] at h
          match r, h with
          | .error x, h => cases h
          | .ok (e1, j1), h => exact pA_ok6 P l hl n (.lp k (.bin t e0 e1) j1 d) e j ⟨str_k6 t (by omega), hw, pA_ok6 P l hl n (.lv (str t) (i + 1) d) _ _ True.intro hq⟩ h
theorem named_nrm (nl : List (ByteArray × Int)) (t : Tok) : named nl (nrm t) = named nl t := by
  unfold named
  have hk : (nrm t).k = 0 ↔ t.k = 0 := by unfold nrm; dsimp only; split <;> omega
  by_cases h : t.k = 0
  · have ht : (nrm t).t = t.t := by unfold nrm; dsimp only; rw [if_pos (.inl h)]
    rw [ht]
    by_cases h2 : t.t ≠ ⟨#[46]⟩
    · rw [if_pos ⟨hk.2 h, h2⟩, if_pos ⟨h, h2⟩]
    · rw [if_neg (fun x => h2 x.2), if_neg (fun x => h2 x.2)]
  · rw [if_neg (fun x => h (hk.1 x.1)), if_neg (fun x => h x.1)]
theorem ev_nrm (nl : List (ByteArray × Int)) (P : Tok → Prop) : ∀ e, Ok6 P e → ev (named nl) (mapE e) = ev (named nl) e
  | .leaf t, _ => by
    show ev (named nl) (.leaf (nrm t)) = _
    rw [ev, ev, named_nrm]
    have hk : ((nrm t).k = 1 ∨ (nrm t).k = 4) ↔ (t.k = 1 ∨ t.k = 4) := by unfold nrm; dsimp only; split <;> omega
    by_cases h : t.k = 1 ∨ t.k = 4
    · have hv : (nrm t).v = t.v := by unfold nrm; dsimp only; rw [if_pos h]
      rw [if_pos h, if_pos (hk.2 h), hv]
    · rw [if_neg h, if_neg (fun x => h (hk.1 x))]
      rfl
  | .un t e, h => by
    show ev (named nl) (.un (nrm t) (mapE e)) = _
    rw [ev, ev, ev_nrm nl P e h.2, nrm_t6 t h.1]
  | .bin t l r, h => by
    show ev (named nl) (.bin (nrm t) (mapE l) (mapE r)) = _
    rw [ev, ev, ev_nrm nl P l h.2.1, ev_nrm nl P r h.2.2, nrm_t6 t h.1]
    rfl
theorem lk_of (e : Ex) (h : Ok6 (fun t => t.k = 0 ∨ t.k = 1 ∨ t.k = 2 ∨ t.k = 4 ∨ t.k = 5 ∨ t.k = 6) e) : Lk e := by
  induction e with
  | leaf t => have := h.1; have := h.2; show t.k = 0 ∨ t.k = 1 ∨ t.k = 2 ∨ t.k = 4; omega
  | un t e ih => exact ih h.2
  | bin t l r ihl ihr => exact ⟨ihl h.2.1, ihr h.2.2⟩
theorem mapR_err {r : Res} {x : Int × Int} (h : mapR r = .error x) : r = .error x := by
  match r, h with
  | .error y, h => exact h
  | .ok (e, j), h => cases h
/-- Tokens alike are worth the same. -/
theorem worth (nl : List (ByteArray × Int)) {T : List Tok} {l : List DTk} {f : Nat} {r : Res} (hr : pA T f (.lv 0 0 0) = some r) (hfi : ∀ x ∈ l, Fine x) (hl : l.map (fun x => nrm (ab x)) = T.map nrm) : PDn (named nl) (valR (named nl) T r) l := by
  obtain ⟨r1, ⟨f1, h1⟩, ⟨f2, h2⟩⟩ := both (l.map ab)
  refine ⟨f2, r1, h2, ?_⟩
  have hm : (l.map ab).map nrm = T.map nrm := by rw [List.map_map]; exact hl
  have e1 := pA_map (l.map ab) f1 (.lv 0 0 0)
  have e2 := pA_map T f (.lv 0 0 0)
  rw [h1] at e1
  rw [hr, ← hm] at e2
  have he : mapR r1 = mapR r := pA_det e1 e2
  have hlen : l.length = T.length := by have := congrArg List.length hl; rwa [List.length_map, List.length_map] at this
  have hhere : ∀ j, here T j = hereD l (behind l) j := fun j => by rw [← here_eq, ← nrm_here (l.map ab), hm, nrm_here]
  match r1, he, h1 with
  | .error x, he, h1 =>
    rw [mapR_err he.symm]
    rfl
  | .ok (ex, j), he, h1 =>
    match r, he, hr with
    | .error y, he, hr => cases he
    | .ok (ex', j'), he, hr =>
      have hee : mapE ex = mapE ex' ∧ j = j' := by
        injection he with he
        injection he with h1 h2
        exact ⟨h1, h2⟩
      obtain ⟨hee, rfl⟩ := hee
      dsimp only
      unfold valR
      dsimp only
      rw [hlen]
      by_cases hj : j < T.length
      · rw [if_pos hj, if_pos hj, hhere]
      · rw [if_neg hj, if_neg hj]
        have hv : ∀ t ∈ l.map ab, vOk t.v := by
          intro t ht
          obtain ⟨x, hx, rfl⟩ := List.mem_map.1 ht
          exact (hfi x hx).1
        have hk : ∀ t ∈ l.map ab, t.k = 0 ∨ t.k = 1 ∨ t.k = 2 ∨ t.k = 4 ∨ t.k = 5 ∨ t.k = 6 := by
          intro t ht
          obtain ⟨x, hx, rfl⟩ := List.mem_map.1 ht
          have := (hfi x hx).2
          show kmap x.f0 = 0 ∨ kmap x.f0 = 1 ∨ kmap x.f0 = 2 ∨ kmap x.f0 = 4 ∨ kmap x.f0 = 5 ∨ kmap x.f0 = 6
          unfold kmap
          repeat' split
          all_goals omega
        have o1 := pA_ok6 _ (l.map ab) hk f1 (.lv 0 0 0) ex j True.intro h1
        have o2 := pA_ok6 (fun _ => True) T (fun _ _ => True.intro) f (.lv 0 0 0) ex' j True.intro hr
        refine ⟨?_, pA_wf (l.map ab) hv f1 (.lv 0 0 0) ex j True.intro h1, lk_of ex o1⟩
        rw [← ev_nrm nl _ ex o1, ← ev_nrm nl _ ex' o2, hee]
theorem numS_y {s : ByteArray} {i : Nat} {a y : Int} (h : numS s i = .error (a, y)) : y ≠ 0 := by
  unfold numS at h
  dsimp only at h
  split at h
  · rename_i hv; cases h; exact hv
  · cases h
theorem nextS_y {s : ByteArray} {i : Nat} {a y : Int} (h : nextS s i = .error (a, y)) : y ≠ 0 := by
  unfold nextS at h
  split at h
  · exact numS_y h
  · split at h
    · cases hq : quotedS s i (by_ s i) with
      | none => rw [hq] at h; cases h; decide
      | some t => rw [hq] at h; cases h
    · split at h
      · cases h
      · split at h
        · cases h
        · unfold nameS at h
          dsimp only at h
          split at h
          · cases h; decide
          · split at h
            · cases h; decide
            · cases h
theorem cut_y {s : ByteArray} {a y : Int} : ∀ (f i : Nat) (l : List Tok), cutS s f i l = .error (a, y) → y ≠ 0
  | 0, i, l, h => by cases h
  | f + 1, i, l, h => by
    rw [cutS] at h
    split at h
    · split at h
      · exact cut_y f _ _ h
      · split at h
        · cases h
        · cases hn : nextS s i with
          | error e => rw [hn] at h; cases h; exact nextS_y hn
          | ok t => rw [hn] at h; exact cut_y f _ _ h
    · cases h
/-- The document's Value answers what asm's does. -/
theorem valueD_c {w : World} {s : ByteArray} {A : Option Addr} {n cp : Nat} {nl : List (ByteArray × Int)} {R : EvR} (hG : Glob w) (hl : Kd.C k37 w A n nl) (hn : n ≤ 1000000000) (hr : ∀ y ∈ nl, 0 ≤ y.2 ∧ y.2 < 18446744073709551616) (hR : ValA s (named nl) R) :
    Calls Tryz.prog 5 #[.string s, .slice A n cp] w (ValD w R) := by
  unfold ValA at hR
  by_cases h : 1000 < s.size
  · rw [if_pos h] at hR
    rw [hR]
    exact valueD1_c h
  · rw [if_neg h] at hR
    cases hc : cutS s (s.size + 1) 0 [] with
    | error f =>
      obtain ⟨a, y⟩ := f
      rw [hc] at hR
      dsimp only at hR
      rw [hR]
      have hC := scan_c s (w.alloc z30) (Glob.step hG ((Below.refl _ w).alloc (Nat.le_refl _) _)) (by omega)
      rw [hc] at hC
      exact valueD2_c h (cut_y _ _ _ hc) (hC.mono (fun e w' he => ⟨he.1, he.2.2⟩))
    | ok T =>
      rw [hc] at hR
      obtain ⟨f, r, hp, hR⟩ := hR
      subst hR
      exact valueD3_c hG hl hn hr h hc (fun l hfi hm => worth nl hp hfi hm)
end Go.Proofs.YtbmnifnahbehbaaGreatDoor
