/- The document's reads: valS where all bytes are of a word. -/
import Derived.Test.YtbmnifnahbehbaaGreatDoorPGr2
set_option linter.unusedVariables false
set_option linter.unusedSimpArgs false
namespace Go.Proofs.YtbmnifnahbehbaaGreatDoor
open Go.RowKit Go.Lib Go.Proofs.YtbmnifnahbehbaaGreatDoorW.PrintWords Go.Proofs.YtbmnifnahbehbaaGreatDoorW.PrintMore Go.Proofs.YtbmnifnahbehbaaGreatDoorW.PrintLast
open AvP
set_option maxHeartbeats 8000000 in
set_option maxRecDepth 100000 in
theorem reads_c (t : ByteArray) (B : Nat) (hB : B = 10 ∨ B = 16 ∨ B = 2) (hmax : t.size ≤ 1000000) (hw : t.data.toList.all wordB = true) (w : World) :
    Calls Tryz.prog 66 #[.string t, .int .i64 (B : Int)] w fun e w' => e = .returned (.tuple #[.int .u64 (valS t.data.toList B).1, .int .i64 (valS t.data.toList B).2]) ∧ w' = w := by
  by_cases h0 : t.size = 0
  · have ht : t = ⟨#[]⟩ := by
      obtain ⟨⟨l⟩⟩ := t
      cases l with
      | nil => rfl
      | cons _ _ => simp [ByteArray.size] at h0
    subst ht
    clear hmax hw h0
    rcases hB with rfl | rfl | rfl
    all_goals
      go_enter Tryz.func66, Tryz.ntmps66
      go_wp2
      go_ret2
      exact ⟨rfl, rfl⟩
  · have hemp : t.toList.isEmpty = false := by
      rw [← decide_eq_emptyBytes]
      exact decide_eq_false (fun h => h0 (by rw [h]; rfl))
    have hne : t.data.toList ≠ [] := fun h => h0 (by rw [Lib.size_eq, h]; rfl)
    obtain ⟨bs, hL⟩ : ∃ bs, bs = t.data.toList := ⟨_, rfl⟩
    have hLn : bs.length = t.size := by rw [hL, Lib.size_eq]
    have hat : ∀ k (h : k < t.size), bs[k]'(by omega) = t[k]'h := by intro k h; subst hL; simp [ByteArray.getElem_eq_getElem_data]
    rw [← hL] at hw hne ⊢
    obtain ⟨V, hV⟩ : ∃ V, valS bs B = V := ⟨_, rfl⟩
    rw [hV]
    unfold valS at hV
    rw [if_neg hne] at hV
    have hB3 : (B : Int) = 10 ∨ (B : Int) = 16 ∨ (B : Int) = 2 := by omega
    obtain ⟨Z, hZ⟩ : ∃ Z : Int, (B : Int) = Z := ⟨_, rfl⟩
    rw [hZ] at hB3 ⊢
    have HH := Lib.hid (And.intro hw (And.intro hV (And.intro hLn (And.intro hat (And.intro hZ hmax)))))
    have hZ0 : (Z = 0) = False := eq_false (by omega)
    have wZ : IntKind.u64.wrap Z = Z := by rw [IntKind.wrap_u64]; omega
    clear hV hat hw hmax hne hL hB hZ
    go_enter Tryz.func66, Tryz.ntmps66
    go_wp2
    go_loopg [6] t.size (fun gm v6 wx => ∃ i : Nat, .int .i64 (i : Int) = v6 ∧ i ≤ t.size ∧ wx = w ∧ Hid (gm + i = t.size) ∧ Hid ((bs.drop i).all (dok B) = bs.all (dok B)))
    case atStart => exact ⟨0, rfl, Nat.zero_le _, rfl, Lib.hid rfl, Lib.hid rfl⟩
    case round =>
      obtain ⟨i, rfl, hi, rfl, HI, HL⟩ := hrel
      by_cases h1 : i < t.size
      · obtain ⟨hw, hV, hLn', hat, hZ, hmax⟩ := HH.out
        obtain ⟨gm, rfl⟩ : ∃ q, gk = q + 1 := ⟨gk - 1, by have := HI.out; omega⟩
        have hdr : bs.drop i = bs[i]'(by omega) :: bs.drop (i + 1) := List.drop_eq_getElem_cons (by omega)
        have hgt : bs[i]'(by omega) = t[i]'h1 := hat i h1
        have hwd : wordB (t[i]'h1) = true := by rw [← hgt]; exact List.all_eq_true.1 hw _ (List.getElem_mem _)
        have hl := HL.out
        rw [hdr, List.all_cons, hgt] at hl
        have hm256 : (t[i]'h1).toNat < 256 := (t[i]'h1).toNat_lt
        obtain ⟨m, hm⟩ : ∃ m, (t[i]'h1).toNat = m := ⟨_, rfl⟩
        have hbt : ((t[i]'h1).toNat : Int) = (m : Int) := by rw [hm]
        rw [wordB_N, hm] at hwd
        rw [hm] at hm256
        have hdk : dok B (t[i]'h1) = (decide (0 ≤ hxI m) && decide (hxI m < Z)) := by unfold dok; rw [hm, hZ, (hxI_r m hm256).2.2.2.2 hwd]
        rw [hdk] at hl
        have cI := fun W => hex_c m hm256 W
        obtain ⟨J, hJ⟩ : ∃ J, hxI m = J := ⟨_, rfl⟩
        rw [hJ] at cI hl
        have CI := Lib.hid cI
        have e1 : IntKind.i64.wrap ((i : Int) + 1) = (i : Int) + 1 := by rw [IntKind.wrap_i64]; omega
        have hV0 : (decide (0 ≤ J) && decide (J < Z)) = false → V = (0, 83) := fun h => by
          rw [h, Bool.false_and] at hl
          rw [← hV, ← hl]
          rfl
        have hV1 : (decide (0 ≤ J) && decide (J < Z)) = true → (bs.drop (i + 1)).all (dok B) = bs.all (dok B) := fun h => by
          rw [h, Bool.true_and] at hl
          exact hl
        have HV0 := Lib.hid hV0
        have HV1 := Lib.hid hV1
        clear hw hV hLn' hat hZ hmax hdr hgt hl hm hdk cI hJ hV0 hV1 hwd HL
        by_cases hj : 0 ≤ J
        · by_cases hz : J < Z
          · have HK := Lib.hid (HV1.out (by rw [decide_eq_true hj, decide_eq_true hz]; rfl))
            clear HV0 HV1
            go_wp2_with (go_at_call 74; refine (CI.out _).mono ?_; rintro e w' ⟨rfl, rfl⟩)
            go_roundg gm
            case measure => omega
            case rel => exact ⟨i + 1, by go_num, by omega, rfl, Lib.hid (by have := HI.out; omega), HK⟩
          · have hk := HV0.out (by rw [decide_eq_false hz, Bool.and_false])
            have hz2 : Z ≤ J := by omega
            clear HV0 HV1 hz
            subst hk
            go_wp2_with (go_at_call 74; refine (CI.out _).mono ?_; rintro e w' ⟨rfl, rfl⟩)
            go_ret2
            exact ⟨rfl, rfl⟩
        · have hk := HV0.out (by rw [decide_eq_false hj, Bool.false_and])
          have hj2 : J < 0 := by omega
          clear HV0 HV1 hj
          subst hk
          go_wp2_with (go_at_call 74; refine (CI.out _).mono ?_; rintro e w' ⟨rfl, rfl⟩)
          go_ret2
          exact ⟨rfl, rfl⟩
      · obtain ⟨hw, hV, hLn', hat, hZ, hmax⟩ := HH.out
        have hall : bs.all (dok B) = true := by
          rw [← HL.out, List.drop_eq_nil_of_le (by omega)]
          rfl
        rw [if_pos hall] at hV
        have hdig : ∀ c ∈ bs, hexV c < B := fun c hc => by
          have h1 := List.all_eq_true.1 hall c hc
          have h2 := List.all_eq_true.1 hw c hc
          have hr := hxI_r c.toNat c.toNat_lt
          rw [show UInt8.ofNat c.toNat = c by simp] at hr
          unfold dok at h1
          rw [Bool.and_eq_true, decide_eq_true_iff, decide_eq_true_iff, hr.2.2.2.2 h2] at h1
          have := hr.2.2.1 h1.1
          omega
        have HDG := Lib.hid (And.intro hdig (And.intro hV (And.intro hat (And.intro hZ hmax))))
        have q1 : ((i : Int) < (t.size : Int)) = False := eq_false (by omega)
        have q2 : (i < t.size) = False := eq_false h1
        clear hw hV hat hZ hmax hall HH HL HI hLn'
        go_wp2
        clear q1 q2
        obtain ⟨wo, hwo⟩ : ∃ q, q = wr := ⟨_, rfl⟩
        subst hwo
        go_loopg [8, 9] t.size (fun gm v8 v9 wx => ∃ (i acc : Nat), .int .u64 (acc : Int) = v8 ∧ .int .i64 (i : Int) = v9 ∧ i ≤ t.size ∧ wx = wo ∧ Hid (gm + i = t.size) ∧ Hid (acc < 18446744073709551616 ∧ mag B 0 bs = mag B acc (bs.drop i)))
        case atStart => exact ⟨0, 0, rfl, rfl, Nat.zero_le _, rfl, Lib.hid rfl, Lib.hid ⟨by omega, rfl⟩⟩
        case round =>
          obtain ⟨i, acc, rfl, rfl, hi, rfl, HI, HA⟩ := hrel
          by_cases h1 : i < t.size
          · obtain ⟨hdig, hV, hat, hZ, hmax⟩ := HDG.out
            obtain ⟨hacc, hmg⟩ := HA.out
            obtain ⟨gm, rfl⟩ : ∃ q, gk = q + 1 := ⟨gk - 1, by have := HI.out; omega⟩
            have hdr : bs.drop i = bs[i]'(by omega) :: bs.drop (i + 1) := List.drop_eq_getElem_cons (by omega)
            have hgt : bs[i]'(by omega) = t[i]'h1 := hat i h1
            have hcB : hexV (t[i]'h1) < B := by rw [← hgt]; exact hdig _ (List.getElem_mem _)
            rw [hdr, hgt, mag] at hmg
            have hm256 : (t[i]'h1).toNat < 256 := (t[i]'h1).toNat_lt
            obtain ⟨m, hm⟩ : ∃ m, (t[i]'h1).toNat = m := ⟨_, rfl⟩
            have hbt : ((t[i]'h1).toNat : Int) = (m : Int) := by rw [hm]
            rw [hm] at hm256
            have hr := hxI_r m hm256
            rw [show UInt8.ofNat m = t[i]'h1 by rw [← hm]; simp] at hr
            obtain ⟨d, hd⟩ : ∃ d, hexV (t[i]'h1) = d := ⟨_, rfl⟩
            rw [hd] at hcB hmg hr
            have hB16 : B ≤ 16 := by omega
            have hx : hxI m = (d : Int) := by
              rcases Int.lt_or_le (hxI m) 0 with h | h
              · have := hr.2.2.2.1 h; omega
              · exact (hr.2.2.1 h).symm
            rw [if_neg (by omega)] at hmg
            have cI := fun W => hex_c m hm256 W
            rw [hx] at cI
            have CI := Lib.hid cI
            have e1 : IntKind.i64.wrap ((i : Int) + 1) = (i : Int) + 1 := by rw [IntKind.wrap_i64]; omega
            have wd : IntKind.u64.wrap (d : Int) = (d : Int) := by rw [IntKind.wrap_u64]; omega
            have wm : IntKind.u64.wrap (18446744073709551615 - (d : Int)) = ((18446744073709551615 - d : Nat) : Int) := by rw [IntKind.wrap_u64]; omega
            obtain ⟨M, hM⟩ : ∃ M, 18446744073709551615 - d = M := ⟨_, rfl⟩
            rw [hM] at wm
            obtain ⟨Q, hQ⟩ : ∃ Q, M / B = Q := ⟨_, rfl⟩
            have wQ : IntKind.u64.wrap (((M : Nat) : Int) / Z) = (Q : Int) := by
              rw [← hZ, ← Int.natCast_ediv, hQ, IntKind.wrap_u64]
              have : M / B ≤ M := Nat.div_le_self _ _
              omega
            have hBp : 0 < B := by omega
            have hcut : (Q < acc) ↔ 18446744073709551616 ≤ acc * B + d := by
              rw [← hQ, Nat.div_lt_iff_lt_mul hBp]
              omega
            clear hdr hgt hdig hat hmax hm hr hx cI hd hB16 hcB hM hQ
            by_cases hov : 18446744073709551616 ≤ acc * B + d
            · rw [if_pos hov] at hmg
              rw [hmg] at hV
              dsimp only at hV
              have hq : (Q : Int) < (acc : Int) := by have := hcut.2 hov; omega
              have hq2 : Q < acc := hcut.2 hov
              clear hcut hov hmg hZ HA hacc hBp
              subst hV
              go_wp2_with (go_at_call 74; refine (CI.out _).mono ?_; rintro e w' ⟨rfl, rfl⟩)
              go_ret2
              exact ⟨rfl, rfl⟩
            · rw [if_neg hov] at hmg
              have hq : ((Q : Int) < (acc : Int)) = False := eq_false (fun h => hov (hcut.1 (by omega)))
              have hq2 : (Q < acc) = False := eq_false (fun h => hov (hcut.1 h))
              have hlt : acc * B + d < 18446744073709551616 := by omega
              have hmul : acc * B < 18446744073709551616 := by omega
              obtain ⟨P, hP⟩ : ∃ P, acc * B = P := ⟨_, rfl⟩
              have wP : IntKind.u64.wrap ((acc : Int) * Z) = (P : Int) := by rw [← hZ, ← hP, IntKind.wrap_u64]; omega
              rw [hP] at hmg hlt
              have wS : IntKind.u64.wrap ((P : Int) + (d : Int)) = ((P + d : Nat) : Int) := by rw [IntKind.wrap_u64]; omega
              have HM := Lib.hid (And.intro hlt hmg)
              clear hcut hov hmg hZ HA hacc hBp hV hmul hP hlt
              go_wp2_with (go_at_call 74; refine (CI.out _).mono ?_; rintro e w' ⟨rfl, rfl⟩)
              go_roundg gm
              case measure => omega
              case rel => exact ⟨i + 1, P + d, by first | rfl | go_num, by go_num, by omega, rfl, Lib.hid (by have := HI.out; omega), HM⟩
          · have hV := HDG.out.2.1
            have hmg := HA.out.2
            rw [List.drop_eq_nil_of_le (by omega), mag] at hmg
            rw [hmg] at hV
            dsimp only at hV
            subst hV
            clear hmg HA
            go_wp2
            go_ret2
            exact ⟨rfl, rfl⟩
end Go.Proofs.YtbmnifnahbehbaaGreatDoor

/- asm.cutter.quoted. -/
set_option linter.unusedVariables false
set_option linter.unusedSimpArgs false
namespace Go.Proofs.YtbmnifnahbehbaaGreatDoor
open Go.RowKit Go.Lib Go.Proofs.YtbmnifnahbehbaaGreatDoorW.PrintWords Go.Proofs.YtbmnifnahbehbaaGreatDoorW.PrintMore Go.Proofs.YtbmnifnahbehbaaGreatDoorW.PrintLast
open AvP
/-- The items up to the quote: the place, how many, the last one's value, the bytes. -/
def qLoop (s : ByteArray) (q : Nat) : Nat → Nat → Nat → Int → ByteArray → Option (Nat × Nat × Int × ByteArray)
  | 0, _, _, _, _ => none
  | f + 1, a, k, v, x => if a < s.size ∧ by_ s a ≠ q then (match itemS s a (q : Int) with | none => none | some (b, v', n) => qLoop s q f n (k + 1) v' (x ++ b)) else some (a, k, v, x)
/-- The character or text at i; none: it is none. -/
def quotedS (s : ByteArray) (i q : Nat) : Option Tok :=
  match qLoop s q (s.size + 1) (i + 1) 0 0 ⟨#[]⟩ with
  | none => none
  | some (a, k, v, x) => if s.size ≤ a ∨ q = 39 ∧ k ≠ 1 then none else some ⟨if q = 39 then 4 else 5, (i : Int), ((a + 1 : Nat) : Int), x, v, false⟩
theorem tb_cells' {w : World} {g : Nat} {t : Tok} (h : TBox w g t) : w.cell? ⟨g, 0, none⟩ = some (.int .i64 t.k) ∧ w.cell? ⟨g, 1, none⟩ = some (.int .i64 t.a) ∧ w.cell? ⟨g, 2, none⟩ = some (.int .i64 t.e) ∧ w.cell? ⟨g, 3, none⟩ = some (.string t.t) ∧ w.cell? ⟨g, 4, none⟩ = some (.int .u64 t.v) ∧ w.cell? ⟨g, 5, none⟩ = some (.bool t.d) :=
  ⟨blk_cell h 0, blk_cell h 1, blk_cell h 2, blk_cell h 3, blk_cell h 4, blk_cell h 5⟩
theorem itemS_lt (s : ByteArray) (i : Nat) (q : Int) (hi : i < s.size) {b : ByteArray} {v : Int} {n : Nat} (h : itemS s i q = some (b, v, n)) : i < n ∧ n ≤ s.size ∧ b.size ≤ n - i := by
  have hsz : (s.extract i s.size).size = s.size - i := by rw [ByteArray.size_extract]; omega
  have hK1 : 1 ≤ (Lib.decodeGo (s.extract i s.size)).2 := by
    unfold Lib.decodeGo
    rw [if_neg (by rw [hsz]; omega)]
    exact Lib.decode_width_pos _ 0 (by rw [hsz]; omega)
  have hK2 := Lib.decodeGo_le_size (s.extract i s.size)
  rw [hsz] at hK2
  have h1 : ∀ v, (oneB v).size = 1 := fun v => rfl
  unfold itemS at h
  dsimp only at h
  split at h
  · cases h
  · split at h
    · cases h
      refine ⟨by omega, by omega, ?_⟩
      rw [ByteArray.size_extract]; omega
    · split at h
      · cases h
      · split at h
        · cases h
          exact ⟨by omega, by omega, by rw [h1]; omega⟩
        · split at h
          · cases h
          · split at h
            · cases h
              exact ⟨by omega, by omega, by rw [h1]; omega⟩
            · cases h
/-- The cutter and, apart from it, the token's box. -/
structure CSq (w : World) (g gb : Nat) (s : ByteArray) (i : Nat) (l : List Tok) (t : Tok) (W : World) : Prop where
  b : Below w.heap.size w W
  g0 : w.heap.size ≤ g
  n : gb ≠ g
  gb0 : w.heap.size ≤ gb
  t : TBox W gb t
  x : ∃ A cp, W.heap[g]? = some (.cells #[.string s, .int .i64 (i : Int), .slice A l.length cp] 75 (0, 0)) ∧ Kd.R k49 49 W w.heap.size (fun k => k ≠ g ∧ k ≠ gb) (.slice A l.length cp) l
section
variable {w W W' : World} {g gb i : Nat} {s : ByteArray} {l : List Tok} {t : Tok}
theorem CSq.st (h : CSq w g gb s i l t W) : CSt w g s i l W := by
  obtain ⟨A, cp, h1, h2⟩ := h.x
  exact ⟨h.b, h.g0, A, cp, h1, Kd.R_mono h2 (fun _ hk => hk.1)⟩
theorem CSq.below (h : CSq w g gb s i l t W) (hb : Below W.heap.size W W') : CSq w g gb s i l t W' := by
  obtain ⟨A, cp, h1, h2⟩ := h.x
  exact ⟨h.b.trans (hb.mono h.b.size), h.g0, h.n, h.gb0, blk_below h.t hb, A, cp, blk_below h1 hb, Kd.R_below h2 hb⟩
theorem CSq.of (h : CSt w g s i l W) (t : Tok) : CSq w g W.heap.size s i l t (W.alloc (.cells (tokL t).toArray 49)) := by
  obtain ⟨A, cp, h1, h2⟩ := h.x
  have hb := (Below.refl W.heap.size W).alloc (Nat.le_refl _) (.cells (tokL t).toArray 49)
  refine ⟨h.b.trans (hb.mono h.b.size), h.g0, by have := blk_lt h1; omega, h.b.size, blk_new W _, A, cp, blk_below h1 hb, Kd.R_below ?_ hb⟩
  exact Kd.R_mono (Kd.R_bound h2) (fun k hk => ⟨hk.1, by have := hk.2.2.1; omega⟩)
theorem CSq.set (h : CSq w g gb s i l t W) (j : Nat) (u : Value) (t' : Tok) (hu : (tokL t).toArray.setIfInBounds j u = (tokL t').toArray) : CSq w g gb s i l t' (W.setCell ⟨gb, j, none⟩ u) := by
  obtain ⟨A, cp, h1, h2⟩ := h.x
  have hb0 : Below 0 W (W.setCell ⟨gb, j, none⟩ u) := Below.setCell (Below.refl 0 W) (p := ⟨gb, j, none⟩) (Nat.zero_le _) _
  refine ⟨Below.setCell h.b (p := ⟨gb, j, none⟩) h.gb0 _, h.g0, h.n, h.gb0, ?_, A, cp, blk_far h1 (p := ⟨gb, j, none⟩) (Ne.symm h.n) u, ?_⟩
  · unfold TBox
    rw [← hu]
    exact blk_set h.t j u
  · exact Kd.R_grown h2 (row := some gb) ⟨hb0.os, hb0.tape, hb0.output, hb0.size, fun k hk hne => Below.heap_setCell W ⟨gb, j, none⟩ _ k (fun e => hne (by rw [e]))⟩ (fun k hk e => hk.2 (Option.some.inj e))
end
/-- What quoted answers. -/
def QEnd (w : World) (g : Nat) (s : ByteArray) (i : Nat) (l : List Tok) (r : Option Tok) (E : Ending) (w' : World) : Prop :=
  match r with
  | some t => E = .returned (.pointer none) ∧ CSt w g s t.e.toNat (l ++ [t]) w'
  | none => ∃ v, E = .returned v ∧ FaultIs w' g v (i : Int) 80 ∧ Below w.heap.size w w'
set_option maxHeartbeats 8000000 in
set_option maxRecDepth 100000 in
theorem quoted_c {w W : World} {g i q : Nat} {s : ByteArray} {l : List Tok} (h : CSt w g s i l W) (hG : Glob w) (hi : i < s.size) (hs : s.size ≤ 100000) (hl : l.length ≤ 99999) (hq : q = 39 ∨ q = 34) :
    Calls Tryz.prog 19 #[.pointer (some ⟨g, 0, none⟩), .int .u8 (q : Int)] W (QEnd w g s i l (quotedS s i q)) := by
  obtain ⟨R, hR⟩ : ∃ R, quotedS s i q = R := ⟨_, rfl⟩
  rw [hR]
  have HR := Lib.hid hR
  have H := Lib.hid h
  have HH := Lib.hid (And.intro hG (And.intro hi (And.intro hs (And.intro hl hq))))
  have c1 := h.c1
  have hgl := World.block_lt_of_cell? _ _ c1
  clear hR h hG hl
  have w1 : IntKind.i64.wrap ((i : Int) + 1) = ((i + 1 : Nat) : Int) := by rw [IntKind.wrap_i64]; omega
  obtain ⟨i1, hi1⟩ : ∃ i1, i + 1 = i1 := ⟨_, rfl⟩
  rw [hi1] at w1
  have HI1 := Lib.hid hi1
  clear hi1
  go_enter Tryz.func19, Tryz.ntmps19
  go_upto_region 5 with (first
    | (go_at_call 8; refine (fault_c (i : Int) 80 g _ hgl).mono ?_; rintro E w1' ⟨v, rfl, hf, hd⟩; obtain ⟨fb, rfl, hf1, hf2⟩ := hf; have HF := Lib.hid (And.intro hf1 (And.intro hf2 hd)); have H1 := Lib.hid (CSq.of (H.out.below hd) ⟨5, (i : Int), 0, ⟨#[]⟩, 0, false⟩); clear hf1 hf2 hd))
  obtain ⟨w2, hw2⟩ : ∃ z, w1'.alloc (.cells (tokL ⟨5, (i : Int), 0, ⟨#[]⟩, 0, false⟩).toArray 49) = z := ⟨_, rfl⟩
  rw [hw2] at H1
  have hf2' : FaultIs w2 g (.pointer (some ⟨fb, 0, none⟩)) (i : Int) 80 := ⟨fb, rfl, HF.out.1, by rw [← hw2]; exact blk_alloc HF.out.2.1 _⟩
  have HF2 := Lib.hid hf2'
  obtain ⟨gb, hgb⟩ : ∃ z, w1'.heap.size = z := ⟨_, rfl⟩
  rw [hgb] at H1
  have hfgb : fb ≠ gb := by have := blk_lt HF.out.2.1; omega
  have HFG := Lib.hid hfgb
  have hgb7 : TBox w2 gb ⟨5, (i : Int), 0, ⟨#[]⟩, 0, false⟩ := H1.out.t
  clear hf2' hfgb c1 hgl
  obtain ⟨ANS, hANS⟩ : ∃ A, qLoop s q (s.size + 1) i1 0 0 ⟨#[]⟩ = A := ⟨_, rfl⟩
  have HAN := Lib.hid hANS
  clear hANS
  have hw2' := hw2
  unfold tokL at hw2'
  rw [hw2']
  rw [hgb]
  clear hw2' hw2 hgb7 hgb
  go_wp2
  go_loopg [8, 9] (s.size + 1) (fun gm v8 v9 wx => ∃ (a k : Nat) (v : Int) (x : ByteArray), .int .i64 (k : Int) = v8 ∧ .int .i64 (a : Int) = v9 ∧ a ≤ s.size ∧ k ≤ a ∧ x.size ≤ a ∧ Hid (s.size + 1 ≤ gm + a) ∧ Hid (CSq w g gb s i l ⟨5, (i : Int), 0, x, v, false⟩ wx) ∧ Hid (FaultIs wx g (.pointer (some ⟨fb, 0, none⟩)) (i : Int) 80) ∧ Hid (qLoop s q gm a k v x = ANS))
  case atStart => exact ⟨i1, 0, 0, ⟨#[]⟩, rfl, rfl, by have := HI1.out; omega, Nat.zero_le _, Nat.zero_le _, Lib.hid (by omega), H1, HF2, HAN⟩
  case round =>
    obtain ⟨a, k, v, x, rfl, rfl, ha, hk, hxs, HI, HX, HFx, HQ⟩ := hrel
    have c0 := HX.out.st.c0
    obtain ⟨gm, rfl⟩ : ∃ z, gk = z + 1 := ⟨gk - 1, by have := HI.out; omega⟩
    have hQ := HQ.out
    rw [qLoop] at hQ
    by_cases has : a < s.size ∧ by_ s a ≠ q
    · rw [if_pos has] at hQ
      obtain ⟨has1, has2⟩ := has
      have hbt := by_at s a has1
      have hbz : ((s[a]'has1).toNat : Int) = ((by_ s a : Nat) : Int) := by rw [hbt]
      obtain ⟨c, hc⟩ : ∃ c, by_ s a = c := ⟨_, rfl⟩
      rw [hc] at hbz has2
      have q1 : ((c : Int) != (q : Int)) = true := by rw [bne_iff_ne]; omega
      have q2 : (a : Int) < (s.size : Int) := by omega
      have hitem := item_c c0 (Glob.step HH.out.1 HX.out.b) has1 HH.out.2.2.1 (q : Int) (by have := HH.out.2.2.2.2; omega)
      clear hc hbt has2
      cases hIt : itemS s a (q : Int) with
      | none =>
        rw [hIt] at hitem hQ
        have hA : ANS = none := hQ.symm
        have HIT := Lib.hid hitem
        have HA := Lib.hid hA
        clear hitem hQ hIt hA
        go_wp2_with (first
          | (go_at_call 39; refine HIT.out.mono ?_; rintro E w5 ⟨⟨b', v', n', rfl⟩, hb⟩; have HB := Lib.hid hb; clear hb))
        go_ret
        have hR : R = none := by
          rw [← HR.out]
          unfold quotedS
          rw [HI1.out, HAN.out, HA.out]
        rw [hR]
        exact ⟨_, rfl, FaultIs.kg (KG.of_below HB.out) HFx.out, HX.out.b.trans (HB.out.mono HX.out.b.size)⟩
      | some r =>
        obtain ⟨b, v', n⟩ := r
        rw [hIt] at hitem hQ
        dsimp only at hQ
        obtain ⟨hn1, hn2, hn3⟩ := itemS_lt s a _ has1 hIt
        have HIT := Lib.hid hitem
        have HQ2 := Lib.hid hQ
        have y1 : (9223372036854775807 < x.size + b.size) = False := eq_false (by omega)
        have z1 := eq_true (show x.size + b.size ≤ 9223372036854775807 by omega)
        have e1 : IntKind.i64.wrap ((k : Int) + 1) = (k : Int) + 1 := by rw [IntKind.wrap_i64]; omega
        clear hitem hQ hIt
        go_upto_region 9 with (first
          | (go_at_call 39; refine HIT.out.mono ?_; rintro E w5 ⟨rfl, hb⟩; have HX5 := Lib.hid (HX.out.below hb); have HF5 := Lib.hid (FaultIs.kg (KG.of_below hb) HFx.out); clear hb))
        have t3 : w5.cell? ⟨gb, 3, none⟩ = some (.string x) := blk_cell HX5.out.t 3
        have z3 : w5.frozen? ⟨gb, 3, none⟩ = false := blk_frozen HX5.out.t 3
        have hS1 := HX5.out.set 3 (.string (x ++ b)) ⟨5, (i : Int), 0, x ++ b, v, false⟩ rfl
        have t4 : (w5.setCell ⟨gb, 3, none⟩ (.string (x ++ b))).cell? ⟨gb, 4, none⟩ = some (.int .u64 v) := blk_cell hS1.t 4
        have z4 : (w5.setCell ⟨gb, 3, none⟩ (.string (x ++ b))).frozen? ⟨gb, 4, none⟩ = false := blk_frozen hS1.t 4
        have hS2 := hS1.set 4 (.int .u64 v') ⟨5, (i : Int), 0, x ++ b, v', false⟩ rfl
        have hK2 : KG gb w5 ((w5.setCell ⟨gb, 3, none⟩ (.string (x ++ b))).setCell ⟨gb, 4, none⟩ (.int .u64 v')) := ((KG.refl gb w5).set 3 _).set 4 _
        have hF2 : FaultIs ((w5.setCell ⟨gb, 3, none⟩ (.string (x ++ b))).setCell ⟨gb, 4, none⟩ (.int .u64 v')) g (.pointer (some ⟨fb, 0, none⟩)) (i : Int) 80 := by
          obtain ⟨fb', e, h1, h2⟩ := HF5.out
          injection e with e
          injection e with e
          injection e with e
          subst e
          exact ⟨_, rfl, h1, (hK2.k _ (blk_lt h2) HFG.out).trans h2⟩
        have HS2 := Lib.hid hS2
        have HF2' := Lib.hid hF2
        clear hS1 hS2 hK2 hF2
        go_wp2
        go_roundg gm
        case measure => omega
        case rel => exact ⟨n, k + 1, v', x ++ b, by go_num, rfl, hn2, by omega, by rw [ByteArray.size_append]; omega, Lib.hid (by have := HI.out; omega), HS2, HF2', HQ2⟩
    · rw [if_neg has] at hQ
      have hQ2 : ANS = some (a, k, v, x) := by
        rw [← hQ]
      have hRR : R = if s.size ≤ a ∨ q = 39 ∧ k ≠ 1 then none else some ⟨if q = 39 then 4 else 5, (i : Int), ((a + 1 : Nat) : Int), x, v, false⟩ := by
        rw [← HR.out]
        unfold quotedS
        rw [HI1.out, HAN.out, hQ2]
      have HN := Lib.hid HX.out.n
      clear hQ hQ2
      by_cases hbad : s.size ≤ a ∨ q = 39 ∧ k ≠ 1
      · rw [if_pos hbad] at hRR
        have HRR := Lib.hid hRR
        have HB := Lib.hid hbad
        clear hRR
        by_cases hge : s.size ≤ a
        · have q2 : ((a : Int) < (s.size : Int)) = False := eq_false (by omega)
          have q3 : (a < s.size) = False := eq_false (by omega)
          have q4 : (s.size ≤ a) = True := eq_true hge
          have q5 : ((s.size : Int) ≤ (a : Int)) = True := eq_true (by omega)
          clear has hbad hge
          go_wp2
          go_ret
          rw [HRR.out]
          exact ⟨_, rfl, HFx.out, HX.out.b⟩
        · have ha2 : a < s.size := by omega
          have hc : by_ s a = q := Classical.byContradiction (fun h => has ⟨ha2, h⟩)
          have hk1 : q = 39 ∧ k ≠ 1 := hbad.resolve_left hge
          obtain ⟨rfl, hk2⟩ := hk1
          have hbt := by_at s a ha2
          have hbz : ((s[a]'ha2).toNat : Int) = 39 := by rw [hbt, hc]; rfl
          have q2 : (a : Int) < (s.size : Int) := by omega
          have k9 : ((k : Int) != 1) = true := by rw [bne_iff_ne]; omega
          clear has hbad hge hc hk2 hbt
          go_wp2
          go_ret
          rw [HRR.out]
          exact ⟨_, rfl, HFx.out, HX.out.b⟩
      · rw [if_neg hbad] at hRR
        have ha2 : a < s.size := Classical.byContradiction (fun h => hbad (.inl (by omega)))
        have hc : by_ s a = q := Classical.byContradiction (fun h => has ⟨ha2, h⟩)
        have hbt := by_at s a ha2
        have hbz : ((s[a]'ha2).toNat : Int) = (q : Int) := by rw [hbt, hc]
        have q2 : (a : Int) < (s.size : Int) := by omega
        have w9 : IntKind.i64.wrap ((a : Int) + 1) = ((a + 1 : Nat) : Int) := by rw [IntKind.wrap_i64]; omega
        obtain ⟨a1, ha1⟩ : ∃ a1, a + 1 = a1 := ⟨_, rfl⟩
        rw [ha1] at w9 hRR
        rcases hq with rfl | rfl
        · have hk1 : k = 1 := Classical.byContradiction (fun h => hbad (.inr ⟨rfl, h⟩))
          subst hk1
          have HRR : Hid (some (⟨4, (i : Int), (a1 : Int), x, v, false⟩ : Tok) = R) := Lib.hid (by rw [hRR]; rfl)
          have hS1 := HX.out.set 0 (.int .i64 4) ⟨4, (i : Int), 0, x, v, false⟩ rfl
          have t0 : wr.cell? ⟨gb, 0, none⟩ = some (.int .i64 5) := blk_cell HX.out.t 0
          have z0 : wr.frozen? ⟨gb, 0, none⟩ = false := blk_frozen HX.out.t 0
          have t2 : (wr.setCell ⟨gb, 0, none⟩ (.int .i64 4)).cell? ⟨gb, 2, none⟩ = some (.int .i64 0) := blk_cell hS1.t 2
          have z2 : (wr.setCell ⟨gb, 0, none⟩ (.int .i64 4)).frozen? ⟨gb, 2, none⟩ = false := blk_frozen hS1.t 2
          have hT := hS1.set 2 (.int .i64 (a1 : Int)) ⟨4, (i : Int), (a1 : Int), x, v, false⟩ rfl
          obtain ⟨wz, hwz⟩ : ∃ z, (wr.setCell ⟨gb, 0, none⟩ (.int .i64 4)).setCell ⟨gb, 2, none⟩ (.int .i64 (a1 : Int)) = z := ⟨_, rfl⟩
          rw [hwz] at hT
          have HT := Lib.hid hT
          have HWZ := Lib.hid hwz
          clear has hbad hc hbt hRR hS1 hT hwz ha1
          go_upto_region 18 with (fail)
          rw [HWZ.out]
          clear t0 z0 t2 z2 c0
          -- the token is whole: HT: CSq .. tF at the world wz
          obtain ⟨A, cp, hx, hr⟩ := HT.out.x
          have hP : CPut w g s i l l.length cp A (.slice A l.length cp) wz := ⟨HT.out.b, HT.out.g0, hx, Kd.R_mono hr (fun _ hk => hk.1)⟩
          have hgr : some gb ≠ (Value.slice A l.length cp).ownBlock := fun e => (hr.1 gb e.symm).2 rfl
          obtain ⟨A2, m, c2, wC, hap, HM, hS2, hfr⟩ := hP.drew.app ⟨4, (i : Int), (a1 : Int), x, v, false⟩ (by have := HH.out.2.2.2.1; omega)
          have hgC : TBox wC gb ⟨4, (i : Int), (a1 : Int), x, v, false⟩ := (hfr gb (blk_lt HT.out.t) hgr).trans HT.out.t
          have HA := Lib.hid hap
          have HS := Lib.hid hS2
          have HGC := Lib.hid hgC
          have HX0 := Lib.hid (And.intro hx HT.out.t)
          have b0 : wz.drew.cell? ⟨g, 2, none⟩ = some (.slice A l.length cp) := blk_cell hx 2
          obtain ⟨b1, b2, b3, b4, b5, b6⟩ := tb_cells' (show TBox wz.drew gb ⟨4, (i : Int), (a1 : Int), x, v, false⟩ from HT.out.t)
          clear hap hS2 hgC hfr hgr hP hx hr
          go_wp2
          refine wp_region_G (fun w' => w'.cell? ⟨g, 2, none⟩ = some (.slice A l.length cp) ∧ w'.cell? ⟨gb, 0, none⟩ = some (.int .i64 4) ∧ w'.cell? ⟨gb, 1, none⟩ = some (.int .i64 (i : Int)) ∧ w'.cell? ⟨gb, 2, none⟩ = some (.int .i64 (a1 : Int)) ∧ w'.cell? ⟨gb, 3, none⟩ = some (.string x) ∧ w'.cell? ⟨gb, 4, none⟩ = some (.int .u64 v) ∧ w'.cell? ⟨gb, 5, none⟩ = some (.bool false)) 10 (by kernel_rfl) ?_
          refine wpAnyG_take (i := 0) (v := ?_) rfl (by kernel_rfl) (by kernel_rfl) (by kernel_rfl) (by kernel_rfl) (fun _ _ _ h => h) (Or.inl ⟨by rfl, ?_⟩) ⟨b0, b1, b2, b3, b4, b5, b6⟩ ?_
          rotate_left
          · intro w hSw
            obtain ⟨k0, k1, k2, k3, k4, k5, k6⟩ := hSw
            go_simp
            try with_reducible rfl
          simp only [Act.put, List.setIfInBounds_toArray, List.set_cons_zero, List.set_cons_succ]
          refine wpAnyG_take (i := 1) (v := ?_) rfl (by kernel_rfl) (by kernel_rfl) (by kernel_rfl) (by kernel_rfl) (fun _ _ _ h => h) (Or.inl ⟨by rfl, ?_⟩) ⟨b0, b1, b2, b3, b4, b5, b6⟩ ?_
          rotate_left
          · intro w hSw
            obtain ⟨k0, k1, k2, k3, k4, k5, k6⟩ := hSw
            go_simp
            try with_reducible rfl
          simp only [Act.put, List.setIfInBounds_toArray, List.set_cons_zero, List.set_cons_succ]
          refine wpAnyG_take (i := 2) (v := ?_) rfl (by kernel_rfl) (by kernel_rfl) (by kernel_rfl) (by kernel_rfl) (fun _ _ _ h => h) (Or.inl ⟨by rfl, ?_⟩) ⟨b0, b1, b2, b3, b4, b5, b6⟩ ?_
          rotate_left
          · intro w hSw
            obtain ⟨k0, k1, k2, k3, k4, k5, k6⟩ := hSw
            go_simp
            try with_reducible rfl
          simp only [Act.put, List.setIfInBounds_toArray, List.set_cons_zero, List.set_cons_succ]
          refine wpAnyG_take (i := 3) (v := ?_) rfl (by kernel_rfl) (by kernel_rfl) (by kernel_rfl) (by kernel_rfl) (fun _ _ _ h => h) (Or.inl ⟨by rfl, ?_⟩) ⟨b0, b1, b2, b3, b4, b5, b6⟩ ?_
          rotate_left
          · intro w hSw
            obtain ⟨k0, k1, k2, k3, k4, k5, k6⟩ := hSw
            go_simp
            try with_reducible rfl
          simp only [Act.put, List.setIfInBounds_toArray, List.set_cons_zero, List.set_cons_succ]
          refine wpAnyG_take (i := 4) (v := ?_) rfl (by kernel_rfl) (by kernel_rfl) (by kernel_rfl) (by kernel_rfl) (fun _ _ _ h => h) (Or.inl ⟨by rfl, ?_⟩) ⟨b0, b1, b2, b3, b4, b5, b6⟩ ?_
          rotate_left
          · intro w hSw
            obtain ⟨k0, k1, k2, k3, k4, k5, k6⟩ := hSw
            go_simp
            try with_reducible rfl
          simp only [Act.put, List.setIfInBounds_toArray, List.set_cons_zero, List.set_cons_succ]
          refine wpAnyG_take (i := 5) (v := ?_) rfl (by kernel_rfl) (by kernel_rfl) (by kernel_rfl) (by kernel_rfl) (fun _ _ _ h => h) (Or.inl ⟨by rfl, ?_⟩) ⟨b0, b1, b2, b3, b4, b5, b6⟩ ?_
          rotate_left
          · intro w hSw
            obtain ⟨k0, k1, k2, k3, k4, k5, k6⟩ := hSw
            go_simp
            try with_reducible rfl
          simp only [Act.put, List.setIfInBounds_toArray, List.set_cons_zero, List.set_cons_succ]
          refine wpAnyG_one (i := 6) (by kernel_rfl) rfl (fun K hK => ?_)
          go_simp
          refine hK.out _ _ (.inr ⟨blk_cell (blk_alloc HX0.out.1 _) 2, blk_cell (blk_alloc HX0.out.2 _) 0, blk_cell (blk_alloc HX0.out.2 _) 1, blk_cell (blk_alloc HX0.out.2 _) 2, blk_cell (blk_alloc HX0.out.2 _) 3, blk_cell (blk_alloc HX0.out.2 _) 4, blk_cell (blk_alloc HX0.out.2 _) 5⟩) ?_
          clear hK K
          try simp only [Act.put, List.setIfInBounds_toArray, List.set_cons_zero, List.set_cons_succ]
          refine wpAnyG_one (i := 7) (by kernel_rfl) rfl (fun K hK => ?_)
          refine step_run (by rfl) (.tmp 89) (.tmp 91) 41 (by rfl) (by rfl) (by rfl) HA.out ?_
          clear b0 b1 b2 b3 b4 b5 b6
          have b0 : wC.cell? ⟨g, 2, none⟩ = some (.slice A l.length cp) := blk_cell HS.out.x 2
          obtain ⟨b1, b2, b3, b4, b5, b6⟩ := tb_cells' HGC.out
          have f2 : wC.frozen? ⟨g, 2, none⟩ = false := blk_frozen HS.out.x 2
          refine hK.out _ _ (.inr ⟨b0, b1, b2, b3, b4, b5, b6⟩) ?_
          clear hK K
          try simp only [Act.put, List.setIfInBounds_toArray, List.set_cons_zero, List.set_cons_succ]
          refine wpAnyG_one (i := 8) (by kernel_rfl) rfl (fun K hK => ?_)
          go_simp
          refine hK.out _ _ (.inr ⟨b0, b1, b2, b3, b4, b5, b6⟩) ?_
          clear hK K
          try simp only [Act.put, List.setIfInBounds_toArray, List.set_cons_zero, List.set_cons_succ]
          refine wpAnyG_one (i := 9) (by kernel_rfl) rfl (fun K hK => ?_)
          go_simp
          refine hK.out _ _ (.inr ⟨b0, b1, b2, b3, b4, b5, b6⟩) ?_
          clear hK K
          try simp only [Act.put, List.setIfInBounds_toArray, List.set_cons_zero, List.set_cons_succ]
          refine wpAnyG_one (i := 10) (by kernel_rfl) rfl (fun K hK => ?_)
          go_simp
          refine hK.out _ _ (.inl rfl) ?_
          clear hK K
          try simp only [Act.put, List.setIfInBounds_toArray, List.set_cons_zero, List.set_cons_succ]
          refine wpAnyG_done (by kernel_rfl) ?_ _
          have hx3 := blk_put HS.out.x 2 (.slice A2 m c2) rfl
          have p1 : (wC.setCell ⟨g, 2, none⟩ (.slice A2 m c2)).cell? ⟨g, 1, none⟩ = some (.int .i64 (i : Int)) := blk_cell hx3 1
          have f1 : (wC.setCell ⟨g, 2, none⟩ (.slice A2 m c2)).frozen? ⟨g, 1, none⟩ = false := blk_frozen hx3 1
          have p2 : (wC.setCell ⟨g, 2, none⟩ (.slice A2 m c2)).cell? ⟨gb, 2, none⟩ = some (.int .i64 (a1 : Int)) := blk_cell (blk_far HGC.out (p := ⟨g, 2, none⟩) HN.out _) 2
          clear b0 b1 b2 b3 b4 b5 b6 f2 hx3
          go_wp2
          go_ret
          obtain rfl := HM.out
          have hx4 := blk_put (blk_put HS.out.x 2 (.slice A2 (l ++ [(⟨4, (i : Int), (a1 : Int), x, v, false⟩ : Tok)]).length c2) rfl) 1 (.int .i64 (a1 : Int)) rfl
          rw [← HRR.out]
          exact ⟨rfl, Below.setCell (Below.setCell HS.out.b (p := ⟨g, 2, none⟩) HS.out.g0 _) (p := ⟨g, 1, none⟩) HS.out.g0 _, HS.out.g0, A2, c2, hx4, R_setg (R_setg HS.out.r 2 _) 1 _⟩
        · have HRR : Hid (some (⟨5, (i : Int), (a1 : Int), x, v, false⟩ : Tok) = R) := Lib.hid (by rw [hRR]; rfl)
          have t2 : wr.cell? ⟨gb, 2, none⟩ = some (.int .i64 0) := blk_cell HX.out.t 2
          have z2 : wr.frozen? ⟨gb, 2, none⟩ = false := blk_frozen HX.out.t 2
          have hT := HX.out.set 2 (.int .i64 (a1 : Int)) ⟨5, (i : Int), (a1 : Int), x, v, false⟩ rfl
          obtain ⟨wz, hwz⟩ : ∃ z, wr.setCell ⟨gb, 2, none⟩ (.int .i64 (a1 : Int)) = z := ⟨_, rfl⟩
          rw [hwz] at hT
          have HT := Lib.hid hT
          have HWZ := Lib.hid hwz
          clear has hbad hc hbt hRR hT hwz ha1
          go_upto_region 18 with (fail)
          rw [HWZ.out]
          clear t2 z2 c0
          -- the token is whole: HT: CSq .. tF at the world wz
          obtain ⟨A, cp, hx, hr⟩ := HT.out.x
          have hP : CPut w g s i l l.length cp A (.slice A l.length cp) wz := ⟨HT.out.b, HT.out.g0, hx, Kd.R_mono hr (fun _ hk => hk.1)⟩
          have hgr : some gb ≠ (Value.slice A l.length cp).ownBlock := fun e => (hr.1 gb e.symm).2 rfl
          obtain ⟨A2, m, c2, wC, hap, HM, hS2, hfr⟩ := hP.drew.app ⟨5, (i : Int), (a1 : Int), x, v, false⟩ (by have := HH.out.2.2.2.1; omega)
          have hgC : TBox wC gb ⟨5, (i : Int), (a1 : Int), x, v, false⟩ := (hfr gb (blk_lt HT.out.t) hgr).trans HT.out.t
          have HA := Lib.hid hap
          have HS := Lib.hid hS2
          have HGC := Lib.hid hgC
          have HX0 := Lib.hid (And.intro hx HT.out.t)
          have b0 : wz.drew.cell? ⟨g, 2, none⟩ = some (.slice A l.length cp) := blk_cell hx 2
          obtain ⟨b1, b2, b3, b4, b5, b6⟩ := tb_cells' (show TBox wz.drew gb ⟨5, (i : Int), (a1 : Int), x, v, false⟩ from HT.out.t)
          clear hap hS2 hgC hfr hgr hP hx hr
          go_wp2
          refine wp_region_G (fun w' => w'.cell? ⟨g, 2, none⟩ = some (.slice A l.length cp) ∧ w'.cell? ⟨gb, 0, none⟩ = some (.int .i64 5) ∧ w'.cell? ⟨gb, 1, none⟩ = some (.int .i64 (i : Int)) ∧ w'.cell? ⟨gb, 2, none⟩ = some (.int .i64 (a1 : Int)) ∧ w'.cell? ⟨gb, 3, none⟩ = some (.string x) ∧ w'.cell? ⟨gb, 4, none⟩ = some (.int .u64 v) ∧ w'.cell? ⟨gb, 5, none⟩ = some (.bool false)) 10 (by kernel_rfl) ?_
          refine wpAnyG_take (i := 0) (v := ?_) rfl (by kernel_rfl) (by kernel_rfl) (by kernel_rfl) (by kernel_rfl) (fun _ _ _ h => h) (Or.inl ⟨by rfl, ?_⟩) ⟨b0, b1, b2, b3, b4, b5, b6⟩ ?_
          rotate_left
          · intro w hSw
            obtain ⟨k0, k1, k2, k3, k4, k5, k6⟩ := hSw
            go_simp
            try with_reducible rfl
          simp only [Act.put, List.setIfInBounds_toArray, List.set_cons_zero, List.set_cons_succ]
          refine wpAnyG_take (i := 1) (v := ?_) rfl (by kernel_rfl) (by kernel_rfl) (by kernel_rfl) (by kernel_rfl) (fun _ _ _ h => h) (Or.inl ⟨by rfl, ?_⟩) ⟨b0, b1, b2, b3, b4, b5, b6⟩ ?_
          rotate_left
          · intro w hSw
            obtain ⟨k0, k1, k2, k3, k4, k5, k6⟩ := hSw
            go_simp
            try with_reducible rfl
          simp only [Act.put, List.setIfInBounds_toArray, List.set_cons_zero, List.set_cons_succ]
          refine wpAnyG_take (i := 2) (v := ?_) rfl (by kernel_rfl) (by kernel_rfl) (by kernel_rfl) (by kernel_rfl) (fun _ _ _ h => h) (Or.inl ⟨by rfl, ?_⟩) ⟨b0, b1, b2, b3, b4, b5, b6⟩ ?_
          rotate_left
          · intro w hSw
            obtain ⟨k0, k1, k2, k3, k4, k5, k6⟩ := hSw
            go_simp
            try with_reducible rfl
          simp only [Act.put, List.setIfInBounds_toArray, List.set_cons_zero, List.set_cons_succ]
          refine wpAnyG_take (i := 3) (v := ?_) rfl (by kernel_rfl) (by kernel_rfl) (by kernel_rfl) (by kernel_rfl) (fun _ _ _ h => h) (Or.inl ⟨by rfl, ?_⟩) ⟨b0, b1, b2, b3, b4, b5, b6⟩ ?_
          rotate_left
          · intro w hSw
            obtain ⟨k0, k1, k2, k3, k4, k5, k6⟩ := hSw
            go_simp
            try with_reducible rfl
          simp only [Act.put, List.setIfInBounds_toArray, List.set_cons_zero, List.set_cons_succ]
          refine wpAnyG_take (i := 4) (v := ?_) rfl (by kernel_rfl) (by kernel_rfl) (by kernel_rfl) (by kernel_rfl) (fun _ _ _ h => h) (Or.inl ⟨by rfl, ?_⟩) ⟨b0, b1, b2, b3, b4, b5, b6⟩ ?_
          rotate_left
          · intro w hSw
            obtain ⟨k0, k1, k2, k3, k4, k5, k6⟩ := hSw
            go_simp
            try with_reducible rfl
          simp only [Act.put, List.setIfInBounds_toArray, List.set_cons_zero, List.set_cons_succ]
          refine wpAnyG_take (i := 5) (v := ?_) rfl (by kernel_rfl) (by kernel_rfl) (by kernel_rfl) (by kernel_rfl) (fun _ _ _ h => h) (Or.inl ⟨by rfl, ?_⟩) ⟨b0, b1, b2, b3, b4, b5, b6⟩ ?_
          rotate_left
          · intro w hSw
            obtain ⟨k0, k1, k2, k3, k4, k5, k6⟩ := hSw
            go_simp
            try with_reducible rfl
          simp only [Act.put, List.setIfInBounds_toArray, List.set_cons_zero, List.set_cons_succ]
          refine wpAnyG_one (i := 6) (by kernel_rfl) rfl (fun K hK => ?_)
          go_simp
          refine hK.out _ _ (.inr ⟨blk_cell (blk_alloc HX0.out.1 _) 2, blk_cell (blk_alloc HX0.out.2 _) 0, blk_cell (blk_alloc HX0.out.2 _) 1, blk_cell (blk_alloc HX0.out.2 _) 2, blk_cell (blk_alloc HX0.out.2 _) 3, blk_cell (blk_alloc HX0.out.2 _) 4, blk_cell (blk_alloc HX0.out.2 _) 5⟩) ?_
          clear hK K
          try simp only [Act.put, List.setIfInBounds_toArray, List.set_cons_zero, List.set_cons_succ]
          refine wpAnyG_one (i := 7) (by kernel_rfl) rfl (fun K hK => ?_)
          refine step_run (by rfl) (.tmp 89) (.tmp 91) 41 (by rfl) (by rfl) (by rfl) HA.out ?_
          clear b0 b1 b2 b3 b4 b5 b6
          have b0 : wC.cell? ⟨g, 2, none⟩ = some (.slice A l.length cp) := blk_cell HS.out.x 2
          obtain ⟨b1, b2, b3, b4, b5, b6⟩ := tb_cells' HGC.out
          have f2 : wC.frozen? ⟨g, 2, none⟩ = false := blk_frozen HS.out.x 2
          refine hK.out _ _ (.inr ⟨b0, b1, b2, b3, b4, b5, b6⟩) ?_
          clear hK K
          try simp only [Act.put, List.setIfInBounds_toArray, List.set_cons_zero, List.set_cons_succ]
          refine wpAnyG_one (i := 8) (by kernel_rfl) rfl (fun K hK => ?_)
          go_simp
          refine hK.out _ _ (.inr ⟨b0, b1, b2, b3, b4, b5, b6⟩) ?_
          clear hK K
          try simp only [Act.put, List.setIfInBounds_toArray, List.set_cons_zero, List.set_cons_succ]
          refine wpAnyG_one (i := 9) (by kernel_rfl) rfl (fun K hK => ?_)
          go_simp
          refine hK.out _ _ (.inr ⟨b0, b1, b2, b3, b4, b5, b6⟩) ?_
          clear hK K
          try simp only [Act.put, List.setIfInBounds_toArray, List.set_cons_zero, List.set_cons_succ]
          refine wpAnyG_one (i := 10) (by kernel_rfl) rfl (fun K hK => ?_)
          go_simp
          refine hK.out _ _ (.inl rfl) ?_
          clear hK K
          try simp only [Act.put, List.setIfInBounds_toArray, List.set_cons_zero, List.set_cons_succ]
          refine wpAnyG_done (by kernel_rfl) ?_ _
          have hx3 := blk_put HS.out.x 2 (.slice A2 m c2) rfl
          have p1 : (wC.setCell ⟨g, 2, none⟩ (.slice A2 m c2)).cell? ⟨g, 1, none⟩ = some (.int .i64 (i : Int)) := blk_cell hx3 1
          have f1 : (wC.setCell ⟨g, 2, none⟩ (.slice A2 m c2)).frozen? ⟨g, 1, none⟩ = false := blk_frozen hx3 1
          have p2 : (wC.setCell ⟨g, 2, none⟩ (.slice A2 m c2)).cell? ⟨gb, 2, none⟩ = some (.int .i64 (a1 : Int)) := blk_cell (blk_far HGC.out (p := ⟨g, 2, none⟩) HN.out _) 2
          clear b0 b1 b2 b3 b4 b5 b6 f2 hx3
          go_wp2
          go_ret
          obtain rfl := HM.out
          have hx4 := blk_put (blk_put HS.out.x 2 (.slice A2 (l ++ [(⟨5, (i : Int), (a1 : Int), x, v, false⟩ : Tok)]).length c2) rfl) 1 (.int .i64 (a1 : Int)) rfl
          rw [← HRR.out]
          exact ⟨rfl, Below.setCell (Below.setCell HS.out.b (p := ⟨g, 2, none⟩) HS.out.g0 _) (p := ⟨g, 1, none⟩) HS.out.g0 _, HS.out.g0, A2, c2, hx4, R_setg (R_setg HS.out.r 2 _) 1 _⟩
end Go.Proofs.YtbmnifnahbehbaaGreatDoor

/- The document's one: the piece that stands for one byte. -/
set_option linter.unusedVariables false
set_option linter.unusedSimpArgs false
namespace Go.Proofs.YtbmnifnahbehbaaGreatDoor
open Go.RowKit Go.Lib Go.Proofs.YtbmnifnahbehbaaGreatDoorW.PrintWords Go.Proofs.YtbmnifnahbehbaaGreatDoorW.PrintMore Go.Proofs.YtbmnifnahbehbaaGreatDoorW.PrintLast
open AvP
abbrev zI : Obj := .cells #[.int .u64 0, .string ⟨#[]⟩, .int .i64 0] 160
/-- The document's piece: value, bytes, next. -/
def aggI (v : Int) (b : ByteArray) (n : Int) : Value := .agg #[.int .u64 v, .string b, .int .i64 n]
set_option maxHeartbeats 8000000 in
set_option maxRecDepth 100000 in
theorem one_c (v : Int) (n : Int) (w : World) (h0 : 0 ≤ v) (h1 : v < 256) :
    Calls Tryz.prog 82 #[.int .i64 v, .int .i64 n] w fun e w' => e = .returned (.tuple #[aggI v (oneB v) n, .bool true]) ∧ Below w.heap.size w w' := by
  have w8 : IntKind.u8.wrap v = v := by rw [IntKind.wrap_u8]; omega
  have wu : IntKind.u64.wrap v = v := by rw [IntKind.wrap_u64]; omega
  have hone := run_one (w.alloc zI) v h0 h1
  have hsz : (w.alloc zI).heap.size = w.heap.size + 1 := Array.size_push ..
  rw [hsz] at hone
  have HB := Lib.hid (blk_alloc (blk_new w zI) (.cells #[.int .u8 v] 5))
  have z0 : ((w.alloc zI).alloc (.cells #[.int .u8 v] 5)).frozen? ⟨w.heap.size, 0, none⟩ = false := blk_frozen HB.out 0
  have z1 : ((w.alloc zI).alloc (.cells #[.int .u8 v] 5)).frozen? ⟨w.heap.size, 1, none⟩ = false := blk_frozen HB.out 1
  have z2 : ((w.alloc zI).alloc (.cells #[.int .u8 v] 5)).frozen? ⟨w.heap.size, 2, none⟩ = false := blk_frozen HB.out 2
  have b0 : ((w.alloc zI).alloc (.cells #[.int .u8 v] 5)).cell? ⟨w.heap.size, 0, none⟩ = some (.int .u64 0) := blk_cell HB.out 0
  have b1 : ((w.alloc zI).alloc (.cells #[.int .u8 v] 5)).cell? ⟨w.heap.size, 1, none⟩ = some (.string ⟨#[]⟩) := blk_cell HB.out 1
  have b2 : ((w.alloc zI).alloc (.cells #[.int .u8 v] 5)).cell? ⟨w.heap.size, 2, none⟩ = some (.int .i64 0) := blk_cell HB.out 2
  have hsz2 : w.heap.size ≤ (w.alloc (.cells #[.int .u64 v, .string (oneB v), .int .i64 n] 160)).heap.size := Nat.le_trans (Nat.le_succ _) (Nat.le_of_eq (Array.size_push ..).symm)
  have HA := Lib.hid ((((Below.refl w.heap.size w).alloc (Nat.le_refl _) (.cells #[.int .u64 v, .string (oneB v), .int .i64 n] 160))).alloc hsz2 (.cells #[.int .u8 v] 5))
  clear hsz2
  clear h0 h1 hsz
  go_enter Tryz.func82, Tryz.ntmps82
  go_wp2
  refine bodyPost_ret (results_ct rfl _ _ w.heap.size 160 #[.int .u64 v, .string (oneB v), .int .i64 n] (0, 0) _ rfl (blk_alloc (blk_new w _) _) Tryz.underlying160 rfl (by kernel_rfl)) rfl ?_
  exact ⟨rfl, HA.out⟩
end Go.Proofs.YtbmnifnahbehbaaGreatDoor

/- Two hex digits as valS reads them, and as the document's hex does. -/
set_option linter.unusedVariables false
set_option linter.unusedSimpArgs false
namespace Go.Proofs.YtbmnifnahbehbaaGreatDoor
open Go.RowKit Go.Lib Go.Proofs.YtbmnifnahbehbaaGreatDoorW.PrintWords Go.Proofs.YtbmnifnahbehbaaGreatDoorW.PrintMore Go.Proofs.YtbmnifnahbehbaaGreatDoorW.PrintLast
open AvP
theorem hxI_n : ∀ m : Nat, m < 256 → (0 ≤ hxI m → hexV (UInt8.ofNat m) < 16 ∧ (hexV (UInt8.ofNat m) : Int) = hxI m ∧ dI m = hxI m) ∧ (hxI m < 0 → 16 ≤ hexV (UInt8.ofNat m)) := by decide +kernel
theorem val2_ok (x y : UInt8) (hx : 0 ≤ hxI x.toNat) (hy : 0 ≤ hxI y.toNat) : valS [x, y] 16 = (16 * hxI x.toNat + hxI y.toNat, 0) := by
  have ex : UInt8.ofNat x.toNat = x := by simp
  have ey : UInt8.ofNat y.toNat = y := by simp
  have h1 := (hxI_n x.toNat x.toNat_lt).1 hx
  have h2 := (hxI_n y.toNat y.toNat_lt).1 hy
  rw [ex] at h1
  rw [ey] at h2
  obtain ⟨a1, a2, a3⟩ := h1
  obtain ⟨b1, b2, b3⟩ := h2
  have d1 : dok 16 x = true := by unfold dok; rw [Bool.and_eq_true, decide_eq_true_iff, decide_eq_true_iff]; omega
  have d2 : dok 16 y = true := by unfold dok; rw [Bool.and_eq_true, decide_eq_true_iff, decide_eq_true_iff]; omega
  have hm : mag 16 0 [x, y] = .ok ((0 * 16 + hexV x) * 16 + hexV y) := by
    rw [mag, if_neg (by omega), if_neg (by omega), mag, if_neg (by omega), if_neg (by omega), mag]
  unfold valS
  rw [if_neg (by simp), if_pos (by rw [List.all_cons, List.all_cons, d1, d2]; rfl), hm]
  dsimp only
  rw [Prod.mk.injEq]
  exact ⟨by omega, rfl⟩
theorem val2_no (x y : UInt8) (h : hxI x.toNat < 0 ∨ hxI y.toNat < 0) : (valS [x, y] 16).2 ≠ 0 := by
  have ex : UInt8.ofNat x.toNat = x := by simp
  have ey : UInt8.ofNat y.toNat = y := by simp
  have h1 := (hxI_n x.toNat x.toNat_lt).2
  have h2 := (hxI_n y.toNat y.toNat_lt).2
  rw [ex] at h1
  rw [ey] at h2
  have hm : ∃ z, mag 16 0 [x, y] = .error z := by
    rw [mag]
    split
    · exact ⟨_, rfl⟩
    · split
      · exact ⟨_, rfl⟩
      · rw [mag, if_pos (by rcases h with h | h; have := h1 h; omega; have := h2 h; omega)]
        exact ⟨_, rfl⟩
  obtain ⟨z, hm⟩ := hm
  unfold valS
  rw [if_neg (by simp)]
  split
  · rw [hm]; dsimp only; decide
  · dsimp only; decide
end Go.Proofs.YtbmnifnahbehbaaGreatDoor

/- The document's escape. -/
set_option linter.unusedVariables false
set_option linter.unusedSimpArgs false
namespace Go.Proofs.YtbmnifnahbehbaaGreatDoor
open Go.RowKit Go.Lib Go.Proofs.YtbmnifnahbehbaaGreatDoorW.PrintWords Go.Proofs.YtbmnifnahbehbaaGreatDoorW.PrintMore Go.Proofs.YtbmnifnahbehbaaGreatDoorW.PrintLast
open AvP
/-- What a backslash at i begins. -/
def escS (s : ByteArray) (i : Nat) : Option (ByteArray × Int × Nat) :=
  if s.size ≤ i + 1 then none
  else match esc (by_ s (i + 1)) with
    | some b => some (oneB b, (b : Int), i + 2)
    | none => if by_ s (i + 1) ≠ 120 ∨ s.size < i + 4 then none
      else if (valS (s.extract (i + 2) (i + 4)).data.toList 16).2 = 0 then some (oneB (valS (s.extract (i + 2) (i + 4)).data.toList 16).1, (valS (s.extract (i + 2) (i + 4)).data.toList 16).1, i + 4) else none
def EscD (w : World) (r : Option (ByteArray × Int × Nat)) (e : Ending) (w' : World) : Prop :=
  (match r with
  | some (b, v, n) => e = .returned (.tuple #[aggI v b n, .bool true])
  | none => ∃ v b n, e = .returned (.tuple #[aggI v b n, .bool false])) ∧ Below w.heap.size w w'
theorem one_r (v : Int) (n : Int) (w : World) (h0 : 0 ≤ v) (h1 : v < 256) :
    Calls Tryz.prog 82 #[.int .i64 v, .int .i64 n] w fun e w' => e = .returned (.tuple #[.agg #[.int .u64 v, .string (oneB v), .int .i64 n], .bool true]) ∧ Below w.heap.size w w' := one_c v n w h0 h1
theorem esc_some : ∀ c : Nat, c < 256 → (∃ b, esc c = some b ∧ (c = 110 ∧ b = 10 ∨ c = 116 ∧ b = 9 ∨ c = 114 ∧ b = 13 ∨ c = 48 ∧ b = 0 ∨ c = 92 ∧ b = 92 ∨ c = 39 ∧ b = 39 ∨ c = 34 ∧ b = 34)) ∨ esc c = none ∧ c ≠ 110 ∧ c ≠ 116 ∧ c ≠ 114 ∧ c ≠ 48 ∧ c ≠ 92 ∧ c ≠ 39 ∧ c ≠ 34 := by
  intro c hc
  unfold esc
  by_cases h1 : c = 110
  · subst h1; exact .inl ⟨10, rfl, by omega⟩
  by_cases h2 : c = 116
  · subst h2; exact .inl ⟨9, rfl, by omega⟩
  by_cases h3 : c = 114
  · subst h3; exact .inl ⟨13, rfl, by omega⟩
  by_cases h4 : c = 48
  · subst h4; exact .inl ⟨0, rfl, by omega⟩
  by_cases h5 : c = 92
  · subst h5; exact .inl ⟨92, rfl, by omega⟩
  by_cases h6 : c = 39
  · subst h6; exact .inl ⟨39, rfl, by omega⟩
  by_cases h7 : c = 34
  · subst h7; exact .inl ⟨34, rfl, by omega⟩
  · exact .inr ⟨by rw [if_neg h1, if_neg h2, if_neg h3, if_neg h4, if_neg h5, if_neg h6, if_neg h7], h1, h2, h3, h4, h5, h6, h7⟩
set_option maxHeartbeats 8000000 in
set_option maxRecDepth 100000 in
theorem escapeA_c {w : World} {i : Nat} {s : ByteArray} (hs : s.size ≤ 100000) (h : s.size ≤ i + 1) (hi : i < s.size) :
    Calls Tryz.prog 75 #[.string s, .int .i64 (i : Int)] w (EscD w none) := by
  have w1 : IntKind.i64.wrap ((i : Int) + 1) = (i : Int) + 1 := by rw [IntKind.wrap_i64]; omega
  have hle : (s.size : Int) ≤ (i : Int) + 1 := by omega
  have hd : decide ((s.size : Int) ≤ (i : Int) + 1) = true := decide_eq_true hle
  clear hs h
  go_enter Tryz.func75, Tryz.ntmps75
  go_wp2
  refine bodyPost_ret (results_ct rfl _ _ w.heap.size 160 #[.int .u64 0, .string ⟨#[]⟩, .int .i64 0] (0, 0) _ rfl (blk_new w _) Tryz.underlying160 rfl (by kernel_rfl)) rfl ?_
  exact ⟨⟨_, _, _, rfl⟩, (Below.refl _ w).alloc (Nat.le_refl _) _⟩
set_option maxHeartbeats 8000000 in
set_option maxRecDepth 100000 in
theorem escapeB_c {w : World} {i c b : Nat} {s : ByteArray} (hs : s.size ≤ 100000) (h1 : i + 1 < s.size) (hc : (s[i + 1]'h1).toNat = c)
    (hb : c = 110 ∧ b = 10 ∨ c = 116 ∧ b = 9 ∨ c = 114 ∧ b = 13 ∨ c = 48 ∧ b = 0 ∨ c = 92 ∧ b = 92 ∨ c = 39 ∧ b = 39 ∨ c = 34 ∧ b = 34) :
    Calls Tryz.prog 75 #[.string s, .int .i64 (i : Int)] w (EscD w (some (oneB b, (b : Int), i + 2))) := by
  obtain ⟨i1, hi1⟩ : ∃ x, i + 1 = x := ⟨_, rfl⟩
  obtain ⟨i2, hi2⟩ : ∃ x, i + 2 = x := ⟨_, rfl⟩
  have w1 : IntKind.i64.wrap ((i : Int) + 1) = (i1 : Int) := by rw [IntKind.wrap_i64]; omega
  have w2 : IntKind.i64.wrap ((i : Int) + 2) = (i2 : Int) := by rw [IntKind.wrap_i64]; omega
  rw [hi2]
  subst hi1
  obtain ⟨i1, hi1⟩ : ∃ x, x = i + 1 := ⟨_, rfl⟩
  have hc' : ((s[i + 1]'h1).toNat : Int) = (c : Int) := by rw [hc]
  clear hc
  revert w1 hc' h1
  rw [← hi1]
  intro h1 hc' w1
  have hlt : ¬ (s.size : Int) ≤ (i1 : Int) := by omega
  have hd : decide ((s.size : Int) ≤ (i1 : Int)) = false := decide_eq_false hlt
  have HO := fun W => Lib.hid (one_r (b : Int) (i2 : Int) W (by omega) (by omega))
  clear hi1 hi2 hs hlt
  rcases hb with ⟨rfl, rfl⟩ | ⟨rfl, rfl⟩ | ⟨rfl, rfl⟩ | ⟨rfl, rfl⟩ | ⟨rfl, rfl⟩ | ⟨rfl, rfl⟩ | ⟨rfl, rfl⟩
  all_goals
    go_enter Tryz.func75, Tryz.ntmps75
    go_wp2_with (first | (go_at_call 82; refine (HO _).out.mono ?_; rintro e w' ⟨rfl, hb'⟩; have ha := blk_below (blk_new w zI) hb'; have HS := Lib.hid (And.intro ha (((Below.refl _ w).alloc (Nat.le_refl _) zI).trans (hb'.mono ((Below.refl _ w).alloc (Nat.le_refl _) zI).size))); have b0 := blk_cell ha 0; have b1 := blk_cell ha 1; have b2 := blk_cell ha 2; have z0 := blk_frozen ha 0; have z1 := blk_frozen ha 1; have z2 := blk_frozen ha 2; clear hb' ha))
    first
      | (refine bodyPost_ret (results_ct rfl _ _ w.heap.size 160 #[.int .u64 10, .string (oneB 10), .int .i64 i2] (0, 0) _ rfl (blk_put (blk_put (blk_put HS.out.1 0 _ rfl) 1 _ rfl) 2 _ rfl) Tryz.underlying160 rfl (by kernel_rfl)) rfl ?_; exact ⟨rfl, Below.setCell (Below.setCell (Below.setCell HS.out.2 (p := ⟨w.heap.size, 0, none⟩) (Nat.le_refl _) _) (p := ⟨w.heap.size, 1, none⟩) (Nat.le_refl _) _) (p := ⟨w.heap.size, 2, none⟩) (Nat.le_refl _) _⟩)
      | (refine bodyPost_ret (results_ct rfl _ _ w.heap.size 160 #[.int .u64 9, .string (oneB 9), .int .i64 i2] (0, 0) _ rfl (blk_put (blk_put (blk_put HS.out.1 0 _ rfl) 1 _ rfl) 2 _ rfl) Tryz.underlying160 rfl (by kernel_rfl)) rfl ?_; exact ⟨rfl, Below.setCell (Below.setCell (Below.setCell HS.out.2 (p := ⟨w.heap.size, 0, none⟩) (Nat.le_refl _) _) (p := ⟨w.heap.size, 1, none⟩) (Nat.le_refl _) _) (p := ⟨w.heap.size, 2, none⟩) (Nat.le_refl _) _⟩)
      | (refine bodyPost_ret (results_ct rfl _ _ w.heap.size 160 #[.int .u64 13, .string (oneB 13), .int .i64 i2] (0, 0) _ rfl (blk_put (blk_put (blk_put HS.out.1 0 _ rfl) 1 _ rfl) 2 _ rfl) Tryz.underlying160 rfl (by kernel_rfl)) rfl ?_; exact ⟨rfl, Below.setCell (Below.setCell (Below.setCell HS.out.2 (p := ⟨w.heap.size, 0, none⟩) (Nat.le_refl _) _) (p := ⟨w.heap.size, 1, none⟩) (Nat.le_refl _) _) (p := ⟨w.heap.size, 2, none⟩) (Nat.le_refl _) _⟩)
      | (refine bodyPost_ret (results_ct rfl _ _ w.heap.size 160 #[.int .u64 0, .string (oneB 0), .int .i64 i2] (0, 0) _ rfl (blk_put (blk_put (blk_put HS.out.1 0 _ rfl) 1 _ rfl) 2 _ rfl) Tryz.underlying160 rfl (by kernel_rfl)) rfl ?_; exact ⟨rfl, Below.setCell (Below.setCell (Below.setCell HS.out.2 (p := ⟨w.heap.size, 0, none⟩) (Nat.le_refl _) _) (p := ⟨w.heap.size, 1, none⟩) (Nat.le_refl _) _) (p := ⟨w.heap.size, 2, none⟩) (Nat.le_refl _) _⟩)
      | (refine bodyPost_ret (results_ct rfl _ _ w.heap.size 160 #[.int .u64 92, .string (oneB 92), .int .i64 i2] (0, 0) _ rfl (blk_put (blk_put (blk_put HS.out.1 0 _ rfl) 1 _ rfl) 2 _ rfl) Tryz.underlying160 rfl (by kernel_rfl)) rfl ?_; exact ⟨rfl, Below.setCell (Below.setCell (Below.setCell HS.out.2 (p := ⟨w.heap.size, 0, none⟩) (Nat.le_refl _) _) (p := ⟨w.heap.size, 1, none⟩) (Nat.le_refl _) _) (p := ⟨w.heap.size, 2, none⟩) (Nat.le_refl _) _⟩)
      | (refine bodyPost_ret (results_ct rfl _ _ w.heap.size 160 #[.int .u64 39, .string (oneB 39), .int .i64 i2] (0, 0) _ rfl (blk_put (blk_put (blk_put HS.out.1 0 _ rfl) 1 _ rfl) 2 _ rfl) Tryz.underlying160 rfl (by kernel_rfl)) rfl ?_; exact ⟨rfl, Below.setCell (Below.setCell (Below.setCell HS.out.2 (p := ⟨w.heap.size, 0, none⟩) (Nat.le_refl _) _) (p := ⟨w.heap.size, 1, none⟩) (Nat.le_refl _) _) (p := ⟨w.heap.size, 2, none⟩) (Nat.le_refl _) _⟩)
      | (refine bodyPost_ret (results_ct rfl _ _ w.heap.size 160 #[.int .u64 34, .string (oneB 34), .int .i64 i2] (0, 0) _ rfl (blk_put (blk_put (blk_put HS.out.1 0 _ rfl) 1 _ rfl) 2 _ rfl) Tryz.underlying160 rfl (by kernel_rfl)) rfl ?_; exact ⟨rfl, Below.setCell (Below.setCell (Below.setCell HS.out.2 (p := ⟨w.heap.size, 0, none⟩) (Nat.le_refl _) _) (p := ⟨w.heap.size, 1, none⟩) (Nat.le_refl _) _) (p := ⟨w.heap.size, 2, none⟩) (Nat.le_refl _) _⟩)
set_option maxHeartbeats 8000000 in
set_option maxRecDepth 100000 in
theorem escapeC_c {w : World} {i c : Nat} {s : ByteArray} (hs : s.size ≤ 100000) (h1 : i + 1 < s.size) (hc : (s[i + 1]'h1).toNat = c)
    (hn : c ≠ 110 ∧ c ≠ 116 ∧ c ≠ 114 ∧ c ≠ 48 ∧ c ≠ 92 ∧ c ≠ 39 ∧ c ≠ 34) (hx : c ≠ 120 ∨ c = 120 ∧ s.size < i + 4) :
    Calls Tryz.prog 75 #[.string s, .int .i64 (i : Int)] w (EscD w none) := by
  obtain ⟨i1, hi1⟩ : ∃ x, x = i + 1 := ⟨_, rfl⟩
  have w1 : IntKind.i64.wrap ((i : Int) + 1) = (i1 : Int) := by rw [IntKind.wrap_i64]; omega
  obtain ⟨i3, hi3⟩ : ∃ x, x = i + 3 := ⟨_, rfl⟩
  have w3 : IntKind.i64.wrap ((i : Int) + 3) = (i3 : Int) := by rw [IntKind.wrap_i64]; omega
  have hc' : ((s[i + 1]'h1).toNat : Int) = (c : Int) := by rw [hc]
  clear hc
  revert w1 hc' h1
  rw [← hi1]
  intro h1 hc' w1
  have hlt : ¬ (s.size : Int) ≤ (i1 : Int) := by omega
  have hd : decide ((s.size : Int) ≤ (i1 : Int)) = false := decide_eq_false hlt
  have e1 : ((c : Int) == 110) = false := by rw [beq_eq_false_iff_ne]; omega
  have e2 : ((c : Int) == 116) = false := by rw [beq_eq_false_iff_ne]; omega
  have e3 : ((c : Int) == 114) = false := by rw [beq_eq_false_iff_ne]; omega
  have e4 : ((c : Int) == 48) = false := by rw [beq_eq_false_iff_ne]; omega
  have e5 : ((c : Int) == 92) = false := by rw [beq_eq_false_iff_ne]; omega
  have e6 : ((c : Int) == 39) = false := by rw [beq_eq_false_iff_ne]; omega
  have e7 : ((c : Int) == 34) = false := by rw [beq_eq_false_iff_ne]; omega
  rcases hx with hx | ⟨rfl, hx⟩
  · have e8 : ((c : Int) == 120) = false := by rw [beq_eq_false_iff_ne]; omega
    clear hi1 hi3 hs hlt hn hx w3
    go_enter Tryz.func75, Tryz.ntmps75
    go_wp2
    refine bodyPost_ret (results_ct rfl _ _ w.heap.size 160 #[.int .u64 0, .string ⟨#[]⟩, .int .i64 0] (0, 0) _ rfl (blk_new w _) Tryz.underlying160 rfl (by kernel_rfl)) rfl ?_
    exact ⟨⟨_, _, _, rfl⟩, (Below.refl _ w).alloc (Nat.le_refl _) _⟩
  · have hge : ¬ (i3 : Int) < (s.size : Int) := by omega
    have hg2 : ¬ i3 < s.size := by omega
    have hd3 : decide ((i3 : Int) < (s.size : Int)) = false := decide_eq_false hge
    clear hi1 hi3 hs hlt hn hx e1 e2 e3 e4 e5 e6 e7
    go_enter Tryz.func75, Tryz.ntmps75
    go_wp2
    refine bodyPost_ret (results_ct rfl _ _ w.heap.size 160 #[.int .u64 0, .string ⟨#[]⟩, .int .i64 0] (0, 0) _ rfl (blk_new w _) Tryz.underlying160 rfl (by kernel_rfl)) rfl ?_
    exact ⟨⟨_, _, _, rfl⟩, (Below.refl _ w).alloc (Nat.le_refl _) _⟩
end Go.Proofs.YtbmnifnahbehbaaGreatDoor
