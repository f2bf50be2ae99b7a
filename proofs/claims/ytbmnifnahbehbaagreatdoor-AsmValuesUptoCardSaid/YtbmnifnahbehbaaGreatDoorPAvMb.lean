/- asm.cutter.number. -/
import Derived.Test.YtbmnifnahbehbaaGreatDoorPGr2
set_option linter.unusedVariables false
set_option linter.unusedSimpArgs false
namespace Go.Proofs.YtbmnifnahbehbaaGreatDoor
open Go.RowKit Go.Lib Go.Proofs.YtbmnifnahbehbaaGreatDoorW.PrintWords Go.Proofs.YtbmnifnahbehbaaGreatDoorW.PrintMore Go.Proofs.YtbmnifnahbehbaaGreatDoorW.PrintLast
open AvP
/-- What a part of cut answers. -/
def PartEnd (w : World) (g : Nat) (s : ByteArray) (l : List Tok) (r : Except (Int × Int) Tok) (E : Ending) (w' : World) : Prop :=
  match r with
  | .ok t => E = .returned (.pointer none) ∧ CSt w g s t.e.toNat (l ++ [t]) w'
  | .error (a, y) => ∃ v, E = .returned v ∧ FaultIs w' g v a y ∧ Below w.heap.size w w'
theorem data_ext (s : ByteArray) (i j : Nat) (h : i ≤ j) (hj : j ≤ s.size) : (s.extract i j).data.toList = (s.data.toList.drop i).take (j - i) := by
  rw [ByteArray.data_extract, Array.toList_extract]
theorem all_ext {p : UInt8 → Bool} (t : ByteArray) (i j : Nat) (h : t.data.toList.all p = true) : (t.extract i j).data.toList.all p = true := by
  rw [List.all_eq_true] at h ⊢
  intro c hc
  refine h c ?_
  rw [ByteArray.data_extract, Array.toList_extract] at hc
  exact List.mem_of_mem_drop (List.mem_of_mem_take hc)
/-- The scan over a word. -/
theorem wl_step (s : ByteArray) (j : Nat) (hj : j < s.size) : wl (s.data.toList.drop j) = if wordN (by_ s j) = true then wl (s.data.toList.drop (j + 1)) + 1 else 0 := by
  have hl : j < s.data.toList.length := by rw [← Lib.size_eq]; exact hj
  have hd : s.data.toList.drop j = s.data.toList[j] :: s.data.toList.drop (j + 1) := List.drop_eq_getElem_cons hl
  have hb : wordN (by_ s j) = wordB (s.data.toList[j]) := by
    rw [wordB_N]
    unfold by_
    rw [List.getD_eq_getElem?_getD, List.getElem?_eq_getElem hl]
    rfl
  rw [hd, hb]
  cases h : wordB (s.data.toList[j]) with
  | true => rw [if_pos rfl, wl_cons_t _ _ h]
  | false => rw [if_neg (by decide), wl_cons_f _ _ h]
theorem wl_end (s : ByteArray) (j : Nat) (hj : s.size ≤ j) : wl (s.data.toList.drop j) = 0 := by
  rw [List.drop_of_length_le (by rw [← Lib.size_eq]; exact hj)]
  rfl
set_option maxHeartbeats 8000000 in
set_option maxRecDepth 100000 in
theorem number_c {w W : World} {g i : Nat} {s : ByteArray} {l : List Tok} (h : CSt w g s i l W) (hG : Glob w) (hi : i < s.size) (hs : s.size ≤ 100000) (hl : l.length ≤ 99999) (hd : wordN (by_ s i) = true) :
    Calls Tryz.prog 18 #[.pointer (some ⟨g, 0, none⟩)] W (PartEnd w g s l (numS s i)) := by
  obtain ⟨R, hR⟩ : ∃ R, numS s i = R := ⟨_, rfl⟩
  rw [hR]
  have HR := Lib.hid hR
  have H := Lib.hid h
  have HH := Lib.hid (And.intro hG (And.intro hi (And.intro hs (And.intro hl hd))))
  obtain ⟨N, hN⟩ : ∃ N, wl (s.data.toList.drop i) = N := ⟨_, rfl⟩
  have hN1 : 1 ≤ N := by rw [← hN, wl_step s i hi, if_pos hd]; omega
  have HN := Lib.hid (And.intro hN hN1)
  clear hR h hG hl hd hN hN1
  go_enter Tryz.func18, Tryz.ntmps18
  go_wp2
  go_loopg [3] s.size (fun gm v3 wx => ∃ n : Nat, .int .i64 (n : Int) = v3 ∧ i + n ≤ s.size ∧ Hid (gm + n = s.size) ∧ Hid (CSt w g s i l wx) ∧ Hid (N = n + wl (s.data.toList.drop (i + n))))
  case atStart => exact ⟨0, rfl, by omega, Lib.hid rfl, H, Lib.hid (by rw [Nat.add_zero, HN.out.1]; omega)⟩
  case round =>
    obtain ⟨n, rfl, hn, HI, HX, HW⟩ := hrel
    have c0 := HX.out.c0
    have c1 := HX.out.c1
    obtain ⟨j, hj⟩ : ∃ j, i + n = j := ⟨_, rfl⟩
    have w1 : IntKind.i64.wrap ((i : Int) + (n : Int)) = (j : Int) := by rw [IntKind.wrap_i64]; omega
    have hW := HW.out
    rw [hj] at hW
    have HJ := Lib.hid hj
    by_cases hjs : j < s.size
    · rw [wl_step s j hjs] at hW
      have hbt := by_at s j hjs
      obtain ⟨c, hc⟩ : ∃ c, by_ s j = c := ⟨_, rfl⟩
      rw [hc] at hbt hW
      have hbz : ((s[j]'hjs).toNat : Int) = (c : Int) := by rw [hbt]
      have hcB := fun w' => wb_c c w'
      have q1 : (j : Int) < (s.size : Int) := by omega
      cases hwd : wordN c with
      | true =>
        rw [hwd, if_pos rfl] at hW
        rw [hwd] at hcB
        have HCB := Lib.hid hcB
        have HW2 := Lib.hid hW
        have e1 : IntKind.i64.wrap ((n : Int) + 1) = (n : Int) + 1 := by rw [IntKind.wrap_i64]; omega
        obtain ⟨gm, rfl⟩ : ∃ q, gk = q + 1 := ⟨gk - 1, by have := HI.out; omega⟩
        have hq : CSt w g s i l wr.drew := HX.out.below (below_drew (Below.refl _ _))
        have HQ := Lib.hid hq
        clear hW hbt hc hwd hcB hq hj HX HW
        go_wp2
        go_region_held2 (fun w' => w'.cell? ⟨g, 0, none⟩ = some (.string s) ∧ w'.cell? ⟨g, 1, none⟩ = some (.int .i64 (i : Int))) (first | exact ⟨c0, c1⟩ | exact ⟨HQ.out.c0, HQ.out.c1⟩ | go_keep) (first | (go_at_call 36; refine (HCB.out _).mono ?_; rintro E w2 ⟨rfl, rfl⟩))
        go_wp2
        go_roundg gm
        case measure => omega
        case rel => exact ⟨n + 1, by go_num, by have := HJ.out; omega, Lib.hid (by have := HI.out; omega), HQ, Lib.hid (by have := HW2.out; have := HJ.out; rw [show i + (n + 1) = j + 1 by omega]; omega)⟩
      | false =>
        rw [hwd, if_neg (by decide)] at hW
        rw [hwd] at hcB
        have HCB := Lib.hid hcB
        have hq : CSt w g s i l wr.drew := HX.out.below (below_drew (Below.refl _ _))
        have HQ := Lib.hid hq
        clear hbt hc hwd hcB hq hj
        go_wp2
        go_region_held2 (fun w' => w'.cell? ⟨g, 0, none⟩ = some (.string s) ∧ w'.cell? ⟨g, 1, none⟩ = some (.int .i64 (i : Int))) (first | exact ⟨c0, c1⟩ | exact ⟨HQ.out.c0, HQ.out.c1⟩ | go_keep) (first | (go_at_call 36; refine (HCB.out _).mono ?_; rintro E w2 ⟨rfl, rfl⟩))
        obtain ⟨wq, hwq⟩ : ∃ q, wr.drew = q := ⟨_, rfl⟩
        rw [hwq] at HQ ⊢
        clear hwq
        -- the loop is left: the world wq
        obtain rfl : n = N := by omega
        have HX2 := HQ
        clear HX HW HJ hW w1 c0 c1
        obtain ⟨T, hT⟩ : ∃ T, s.extract i (i + n) = T := ⟨_, rfl⟩
        have hjle : i + n ≤ s.size := hn
        obtain ⟨e, he⟩ : ∃ e, i + n = e := ⟨_, rfl⟩
        have hTs : T.size = n := by rw [← hT, ByteArray.size_extract]; omega
        have hTw : T.data.toList.all wordB = true := by
          rw [← hT, data_ext s i (i + n) (by omega) hjle, show i + n - i = n by omega, ← HN.out.1]
          exact wl_all _
        have w1 : IntKind.i64.wrap ((i : Int) + (n : Int)) = (e : Int) := by rw [IntKind.wrap_i64]; omega
        have k1 : i ≤ e := by omega
        have k2 : e ≤ s.size := by omega
        have hT2 : s.extract i e = T := by rw [← he]; exact hT
        have HT := Lib.hid (And.intro hTs (And.intro hTw (And.intro hT he)))
        have hn1 := HN.out.2
        have c0 := HX2.out.c0
        have c1 := HX2.out.c1
        have HQ3 := Lib.hid (HX2.out.below (below_drew (Below.refl _ _)))
        have hpu := fun (W' : World) (hc : CSt w g s i l W') => push_c (k := 1) (n := n) hc (by omega) hs (by have := HH.out.2.2.2.1; omega)
        rw [hT, he] at hpu
        have HPU := Lib.hid hpu
        clear hTs hTw hT he hjle hpu
        go_wp2
        go_region_held2 (fun w' => w'.cell? ⟨g, 0, none⟩ = some (.string s) ∧ w'.cell? ⟨g, 1, none⟩ = some (.int .i64 (i : Int))) (first | exact ⟨c0, c1⟩ | go_keep) (fail)
        clear c0 c1
        have c0 := HQ3.out.c0
        have c1 := HQ3.out.c1
        go_upto_region 7 with (first | (go_at_call 21; refine (HPU.out _ HQ3.out).mono ?_; rintro E w3 ⟨rfl, hc⟩; have HC := Lib.hid hc; clear hc))
        clear c0 c1
        obtain ⟨b, cp, hL⟩ := LST.of HC.out
        obtain ⟨m, hm⟩ : ∃ m, l.length = m := ⟨_, rfl⟩
        have hx2 := hL.x2
        rw [hm] at hx2
        have wm : IntKind.i64.wrap (((m + 1 : Nat) : Int) - 1) = (m : Int) := by rw [IntKind.wrap_i64]; have := HH.out.2.2.2.1; omega
        obtain ⟨m1, hm1⟩ : ∃ m1, m + 1 = m1 := ⟨_, rfl⟩
        rw [hm1] at hx2 wm
        have r1 : (0 : Int) ≤ (m : Int) := by omega
        have r2 : (m : Int) < (m1 : Int) := by omega
        have HL := Lib.hid (hL.below (below_drew (Below.refl _ _)))
        have HM := Lib.hid (And.intro hm hm1)
        clear hL hm hm1 HC
        go_wp2
        go_region_held2 (fun w' => w'.cell? ⟨g, 2, none⟩ = some (.slice (some ⟨b, 0, none⟩) m1 cp)) (first | exact hx2 | go_keep) (fail)
        clear hx2 wm r1 r2
        obtain ⟨w4, hw4⟩ : ∃ q, w3.drew = q := ⟨_, rfl⟩
        rw [hw4] at HL ⊢
        clear hw4
        have hTb : T.size ≤ 1000000 := by have := HT.out.1; omega
        have hp0 := fun w' => hp_c T ⟨#[48, 120]⟩ w' hTb (by decide)
        have hp1 := fun w' => hp_c T ⟨#[48, 98]⟩ w' hTb (by decide)
        have hs0 := fun w' => hs_c T ⟨#[98]⟩ w' hTb (by decide)
        have hs1 := fun w' => hs_c T ⟨#[102]⟩ w' hTb (by decide)
        have hns : numS s i = R := HR.out
        unfold numS at hns
        rw [HN.out.1] at hns
        dsimp only at hns
        rw [HT.out.2.2.2, hT2] at hns
        have l0 := HL.out.cell 0 _ rfl
        have l4 := HL.out.cell 4 _ rfl
        have l5 := HL.out.cell 5 _ rfl
        have z0 := HL.out.frz (l.length * 6)
        have z4 := HL.out.frz (l.length * 6 + 4)
        have z5 := HL.out.frz (l.length * 6 + 5)
        rw [HM.out.1] at l0 l4 l5 z0 z4 z5
        have l0' : w4.cell? ⟨b, m * 6, none⟩ = some (.int .i64 1) := l0
        clear l0
        have hw4' : Below w.heap.size w w4 := HL.out.c.b
        have hgg := HL.out.c.g0
        have hGG := Glob.step HH.out.1 hw4'
        have hT2' : (2 : Int) < (T.size : Int) ∨ ¬ (2 : Int) < (T.size : Int) := by omega
        clear hT2 k1 k2 w1

        cases hb0 : hpB T ⟨#[48, 120]⟩ with
        | true =>
          rw [hb0] at hp0
          have HP0 := Lib.hid hp0
          have HP1 := Lib.hid hp1
          have HS0 := Lib.hid hs0
          have HS1 := Lib.hid hs1
          clear hp0 hp1 hs0 hs1
          have hF : numF T = (1, T.extract 2 T.size, 16, false) := by unfold numF; rw [if_pos hb0]
          rw [hF] at hns
          dsimp only at hns
          have hT2s : 2 ≤ T.size := by
            unfold hpB at hb0
            rw [Bool.and_eq_true, decide_eq_true_iff] at hb0
            exact hb0.1
          obtain ⟨D, hDe⟩ : ∃ D, T.extract 2 T.size = D := ⟨_, rfl⟩
          have hDs : D.size ≤ 281474976710656 := by rw [← hDe, ByteArray.size_extract]; omega
          have hDw : D.data.toList.all wordB = true := by rw [← hDe]; exact all_ext T 2 T.size HT.out.2.1
          rw [hDe] at hns
          have HLS := HL
          have HBW := Lib.hid hw4'
          clear hF hw4' hGG hT2' hgg
          have hval := fun (w' : World) (hb : Below w.heap.size w w') => value_c D 16 (by decide) hDs (by first | exact .inl rfl | exact .inr hDw) w' (Glob.step HH.out.1 hb).2.2.2.1 (Glob.step HH.out.1 hb).2.2.2.2
          obtain ⟨V, hV⟩ : ∃ V, (valS D.data.toList 16).1 = V := ⟨_, rfl⟩
          obtain ⟨Y, hY⟩ : ∃ Y, (valS D.data.toList 16).2 = Y := ⟨_, rfl⟩
          rw [hV, hY] at hval
          rw [hV, hY] at hns
          have HVAL := Lib.hid hval
          clear hval hV hY hDs hDw
          by_cases hY0 : Y = 0
          · subst hY0
            rw [if_neg (by decide)] at hns
            have y0 : ((0 : Int) != 0) = false := rfl
            have HNS := Lib.hid hns
            clear hns
            go_wp2_with (first
              | (go_at_call 22; refine (HP0.out _).mono ?_; rintro E w' ⟨rfl, rfl⟩)
              | (go_at_call 22; refine (HP1.out _).mono ?_; rintro E w' ⟨rfl, rfl⟩)
              | (go_at_call 37; refine (HS0.out _).mono ?_; rintro E w' ⟨rfl, rfl⟩)
              | (go_at_call 37; refine (HS1.out _).mono ?_; rintro E w' ⟨rfl, rfl⟩)
              | (go_at_call 38; refine (HVAL.out _ HBW.out).mono ?_; rintro E w5 ⟨rfl, hb5⟩; have hl5 := HLS.out.below hb5; have l4 := hl5.cell 4 _ rfl; have z4 := hl5.frz (l.length * 6 + 4); rw [HM.out.1] at l4 z4; have HL5 := Lib.hid hl5; clear hb5 hl5))
            go_ret
            rw [← HNS.out]
            have hfin := HL5.out.set 4 (.int .u64 V) ⟨1, (i : Int), (e : Int), T, V, false⟩ (by decide) rfl
            rw [HM.out.1] at hfin
            exact ⟨rfl, hfin.c⟩
          · rw [if_pos hY0] at hns
            have y0 : (Y != 0) = true := by rw [bne_iff_ne]; exact hY0
            have HNS := Lib.hid hns
            clear hns hY0
            go_wp2_with (first
              | (go_at_call 22; refine (HP0.out _).mono ?_; rintro E w' ⟨rfl, rfl⟩)
              | (go_at_call 22; refine (HP1.out _).mono ?_; rintro E w' ⟨rfl, rfl⟩)
              | (go_at_call 37; refine (HS0.out _).mono ?_; rintro E w' ⟨rfl, rfl⟩)
              | (go_at_call 37; refine (HS1.out _).mono ?_; rintro E w' ⟨rfl, rfl⟩)
              | (go_at_call 38; refine (HVAL.out _ HBW.out).mono ?_; rintro E w5 ⟨rfl, hb5⟩; have hg5 : g < w5.heap.size := Nat.lt_of_lt_of_le (World.block_lt_of_cell? _ _ HLS.out.x2) hb5.size; have HB5 := Lib.hid (HBW.out.trans (hb5.mono HBW.out.size)); clear hb5)
              | (go_at_call 8; refine (fault_c (i : Int) Y g _ hg5).mono ?_; rintro E wf ⟨v, rfl, hf, hd⟩; have HF := Lib.hid (And.intro hf hd); clear hf hd))
            go_ret
            rw [← HNS.out]
            exact ⟨_, rfl, HF.out.1, HB5.out.trans (HF.out.2.mono HB5.out.size)⟩

        | false =>
          rw [hb0] at hp0
          cases hb1 : hpB T ⟨#[48, 98]⟩ with
          | true =>
            rw [hb1] at hp1
            by_cases hlen : 2 < T.size
            · have HP0 := Lib.hid hp0
              have HP1 := Lib.hid hp1
              have HS0 := Lib.hid hs0
              have HS1 := Lib.hid hs1
              clear hp0 hp1 hs0 hs1
              have hF : numF T = (1, T.extract 2 T.size, 2, false) := by unfold numF; rw [if_neg (by rw [hb0]; decide), if_pos ⟨hb1, hlen⟩]
              rw [hF] at hns
              dsimp only at hns
              obtain ⟨D, hDe⟩ : ∃ D, T.extract 2 T.size = D := ⟨_, rfl⟩
              have hDs : D.size ≤ 281474976710656 := by rw [← hDe, ByteArray.size_extract]; omega
              have hDw : D.data.toList.all wordB = true := by rw [← hDe]; exact all_ext T 2 T.size HT.out.2.1
              rw [hDe] at hns
              have q9 : (2 : Int) < (T.size : Int) := by omega
              have q8 : 2 ≤ T.size := by omega
              have HLS := HL
              have HBW := Lib.hid hw4'
              clear hF hw4' hGG hT2' hgg
              have hval := fun (w' : World) (hb : Below w.heap.size w w') => value_c D 2 (by decide) hDs (by first | exact .inl rfl | exact .inr hDw) w' (Glob.step HH.out.1 hb).2.2.2.1 (Glob.step HH.out.1 hb).2.2.2.2
              obtain ⟨V, hV⟩ : ∃ V, (valS D.data.toList 2).1 = V := ⟨_, rfl⟩
              obtain ⟨Y, hY⟩ : ∃ Y, (valS D.data.toList 2).2 = Y := ⟨_, rfl⟩
              rw [hV, hY] at hval
              rw [hV, hY] at hns
              have HVAL := Lib.hid hval
              clear hval hV hY hDs hDw
              by_cases hY0 : Y = 0
              · subst hY0
                rw [if_neg (by decide)] at hns
                have y0 : ((0 : Int) != 0) = false := rfl
                have HNS := Lib.hid hns
                clear hns
                go_wp2_with (first
                  | (go_at_call 22; refine (HP0.out _).mono ?_; rintro E w' ⟨rfl, rfl⟩)
                  | (go_at_call 22; refine (HP1.out _).mono ?_; rintro E w' ⟨rfl, rfl⟩)
                  | (go_at_call 37; refine (HS0.out _).mono ?_; rintro E w' ⟨rfl, rfl⟩)
                  | (go_at_call 37; refine (HS1.out _).mono ?_; rintro E w' ⟨rfl, rfl⟩)
                  | (go_at_call 38; refine (HVAL.out _ HBW.out).mono ?_; rintro E w5 ⟨rfl, hb5⟩; have hl5 := HLS.out.below hb5; have l4 := hl5.cell 4 _ rfl; have z4 := hl5.frz (l.length * 6 + 4); rw [HM.out.1] at l4 z4; have HL5 := Lib.hid hl5; clear hb5 hl5))
                go_ret
                rw [← HNS.out]
                have hfin := HL5.out.set 4 (.int .u64 V) ⟨1, (i : Int), (e : Int), T, V, false⟩ (by decide) rfl
                rw [HM.out.1] at hfin
                exact ⟨rfl, hfin.c⟩
              · rw [if_pos hY0] at hns
                have y0 : (Y != 0) = true := by rw [bne_iff_ne]; exact hY0
                have HNS := Lib.hid hns
                clear hns hY0
                go_wp2_with (first
                  | (go_at_call 22; refine (HP0.out _).mono ?_; rintro E w' ⟨rfl, rfl⟩)
                  | (go_at_call 22; refine (HP1.out _).mono ?_; rintro E w' ⟨rfl, rfl⟩)
                  | (go_at_call 37; refine (HS0.out _).mono ?_; rintro E w' ⟨rfl, rfl⟩)
                  | (go_at_call 37; refine (HS1.out _).mono ?_; rintro E w' ⟨rfl, rfl⟩)
                  | (go_at_call 38; refine (HVAL.out _ HBW.out).mono ?_; rintro E w5 ⟨rfl, hb5⟩; have hg5 : g < w5.heap.size := Nat.lt_of_lt_of_le (World.block_lt_of_cell? _ _ HLS.out.x2) hb5.size; have HB5 := Lib.hid (HBW.out.trans (hb5.mono HBW.out.size)); clear hb5)
                  | (go_at_call 8; refine (fault_c (i : Int) Y g _ hg5).mono ?_; rintro E wf ⟨v, rfl, hf, hd⟩; have HF := Lib.hid (And.intro hf hd); clear hf hd))
                go_ret
                rw [← HNS.out]
                exact ⟨_, rfl, HF.out.1, HB5.out.trans (HF.out.2.mono HB5.out.size)⟩

            · have hn01 : ¬ (hpB T ⟨#[48, 98]⟩ = true ∧ 2 < T.size) := fun h => hlen h.2
              have q9 : ((2 : Int) < (T.size : Int)) = False := eq_false (by omega)
              have q8 : (2 < T.size) = False := eq_false hlen
              cases hb2 : hsB T ⟨#[98]⟩ with
              | true =>
                rw [hb2] at hs0
                have HP0 := Lib.hid hp0
                have HP1 := Lib.hid hp1
                have HS0 := Lib.hid hs0
                have HS1 := Lib.hid hs1
                clear hp0 hp1 hs0 hs1
                have hF : numF T = (2, T.extract 0 (T.size - 1), 10, false) := by unfold numF; rw [if_neg (by rw [hb0]; decide), if_neg hn01, if_pos hb2]
                rw [hF] at hns
                dsimp only at hns
                obtain ⟨n1, hn1'⟩ : ∃ n1, T.size - 1 = n1 := ⟨_, rfl⟩
                rw [hn1'] at hns
                have wn : IntKind.i64.wrap ((n : Int) - 1) = (n1 : Int) := by rw [IntKind.wrap_i64]; have := HT.out.1; omega
                have kn : n1 ≤ T.size := by omega
                obtain ⟨D, hDe⟩ : ∃ D, T.extract 0 n1 = D := ⟨_, rfl⟩
                have hDs : D.size ≤ 281474976710656 := by rw [← hDe, ByteArray.size_extract]; omega
                have hDw : D.data.toList.all wordB = true := by rw [← hDe]; exact all_ext T 0 n1 HT.out.2.1
                rw [hDe] at hns
                have hls := HL.out.set 0 (.int .i64 2) ⟨2, (i : Int), (e : Int), T, 0, false⟩ (by decide) rfl
                rw [HM.out.1] at hls
                have hls2 : LST w g s e l ⟨2, (i : Int), (e : Int), T, 0, false⟩ b cp (w4.setCell ⟨b, m * 6, none⟩ (.int .i64 2)) := hls
                have HBW := Lib.hid hls2.c.b
                have HLS := Lib.hid hls2
                clear hls hls2
                clear hF hw4' hGG hT2' hgg
                have hval := fun (w' : World) (hb : Below w.heap.size w w') => value_c D 10 (by decide) hDs (by first | exact .inl rfl | exact .inr hDw) w' (Glob.step HH.out.1 hb).2.2.2.1 (Glob.step HH.out.1 hb).2.2.2.2
                obtain ⟨V, hV⟩ : ∃ V, (valS D.data.toList 10).1 = V := ⟨_, rfl⟩
                obtain ⟨Y, hY⟩ : ∃ Y, (valS D.data.toList 10).2 = Y := ⟨_, rfl⟩
                rw [hV, hY] at hval
                rw [hV, hY] at hns
                have HVAL := Lib.hid hval
                clear hval hV hY hDs hDw
                by_cases hY0 : Y = 0
                · subst hY0
                  rw [if_neg (by decide)] at hns
                  have y0 : ((0 : Int) != 0) = false := rfl
                  have HNS := Lib.hid hns
                  clear hns
                  go_wp2_with (first
                    | (go_at_call 22; refine (HP0.out _).mono ?_; rintro E w' ⟨rfl, rfl⟩)
                    | (go_at_call 22; refine (HP1.out _).mono ?_; rintro E w' ⟨rfl, rfl⟩)
                    | (go_at_call 37; refine (HS0.out _).mono ?_; rintro E w' ⟨rfl, rfl⟩)
                    | (go_at_call 37; refine (HS1.out _).mono ?_; rintro E w' ⟨rfl, rfl⟩)
                    | (go_at_call 38; refine (HVAL.out _ HBW.out).mono ?_; rintro E w5 ⟨rfl, hb5⟩; have hl5 := HLS.out.below hb5; have l4 := hl5.cell 4 _ rfl; have z4 := hl5.frz (l.length * 6 + 4); rw [HM.out.1] at l4 z4; have HL5 := Lib.hid hl5; clear hb5 hl5))
                  go_ret
                  rw [← HNS.out]
                  have hfin := HL5.out.set 4 (.int .u64 V) ⟨2, (i : Int), (e : Int), T, V, false⟩ (by decide) rfl
                  rw [HM.out.1] at hfin
                  exact ⟨rfl, hfin.c⟩
                · rw [if_pos hY0] at hns
                  have y0 : (Y != 0) = true := by rw [bne_iff_ne]; exact hY0
                  have HNS := Lib.hid hns
                  clear hns hY0
                  go_wp2_with (first
                    | (go_at_call 22; refine (HP0.out _).mono ?_; rintro E w' ⟨rfl, rfl⟩)
                    | (go_at_call 22; refine (HP1.out _).mono ?_; rintro E w' ⟨rfl, rfl⟩)
                    | (go_at_call 37; refine (HS0.out _).mono ?_; rintro E w' ⟨rfl, rfl⟩)
                    | (go_at_call 37; refine (HS1.out _).mono ?_; rintro E w' ⟨rfl, rfl⟩)
                    | (go_at_call 38; refine (HVAL.out _ HBW.out).mono ?_; rintro E w5 ⟨rfl, hb5⟩; have hg5 : g < w5.heap.size := Nat.lt_of_lt_of_le (World.block_lt_of_cell? _ _ HLS.out.x2) hb5.size; have HB5 := Lib.hid (HBW.out.trans (hb5.mono HBW.out.size)); clear hb5)
                    | (go_at_call 8; refine (fault_c (i : Int) Y g _ hg5).mono ?_; rintro E wf ⟨v, rfl, hf, hd⟩; have HF := Lib.hid (And.intro hf hd); clear hf hd))
                  go_ret
                  rw [← HNS.out]
                  exact ⟨_, rfl, HF.out.1, HB5.out.trans (HF.out.2.mono HB5.out.size)⟩

              | false =>
                rw [hb2] at hs0
                cases hb3 : hsB T ⟨#[102]⟩ with
                | true =>
                  rw [hb3] at hs1
                  have HP0 := Lib.hid hp0
                  have HP1 := Lib.hid hp1
                  have HS0 := Lib.hid hs0
                  have HS1 := Lib.hid hs1
                  clear hp0 hp1 hs0 hs1
                  have hF : numF T = (3, T.extract 0 (T.size - 1), 10, false) := by unfold numF; rw [if_neg (by rw [hb0]; decide), if_neg hn01, if_neg (by rw [hb2]; decide), if_pos hb3]
                  rw [hF] at hns
                  dsimp only at hns
                  obtain ⟨n1, hn1'⟩ : ∃ n1, T.size - 1 = n1 := ⟨_, rfl⟩
                  rw [hn1'] at hns
                  have wn : IntKind.i64.wrap ((n : Int) - 1) = (n1 : Int) := by rw [IntKind.wrap_i64]; have := HT.out.1; omega
                  have kn : n1 ≤ T.size := by omega
                  obtain ⟨D, hDe⟩ : ∃ D, T.extract 0 n1 = D := ⟨_, rfl⟩
                  have hDs : D.size ≤ 281474976710656 := by rw [← hDe, ByteArray.size_extract]; omega
                  have hDw : D.data.toList.all wordB = true := by rw [← hDe]; exact all_ext T 0 n1 HT.out.2.1
                  rw [hDe] at hns
                  have hls := HL.out.set 0 (.int .i64 3) ⟨3, (i : Int), (e : Int), T, 0, false⟩ (by decide) rfl
                  rw [HM.out.1] at hls
                  have hls2 : LST w g s e l ⟨3, (i : Int), (e : Int), T, 0, false⟩ b cp (w4.setCell ⟨b, m * 6, none⟩ (.int .i64 3)) := hls
                  have HBW := Lib.hid hls2.c.b
                  have HLS := Lib.hid hls2
                  clear hls hls2
                  clear hF hw4' hGG hT2' hgg
                  have hval := fun (w' : World) (hb : Below w.heap.size w w') => value_c D 10 (by decide) hDs (by first | exact .inl rfl | exact .inr hDw) w' (Glob.step HH.out.1 hb).2.2.2.1 (Glob.step HH.out.1 hb).2.2.2.2
                  obtain ⟨V, hV⟩ : ∃ V, (valS D.data.toList 10).1 = V := ⟨_, rfl⟩
                  obtain ⟨Y, hY⟩ : ∃ Y, (valS D.data.toList 10).2 = Y := ⟨_, rfl⟩
                  rw [hV, hY] at hval
                  rw [hV, hY] at hns
                  have HVAL := Lib.hid hval
                  clear hval hV hY hDs hDw
                  by_cases hY0 : Y = 0
                  · subst hY0
                    rw [if_neg (by decide)] at hns
                    have y0 : ((0 : Int) != 0) = false := rfl
                    have HNS := Lib.hid hns
                    clear hns
                    go_wp2_with (first
                      | (go_at_call 22; refine (HP0.out _).mono ?_; rintro E w' ⟨rfl, rfl⟩)
                      | (go_at_call 22; refine (HP1.out _).mono ?_; rintro E w' ⟨rfl, rfl⟩)
                      | (go_at_call 37; refine (HS0.out _).mono ?_; rintro E w' ⟨rfl, rfl⟩)
                      | (go_at_call 37; refine (HS1.out _).mono ?_; rintro E w' ⟨rfl, rfl⟩)
                      | (go_at_call 38; refine (HVAL.out _ HBW.out).mono ?_; rintro E w5 ⟨rfl, hb5⟩; have hl5 := HLS.out.below hb5; have l4 := hl5.cell 4 _ rfl; have z4 := hl5.frz (l.length * 6 + 4); rw [HM.out.1] at l4 z4; have HL5 := Lib.hid hl5; clear hb5 hl5))
                    go_ret
                    rw [← HNS.out]
                    have hfin := HL5.out.set 4 (.int .u64 V) ⟨3, (i : Int), (e : Int), T, V, false⟩ (by decide) rfl
                    rw [HM.out.1] at hfin
                    exact ⟨rfl, hfin.c⟩
                  · rw [if_pos hY0] at hns
                    have y0 : (Y != 0) = true := by rw [bne_iff_ne]; exact hY0
                    have HNS := Lib.hid hns
                    clear hns hY0
                    go_wp2_with (first
                      | (go_at_call 22; refine (HP0.out _).mono ?_; rintro E w' ⟨rfl, rfl⟩)
                      | (go_at_call 22; refine (HP1.out _).mono ?_; rintro E w' ⟨rfl, rfl⟩)
                      | (go_at_call 37; refine (HS0.out _).mono ?_; rintro E w' ⟨rfl, rfl⟩)
                      | (go_at_call 37; refine (HS1.out _).mono ?_; rintro E w' ⟨rfl, rfl⟩)
                      | (go_at_call 38; refine (HVAL.out _ HBW.out).mono ?_; rintro E w5 ⟨rfl, hb5⟩; have hg5 : g < w5.heap.size := Nat.lt_of_lt_of_le (World.block_lt_of_cell? _ _ HLS.out.x2) hb5.size; have HB5 := Lib.hid (HBW.out.trans (hb5.mono HBW.out.size)); clear hb5)
                      | (go_at_call 8; refine (fault_c (i : Int) Y g _ hg5).mono ?_; rintro E wf ⟨v, rfl, hf, hd⟩; have HF := Lib.hid (And.intro hf hd); clear hf hd))
                    go_ret
                    rw [← HNS.out]
                    exact ⟨_, rfl, HF.out.1, HB5.out.trans (HF.out.2.mono HB5.out.size)⟩

                | false =>
                  rw [hb3] at hs1
                  have HP0 := Lib.hid hp0
                  have HP1 := Lib.hid hp1
                  have HS0 := Lib.hid hs0
                  have HS1 := Lib.hid hs1
                  clear hp0 hp1 hs0 hs1
                  have hF : numF T = (1, T, 10, true) := by unfold numF; rw [if_neg (by rw [hb0]; decide), if_neg hn01, if_neg (by rw [hb2]; decide), if_neg (by rw [hb3]; decide)]
                  rw [hF] at hns
                  dsimp only at hns
                  have hDs : T.size ≤ 281474976710656 := by omega
                  have hDw : T.data.toList.all wordB = true := HT.out.2.1
                  have hls := HL.out.set 5 (.bool true) ⟨1, (i : Int), (e : Int), T, 0, true⟩ (by decide) rfl
                  rw [HM.out.1] at hls
                  have HBW := Lib.hid hls.c.b
                  have HLS := Lib.hid hls
                  clear hls
                  clear hF hw4' hGG hT2' hgg
                  have hval := fun (w' : World) (hb : Below w.heap.size w w') => value_c T 10 (by decide) hDs (by first | exact .inl rfl | exact .inr hDw) w' (Glob.step HH.out.1 hb).2.2.2.1 (Glob.step HH.out.1 hb).2.2.2.2
                  obtain ⟨V, hV⟩ : ∃ V, (valS T.data.toList 10).1 = V := ⟨_, rfl⟩
                  obtain ⟨Y, hY⟩ : ∃ Y, (valS T.data.toList 10).2 = Y := ⟨_, rfl⟩
                  rw [hV, hY] at hval
                  rw [hV, hY] at hns
                  have HVAL := Lib.hid hval
                  clear hval hV hY hDs hDw
                  by_cases hY0 : Y = 0
                  · subst hY0
                    rw [if_neg (by decide)] at hns
                    have y0 : ((0 : Int) != 0) = false := rfl
                    have HNS := Lib.hid hns
                    clear hns
                    go_wp2_with (first
                      | (go_at_call 22; refine (HP0.out _).mono ?_; rintro E w' ⟨rfl, rfl⟩)
                      | (go_at_call 22; refine (HP1.out _).mono ?_; rintro E w' ⟨rfl, rfl⟩)
                      | (go_at_call 37; refine (HS0.out _).mono ?_; rintro E w' ⟨rfl, rfl⟩)
                      | (go_at_call 37; refine (HS1.out _).mono ?_; rintro E w' ⟨rfl, rfl⟩)
                      | (go_at_call 38; refine (HVAL.out _ HBW.out).mono ?_; rintro E w5 ⟨rfl, hb5⟩; have hl5 := HLS.out.below hb5; have l4 := hl5.cell 4 _ rfl; have z4 := hl5.frz (l.length * 6 + 4); rw [HM.out.1] at l4 z4; have HL5 := Lib.hid hl5; clear hb5 hl5))
                    go_ret
                    rw [← HNS.out]
                    have hfin := HL5.out.set 4 (.int .u64 V) ⟨1, (i : Int), (e : Int), T, V, true⟩ (by decide) rfl
                    rw [HM.out.1] at hfin
                    exact ⟨rfl, hfin.c⟩
                  · rw [if_pos hY0] at hns
                    have y0 : (Y != 0) = true := by rw [bne_iff_ne]; exact hY0
                    have HNS := Lib.hid hns
                    clear hns hY0
                    go_wp2_with (first
                      | (go_at_call 22; refine (HP0.out _).mono ?_; rintro E w' ⟨rfl, rfl⟩)
                      | (go_at_call 22; refine (HP1.out _).mono ?_; rintro E w' ⟨rfl, rfl⟩)
                      | (go_at_call 37; refine (HS0.out _).mono ?_; rintro E w' ⟨rfl, rfl⟩)
                      | (go_at_call 37; refine (HS1.out _).mono ?_; rintro E w' ⟨rfl, rfl⟩)
                      | (go_at_call 38; refine (HVAL.out _ HBW.out).mono ?_; rintro E w5 ⟨rfl, hb5⟩; have hg5 : g < w5.heap.size := Nat.lt_of_lt_of_le (World.block_lt_of_cell? _ _ HLS.out.x2) hb5.size; have HB5 := Lib.hid (HBW.out.trans (hb5.mono HBW.out.size)); clear hb5)
                      | (go_at_call 8; refine (fault_c (i : Int) Y g _ hg5).mono ?_; rintro E wf ⟨v, rfl, hf, hd⟩; have HF := Lib.hid (And.intro hf hd); clear hf hd))
                    go_ret
                    rw [← HNS.out]
                    exact ⟨_, rfl, HF.out.1, HB5.out.trans (HF.out.2.mono HB5.out.size)⟩


          | false =>
            rw [hb1] at hp1
            have hn01 : ¬ (hpB T ⟨#[48, 98]⟩ = true ∧ 2 < T.size) := fun h => by rw [hb1] at h; exact absurd h.1 (by decide)
            cases hb2 : hsB T ⟨#[98]⟩ with
            | true =>
              rw [hb2] at hs0
              have HP0 := Lib.hid hp0
              have HP1 := Lib.hid hp1
              have HS0 := Lib.hid hs0
              have HS1 := Lib.hid hs1
              clear hp0 hp1 hs0 hs1
              have hF : numF T = (2, T.extract 0 (T.size - 1), 10, false) := by unfold numF; rw [if_neg (by rw [hb0]; decide), if_neg hn01, if_pos hb2]
              rw [hF] at hns
              dsimp only at hns
              obtain ⟨n1, hn1'⟩ : ∃ n1, T.size - 1 = n1 := ⟨_, rfl⟩
              rw [hn1'] at hns
              have wn : IntKind.i64.wrap ((n : Int) - 1) = (n1 : Int) := by rw [IntKind.wrap_i64]; have := HT.out.1; omega
              have kn : n1 ≤ T.size := by omega
              obtain ⟨D, hDe⟩ : ∃ D, T.extract 0 n1 = D := ⟨_, rfl⟩
              have hDs : D.size ≤ 281474976710656 := by rw [← hDe, ByteArray.size_extract]; omega
              have hDw : D.data.toList.all wordB = true := by rw [← hDe]; exact all_ext T 0 n1 HT.out.2.1
              rw [hDe] at hns
              have hls := HL.out.set 0 (.int .i64 2) ⟨2, (i : Int), (e : Int), T, 0, false⟩ (by decide) rfl
              rw [HM.out.1] at hls
              have hls2 : LST w g s e l ⟨2, (i : Int), (e : Int), T, 0, false⟩ b cp (w4.setCell ⟨b, m * 6, none⟩ (.int .i64 2)) := hls
              have HBW := Lib.hid hls2.c.b
              have HLS := Lib.hid hls2
              clear hls hls2
              clear hF hw4' hGG hT2' hgg
              have hval := fun (w' : World) (hb : Below w.heap.size w w') => value_c D 10 (by decide) hDs (by first | exact .inl rfl | exact .inr hDw) w' (Glob.step HH.out.1 hb).2.2.2.1 (Glob.step HH.out.1 hb).2.2.2.2
              obtain ⟨V, hV⟩ : ∃ V, (valS D.data.toList 10).1 = V := ⟨_, rfl⟩
              obtain ⟨Y, hY⟩ : ∃ Y, (valS D.data.toList 10).2 = Y := ⟨_, rfl⟩
              rw [hV, hY] at hval
              rw [hV, hY] at hns
              have HVAL := Lib.hid hval
              clear hval hV hY hDs hDw
              by_cases hY0 : Y = 0
              · subst hY0
                rw [if_neg (by decide)] at hns
                have y0 : ((0 : Int) != 0) = false := rfl
                have HNS := Lib.hid hns
                clear hns
                go_wp2_with (first
                  | (go_at_call 22; refine (HP0.out _).mono ?_; rintro E w' ⟨rfl, rfl⟩)
                  | (go_at_call 22; refine (HP1.out _).mono ?_; rintro E w' ⟨rfl, rfl⟩)
                  | (go_at_call 37; refine (HS0.out _).mono ?_; rintro E w' ⟨rfl, rfl⟩)
                  | (go_at_call 37; refine (HS1.out _).mono ?_; rintro E w' ⟨rfl, rfl⟩)
                  | (go_at_call 38; refine (HVAL.out _ HBW.out).mono ?_; rintro E w5 ⟨rfl, hb5⟩; have hl5 := HLS.out.below hb5; have l4 := hl5.cell 4 _ rfl; have z4 := hl5.frz (l.length * 6 + 4); rw [HM.out.1] at l4 z4; have HL5 := Lib.hid hl5; clear hb5 hl5))
                go_ret
                rw [← HNS.out]
                have hfin := HL5.out.set 4 (.int .u64 V) ⟨2, (i : Int), (e : Int), T, V, false⟩ (by decide) rfl
                rw [HM.out.1] at hfin
                exact ⟨rfl, hfin.c⟩
              · rw [if_pos hY0] at hns
                have y0 : (Y != 0) = true := by rw [bne_iff_ne]; exact hY0
                have HNS := Lib.hid hns
                clear hns hY0
                go_wp2_with (first
                  | (go_at_call 22; refine (HP0.out _).mono ?_; rintro E w' ⟨rfl, rfl⟩)
                  | (go_at_call 22; refine (HP1.out _).mono ?_; rintro E w' ⟨rfl, rfl⟩)
                  | (go_at_call 37; refine (HS0.out _).mono ?_; rintro E w' ⟨rfl, rfl⟩)
                  | (go_at_call 37; refine (HS1.out _).mono ?_; rintro E w' ⟨rfl, rfl⟩)
                  | (go_at_call 38; refine (HVAL.out _ HBW.out).mono ?_; rintro E w5 ⟨rfl, hb5⟩; have hg5 : g < w5.heap.size := Nat.lt_of_lt_of_le (World.block_lt_of_cell? _ _ HLS.out.x2) hb5.size; have HB5 := Lib.hid (HBW.out.trans (hb5.mono HBW.out.size)); clear hb5)
                  | (go_at_call 8; refine (fault_c (i : Int) Y g _ hg5).mono ?_; rintro E wf ⟨v, rfl, hf, hd⟩; have HF := Lib.hid (And.intro hf hd); clear hf hd))
                go_ret
                rw [← HNS.out]
                exact ⟨_, rfl, HF.out.1, HB5.out.trans (HF.out.2.mono HB5.out.size)⟩

            | false =>
              rw [hb2] at hs0
              cases hb3 : hsB T ⟨#[102]⟩ with
              | true =>
                rw [hb3] at hs1
                have HP0 := Lib.hid hp0
                have HP1 := Lib.hid hp1
                have HS0 := Lib.hid hs0
                have HS1 := Lib.hid hs1
                clear hp0 hp1 hs0 hs1
                have hF : numF T = (3, T.extract 0 (T.size - 1), 10, false) := by unfold numF; rw [if_neg (by rw [hb0]; decide), if_neg hn01, if_neg (by rw [hb2]; decide), if_pos hb3]
                rw [hF] at hns
                dsimp only at hns
                obtain ⟨n1, hn1'⟩ : ∃ n1, T.size - 1 = n1 := ⟨_, rfl⟩
                rw [hn1'] at hns
                have wn : IntKind.i64.wrap ((n : Int) - 1) = (n1 : Int) := by rw [IntKind.wrap_i64]; have := HT.out.1; omega
                have kn : n1 ≤ T.size := by omega
                obtain ⟨D, hDe⟩ : ∃ D, T.extract 0 n1 = D := ⟨_, rfl⟩
                have hDs : D.size ≤ 281474976710656 := by rw [← hDe, ByteArray.size_extract]; omega
                have hDw : D.data.toList.all wordB = true := by rw [← hDe]; exact all_ext T 0 n1 HT.out.2.1
                rw [hDe] at hns
                have hls := HL.out.set 0 (.int .i64 3) ⟨3, (i : Int), (e : Int), T, 0, false⟩ (by decide) rfl
                rw [HM.out.1] at hls
                have hls2 : LST w g s e l ⟨3, (i : Int), (e : Int), T, 0, false⟩ b cp (w4.setCell ⟨b, m * 6, none⟩ (.int .i64 3)) := hls
                have HBW := Lib.hid hls2.c.b
                have HLS := Lib.hid hls2
                clear hls hls2
                clear hF hw4' hGG hT2' hgg
                have hval := fun (w' : World) (hb : Below w.heap.size w w') => value_c D 10 (by decide) hDs (by first | exact .inl rfl | exact .inr hDw) w' (Glob.step HH.out.1 hb).2.2.2.1 (Glob.step HH.out.1 hb).2.2.2.2
                obtain ⟨V, hV⟩ : ∃ V, (valS D.data.toList 10).1 = V := ⟨_, rfl⟩
                obtain ⟨Y, hY⟩ : ∃ Y, (valS D.data.toList 10).2 = Y := ⟨_, rfl⟩
                rw [hV, hY] at hval
                rw [hV, hY] at hns
                have HVAL := Lib.hid hval
                clear hval hV hY hDs hDw
                by_cases hY0 : Y = 0
                · subst hY0
                  rw [if_neg (by decide)] at hns
                  have y0 : ((0 : Int) != 0) = false := rfl
                  have HNS := Lib.hid hns
                  clear hns
                  go_wp2_with (first
                    | (go_at_call 22; refine (HP0.out _).mono ?_; rintro E w' ⟨rfl, rfl⟩)
                    | (go_at_call 22; refine (HP1.out _).mono ?_; rintro E w' ⟨rfl, rfl⟩)
                    | (go_at_call 37; refine (HS0.out _).mono ?_; rintro E w' ⟨rfl, rfl⟩)
                    | (go_at_call 37; refine (HS1.out _).mono ?_; rintro E w' ⟨rfl, rfl⟩)
                    | (go_at_call 38; refine (HVAL.out _ HBW.out).mono ?_; rintro E w5 ⟨rfl, hb5⟩; have hl5 := HLS.out.below hb5; have l4 := hl5.cell 4 _ rfl; have z4 := hl5.frz (l.length * 6 + 4); rw [HM.out.1] at l4 z4; have HL5 := Lib.hid hl5; clear hb5 hl5))
                  go_ret
                  rw [← HNS.out]
                  have hfin := HL5.out.set 4 (.int .u64 V) ⟨3, (i : Int), (e : Int), T, V, false⟩ (by decide) rfl
                  rw [HM.out.1] at hfin
                  exact ⟨rfl, hfin.c⟩
                · rw [if_pos hY0] at hns
                  have y0 : (Y != 0) = true := by rw [bne_iff_ne]; exact hY0
                  have HNS := Lib.hid hns
                  clear hns hY0
                  go_wp2_with (first
                    | (go_at_call 22; refine (HP0.out _).mono ?_; rintro E w' ⟨rfl, rfl⟩)
                    | (go_at_call 22; refine (HP1.out _).mono ?_; rintro E w' ⟨rfl, rfl⟩)
                    | (go_at_call 37; refine (HS0.out _).mono ?_; rintro E w' ⟨rfl, rfl⟩)
                    | (go_at_call 37; refine (HS1.out _).mono ?_; rintro E w' ⟨rfl, rfl⟩)
                    | (go_at_call 38; refine (HVAL.out _ HBW.out).mono ?_; rintro E w5 ⟨rfl, hb5⟩; have hg5 : g < w5.heap.size := Nat.lt_of_lt_of_le (World.block_lt_of_cell? _ _ HLS.out.x2) hb5.size; have HB5 := Lib.hid (HBW.out.trans (hb5.mono HBW.out.size)); clear hb5)
                    | (go_at_call 8; refine (fault_c (i : Int) Y g _ hg5).mono ?_; rintro E wf ⟨v, rfl, hf, hd⟩; have HF := Lib.hid (And.intro hf hd); clear hf hd))
                  go_ret
                  rw [← HNS.out]
                  exact ⟨_, rfl, HF.out.1, HB5.out.trans (HF.out.2.mono HB5.out.size)⟩

              | false =>
                rw [hb3] at hs1
                have HP0 := Lib.hid hp0
                have HP1 := Lib.hid hp1
                have HS0 := Lib.hid hs0
                have HS1 := Lib.hid hs1
                clear hp0 hp1 hs0 hs1
                have hF : numF T = (1, T, 10, true) := by unfold numF; rw [if_neg (by rw [hb0]; decide), if_neg hn01, if_neg (by rw [hb2]; decide), if_neg (by rw [hb3]; decide)]
                rw [hF] at hns
                dsimp only at hns
                have hDs : T.size ≤ 281474976710656 := by omega
                have hDw : T.data.toList.all wordB = true := HT.out.2.1
                have hls := HL.out.set 5 (.bool true) ⟨1, (i : Int), (e : Int), T, 0, true⟩ (by decide) rfl
                rw [HM.out.1] at hls
                have HBW := Lib.hid hls.c.b
                have HLS := Lib.hid hls
                clear hls
                clear hF hw4' hGG hT2' hgg
                have hval := fun (w' : World) (hb : Below w.heap.size w w') => value_c T 10 (by decide) hDs (by first | exact .inl rfl | exact .inr hDw) w' (Glob.step HH.out.1 hb).2.2.2.1 (Glob.step HH.out.1 hb).2.2.2.2
                obtain ⟨V, hV⟩ : ∃ V, (valS T.data.toList 10).1 = V := ⟨_, rfl⟩
                obtain ⟨Y, hY⟩ : ∃ Y, (valS T.data.toList 10).2 = Y := ⟨_, rfl⟩
                rw [hV, hY] at hval
                rw [hV, hY] at hns
                have HVAL := Lib.hid hval
                clear hval hV hY hDs hDw
                by_cases hY0 : Y = 0
                · subst hY0
                  rw [if_neg (by decide)] at hns
                  have y0 : ((0 : Int) != 0) = false := rfl
                  have HNS := Lib.hid hns
                  clear hns
                  go_wp2_with (first
                    | (go_at_call 22; refine (HP0.out _).mono ?_; rintro E w' ⟨rfl, rfl⟩)
                    | (go_at_call 22; refine (HP1.out _).mono ?_; rintro E w' ⟨rfl, rfl⟩)
                    | (go_at_call 37; refine (HS0.out _).mono ?_; rintro E w' ⟨rfl, rfl⟩)
                    | (go_at_call 37; refine (HS1.out _).mono ?_; rintro E w' ⟨rfl, rfl⟩)
                    | (go_at_call 38; refine (HVAL.out _ HBW.out).mono ?_; rintro E w5 ⟨rfl, hb5⟩; have hl5 := HLS.out.below hb5; have l4 := hl5.cell 4 _ rfl; have z4 := hl5.frz (l.length * 6 + 4); rw [HM.out.1] at l4 z4; have HL5 := Lib.hid hl5; clear hb5 hl5))
                  go_ret
                  rw [← HNS.out]
                  have hfin := HL5.out.set 4 (.int .u64 V) ⟨1, (i : Int), (e : Int), T, V, true⟩ (by decide) rfl
                  rw [HM.out.1] at hfin
                  exact ⟨rfl, hfin.c⟩
                · rw [if_pos hY0] at hns
                  have y0 : (Y != 0) = true := by rw [bne_iff_ne]; exact hY0
                  have HNS := Lib.hid hns
                  clear hns hY0
                  go_wp2_with (first
                    | (go_at_call 22; refine (HP0.out _).mono ?_; rintro E w' ⟨rfl, rfl⟩)
                    | (go_at_call 22; refine (HP1.out _).mono ?_; rintro E w' ⟨rfl, rfl⟩)
                    | (go_at_call 37; refine (HS0.out _).mono ?_; rintro E w' ⟨rfl, rfl⟩)
                    | (go_at_call 37; refine (HS1.out _).mono ?_; rintro E w' ⟨rfl, rfl⟩)
                    | (go_at_call 38; refine (HVAL.out _ HBW.out).mono ?_; rintro E w5 ⟨rfl, hb5⟩; have hg5 : g < w5.heap.size := Nat.lt_of_lt_of_le (World.block_lt_of_cell? _ _ HLS.out.x2) hb5.size; have HB5 := Lib.hid (HBW.out.trans (hb5.mono HBW.out.size)); clear hb5)
                    | (go_at_call 8; refine (fault_c (i : Int) Y g _ hg5).mono ?_; rintro E wf ⟨v, rfl, hf, hd⟩; have HF := Lib.hid (And.intro hf hd); clear hf hd))
                  go_ret
                  rw [← HNS.out]
                  exact ⟨_, rfl, HF.out.1, HB5.out.trans (HF.out.2.mono HB5.out.size)⟩



    · rw [wl_end s j (by omega)] at hW
      have q1 : ((j : Int) < (s.size : Int)) = False := eq_false (by omega)
      have q2 : (j < s.size) = False := eq_false hjs
      have hq : ∀ q, CSt w g s i l (wr.drewN q) := fun q => HX.out.below (pw_below_drewN (Below.refl _ _) q)
      have HQ0 := Lib.hid hq
      clear hq hj
      go_wp2
      go_quiet (fail)
      have HQ := Lib.hid (HQ0.out nq)
      obtain ⟨wq, hwq⟩ : ∃ q, wr.drewN nq = q := ⟨_, rfl⟩
      rw [hwq] at HQ ⊢
      clear hwq q1 q2 hjs HQ0
      -- the loop is left: the world wq
      obtain rfl : n = N := by omega
      have HX2 := HQ
      clear HX HW HJ hW w1 c0 c1
      obtain ⟨T, hT⟩ : ∃ T, s.extract i (i + n) = T := ⟨_, rfl⟩
      have hjle : i + n ≤ s.size := hn
      obtain ⟨e, he⟩ : ∃ e, i + n = e := ⟨_, rfl⟩
      have hTs : T.size = n := by rw [← hT, ByteArray.size_extract]; omega
      have hTw : T.data.toList.all wordB = true := by
        rw [← hT, data_ext s i (i + n) (by omega) hjle, show i + n - i = n by omega, ← HN.out.1]
        exact wl_all _
      have w1 : IntKind.i64.wrap ((i : Int) + (n : Int)) = (e : Int) := by rw [IntKind.wrap_i64]; omega
      have k1 : i ≤ e := by omega
      have k2 : e ≤ s.size := by omega
      have hT2 : s.extract i e = T := by rw [← he]; exact hT
      have HT := Lib.hid (And.intro hTs (And.intro hTw (And.intro hT he)))
      have hn1 := HN.out.2
      have c0 := HX2.out.c0
      have c1 := HX2.out.c1
      have HQ3 := Lib.hid (HX2.out.below (below_drew (Below.refl _ _)))
      have hpu := fun (W' : World) (hc : CSt w g s i l W') => push_c (k := 1) (n := n) hc (by omega) hs (by have := HH.out.2.2.2.1; omega)
      rw [hT, he] at hpu
      have HPU := Lib.hid hpu
      clear hTs hTw hT he hjle hpu
      go_wp2
      go_region_held2 (fun w' => w'.cell? ⟨g, 0, none⟩ = some (.string s) ∧ w'.cell? ⟨g, 1, none⟩ = some (.int .i64 (i : Int))) (first | exact ⟨c0, c1⟩ | go_keep) (fail)
      clear c0 c1
      have c0 := HQ3.out.c0
      have c1 := HQ3.out.c1
      go_upto_region 7 with (first | (go_at_call 21; refine (HPU.out _ HQ3.out).mono ?_; rintro E w3 ⟨rfl, hc⟩; have HC := Lib.hid hc; clear hc))
      clear c0 c1
      obtain ⟨b, cp, hL⟩ := LST.of HC.out
      obtain ⟨m, hm⟩ : ∃ m, l.length = m := ⟨_, rfl⟩
      have hx2 := hL.x2
      rw [hm] at hx2
      have wm : IntKind.i64.wrap (((m + 1 : Nat) : Int) - 1) = (m : Int) := by rw [IntKind.wrap_i64]; have := HH.out.2.2.2.1; omega
      obtain ⟨m1, hm1⟩ : ∃ m1, m + 1 = m1 := ⟨_, rfl⟩
      rw [hm1] at hx2 wm
      have r1 : (0 : Int) ≤ (m : Int) := by omega
      have r2 : (m : Int) < (m1 : Int) := by omega
      have HL := Lib.hid (hL.below (below_drew (Below.refl _ _)))
      have HM := Lib.hid (And.intro hm hm1)
      clear hL hm hm1 HC
      go_wp2
      go_region_held2 (fun w' => w'.cell? ⟨g, 2, none⟩ = some (.slice (some ⟨b, 0, none⟩) m1 cp)) (first | exact hx2 | go_keep) (fail)
      clear hx2 wm r1 r2
      obtain ⟨w4, hw4⟩ : ∃ q, w3.drew = q := ⟨_, rfl⟩
      rw [hw4] at HL ⊢
      clear hw4
      have hTb : T.size ≤ 1000000 := by have := HT.out.1; omega
      have hp0 := fun w' => hp_c T ⟨#[48, 120]⟩ w' hTb (by decide)
      have hp1 := fun w' => hp_c T ⟨#[48, 98]⟩ w' hTb (by decide)
      have hs0 := fun w' => hs_c T ⟨#[98]⟩ w' hTb (by decide)
      have hs1 := fun w' => hs_c T ⟨#[102]⟩ w' hTb (by decide)
      have hns : numS s i = R := HR.out
      unfold numS at hns
      rw [HN.out.1] at hns
      dsimp only at hns
      rw [HT.out.2.2.2, hT2] at hns
      have l0 := HL.out.cell 0 _ rfl
      have l4 := HL.out.cell 4 _ rfl
      have l5 := HL.out.cell 5 _ rfl
      have z0 := HL.out.frz (l.length * 6)
      have z4 := HL.out.frz (l.length * 6 + 4)
      have z5 := HL.out.frz (l.length * 6 + 5)
      rw [HM.out.1] at l0 l4 l5 z0 z4 z5
      have l0' : w4.cell? ⟨b, m * 6, none⟩ = some (.int .i64 1) := l0
      clear l0
      have hw4' : Below w.heap.size w w4 := HL.out.c.b
      have hgg := HL.out.c.g0
      have hGG := Glob.step HH.out.1 hw4'
      have hT2' : (2 : Int) < (T.size : Int) ∨ ¬ (2 : Int) < (T.size : Int) := by omega
      clear hT2 k1 k2 w1

      cases hb0 : hpB T ⟨#[48, 120]⟩ with
      | true =>
        rw [hb0] at hp0
        have HP0 := Lib.hid hp0
        have HP1 := Lib.hid hp1
        have HS0 := Lib.hid hs0
        have HS1 := Lib.hid hs1
        clear hp0 hp1 hs0 hs1
        have hF : numF T = (1, T.extract 2 T.size, 16, false) := by unfold numF; rw [if_pos hb0]
        rw [hF] at hns
        dsimp only at hns
        have hT2s : 2 ≤ T.size := by
          unfold hpB at hb0
          rw [Bool.and_eq_true, decide_eq_true_iff] at hb0
          exact hb0.1
        obtain ⟨D, hDe⟩ : ∃ D, T.extract 2 T.size = D := ⟨_, rfl⟩
        have hDs : D.size ≤ 281474976710656 := by rw [← hDe, ByteArray.size_extract]; omega
        have hDw : D.data.toList.all wordB = true := by rw [← hDe]; exact all_ext T 2 T.size HT.out.2.1
        rw [hDe] at hns
        have HLS := HL
        have HBW := Lib.hid hw4'
        clear hF hw4' hGG hT2' hgg
        have hval := fun (w' : World) (hb : Below w.heap.size w w') => value_c D 16 (by decide) hDs (by first | exact .inl rfl | exact .inr hDw) w' (Glob.step HH.out.1 hb).2.2.2.1 (Glob.step HH.out.1 hb).2.2.2.2
        obtain ⟨V, hV⟩ : ∃ V, (valS D.data.toList 16).1 = V := ⟨_, rfl⟩
        obtain ⟨Y, hY⟩ : ∃ Y, (valS D.data.toList 16).2 = Y := ⟨_, rfl⟩
        rw [hV, hY] at hval
        rw [hV, hY] at hns
        have HVAL := Lib.hid hval
        clear hval hV hY hDs hDw
        by_cases hY0 : Y = 0
        · subst hY0
          rw [if_neg (by decide)] at hns
          have y0 : ((0 : Int) != 0) = false := rfl
          have HNS := Lib.hid hns
          clear hns
          go_wp2_with (first
            | (go_at_call 22; refine (HP0.out _).mono ?_; rintro E w' ⟨rfl, rfl⟩)
            | (go_at_call 22; refine (HP1.out _).mono ?_; rintro E w' ⟨rfl, rfl⟩)
            | (go_at_call 37; refine (HS0.out _).mono ?_; rintro E w' ⟨rfl, rfl⟩)
            | (go_at_call 37; refine (HS1.out _).mono ?_; rintro E w' ⟨rfl, rfl⟩)
            | (go_at_call 38; refine (HVAL.out _ HBW.out).mono ?_; rintro E w5 ⟨rfl, hb5⟩; have hl5 := HLS.out.below hb5; have l4 := hl5.cell 4 _ rfl; have z4 := hl5.frz (l.length * 6 + 4); rw [HM.out.1] at l4 z4; have HL5 := Lib.hid hl5; clear hb5 hl5))
          go_ret
          rw [← HNS.out]
          have hfin := HL5.out.set 4 (.int .u64 V) ⟨1, (i : Int), (e : Int), T, V, false⟩ (by decide) rfl
          rw [HM.out.1] at hfin
          exact ⟨rfl, hfin.c⟩
        · rw [if_pos hY0] at hns
          have y0 : (Y != 0) = true := by rw [bne_iff_ne]; exact hY0
          have HNS := Lib.hid hns
          clear hns hY0
          go_wp2_with (first
            | (go_at_call 22; refine (HP0.out _).mono ?_; rintro E w' ⟨rfl, rfl⟩)
            | (go_at_call 22; refine (HP1.out _).mono ?_; rintro E w' ⟨rfl, rfl⟩)
            | (go_at_call 37; refine (HS0.out _).mono ?_; rintro E w' ⟨rfl, rfl⟩)
            | (go_at_call 37; refine (HS1.out _).mono ?_; rintro E w' ⟨rfl, rfl⟩)
            | (go_at_call 38; refine (HVAL.out _ HBW.out).mono ?_; rintro E w5 ⟨rfl, hb5⟩; have hg5 : g < w5.heap.size := Nat.lt_of_lt_of_le (World.block_lt_of_cell? _ _ HLS.out.x2) hb5.size; have HB5 := Lib.hid (HBW.out.trans (hb5.mono HBW.out.size)); clear hb5)
            | (go_at_call 8; refine (fault_c (i : Int) Y g _ hg5).mono ?_; rintro E wf ⟨v, rfl, hf, hd⟩; have HF := Lib.hid (And.intro hf hd); clear hf hd))
          go_ret
          rw [← HNS.out]
          exact ⟨_, rfl, HF.out.1, HB5.out.trans (HF.out.2.mono HB5.out.size)⟩

      | false =>
        rw [hb0] at hp0
        cases hb1 : hpB T ⟨#[48, 98]⟩ with
        | true =>
          rw [hb1] at hp1
          by_cases hlen : 2 < T.size
          · have HP0 := Lib.hid hp0
            have HP1 := Lib.hid hp1
            have HS0 := Lib.hid hs0
            have HS1 := Lib.hid hs1
            clear hp0 hp1 hs0 hs1
            have hF : numF T = (1, T.extract 2 T.size, 2, false) := by unfold numF; rw [if_neg (by rw [hb0]; decide), if_pos ⟨hb1, hlen⟩]
            rw [hF] at hns
            dsimp only at hns
            obtain ⟨D, hDe⟩ : ∃ D, T.extract 2 T.size = D := ⟨_, rfl⟩
            have hDs : D.size ≤ 281474976710656 := by rw [← hDe, ByteArray.size_extract]; omega
            have hDw : D.data.toList.all wordB = true := by rw [← hDe]; exact all_ext T 2 T.size HT.out.2.1
            rw [hDe] at hns
            have q9 : (2 : Int) < (T.size : Int) := by omega
            have q8 : 2 ≤ T.size := by omega
            have HLS := HL
            have HBW := Lib.hid hw4'
            clear hF hw4' hGG hT2' hgg
            have hval := fun (w' : World) (hb : Below w.heap.size w w') => value_c D 2 (by decide) hDs (by first | exact .inl rfl | exact .inr hDw) w' (Glob.step HH.out.1 hb).2.2.2.1 (Glob.step HH.out.1 hb).2.2.2.2
            obtain ⟨V, hV⟩ : ∃ V, (valS D.data.toList 2).1 = V := ⟨_, rfl⟩
            obtain ⟨Y, hY⟩ : ∃ Y, (valS D.data.toList 2).2 = Y := ⟨_, rfl⟩
            rw [hV, hY] at hval
            rw [hV, hY] at hns
            have HVAL := Lib.hid hval
            clear hval hV hY hDs hDw
            by_cases hY0 : Y = 0
            · subst hY0
              rw [if_neg (by decide)] at hns
              have y0 : ((0 : Int) != 0) = false := rfl
              have HNS := Lib.hid hns
              clear hns
              go_wp2_with (first
                | (go_at_call 22; refine (HP0.out _).mono ?_; rintro E w' ⟨rfl, rfl⟩)
                | (go_at_call 22; refine (HP1.out _).mono ?_; rintro E w' ⟨rfl, rfl⟩)
                | (go_at_call 37; refine (HS0.out _).mono ?_; rintro E w' ⟨rfl, rfl⟩)
                | (go_at_call 37; refine (HS1.out _).mono ?_; rintro E w' ⟨rfl, rfl⟩)
                | (go_at_call 38; refine (HVAL.out _ HBW.out).mono ?_; rintro E w5 ⟨rfl, hb5⟩; have hl5 := HLS.out.below hb5; have l4 := hl5.cell 4 _ rfl; have z4 := hl5.frz (l.length * 6 + 4); rw [HM.out.1] at l4 z4; have HL5 := Lib.hid hl5; clear hb5 hl5))
              go_ret
              rw [← HNS.out]
              have hfin := HL5.out.set 4 (.int .u64 V) ⟨1, (i : Int), (e : Int), T, V, false⟩ (by decide) rfl
              rw [HM.out.1] at hfin
              exact ⟨rfl, hfin.c⟩
            · rw [if_pos hY0] at hns
              have y0 : (Y != 0) = true := by rw [bne_iff_ne]; exact hY0
              have HNS := Lib.hid hns
              clear hns hY0
              go_wp2_with (first
                | (go_at_call 22; refine (HP0.out _).mono ?_; rintro E w' ⟨rfl, rfl⟩)
                | (go_at_call 22; refine (HP1.out _).mono ?_; rintro E w' ⟨rfl, rfl⟩)
                | (go_at_call 37; refine (HS0.out _).mono ?_; rintro E w' ⟨rfl, rfl⟩)
                | (go_at_call 37; refine (HS1.out _).mono ?_; rintro E w' ⟨rfl, rfl⟩)
                | (go_at_call 38; refine (HVAL.out _ HBW.out).mono ?_; rintro E w5 ⟨rfl, hb5⟩; have hg5 : g < w5.heap.size := Nat.lt_of_lt_of_le (World.block_lt_of_cell? _ _ HLS.out.x2) hb5.size; have HB5 := Lib.hid (HBW.out.trans (hb5.mono HBW.out.size)); clear hb5)
                | (go_at_call 8; refine (fault_c (i : Int) Y g _ hg5).mono ?_; rintro E wf ⟨v, rfl, hf, hd⟩; have HF := Lib.hid (And.intro hf hd); clear hf hd))
              go_ret
              rw [← HNS.out]
              exact ⟨_, rfl, HF.out.1, HB5.out.trans (HF.out.2.mono HB5.out.size)⟩

          · have hn01 : ¬ (hpB T ⟨#[48, 98]⟩ = true ∧ 2 < T.size) := fun h => hlen h.2
            have q9 : ((2 : Int) < (T.size : Int)) = False := eq_false (by omega)
            have q8 : (2 < T.size) = False := eq_false hlen
            cases hb2 : hsB T ⟨#[98]⟩ with
            | true =>
              rw [hb2] at hs0
              have HP0 := Lib.hid hp0
              have HP1 := Lib.hid hp1
              have HS0 := Lib.hid hs0
              have HS1 := Lib.hid hs1
              clear hp0 hp1 hs0 hs1
              have hF : numF T = (2, T.extract 0 (T.size - 1), 10, false) := by unfold numF; rw [if_neg (by rw [hb0]; decide), if_neg hn01, if_pos hb2]
              rw [hF] at hns
              dsimp only at hns
              obtain ⟨n1, hn1'⟩ : ∃ n1, T.size - 1 = n1 := ⟨_, rfl⟩
              rw [hn1'] at hns
              have wn : IntKind.i64.wrap ((n : Int) - 1) = (n1 : Int) := by rw [IntKind.wrap_i64]; have := HT.out.1; omega
              have kn : n1 ≤ T.size := by omega
              obtain ⟨D, hDe⟩ : ∃ D, T.extract 0 n1 = D := ⟨_, rfl⟩
              have hDs : D.size ≤ 281474976710656 := by rw [← hDe, ByteArray.size_extract]; omega
              have hDw : D.data.toList.all wordB = true := by rw [← hDe]; exact all_ext T 0 n1 HT.out.2.1
              rw [hDe] at hns
              have hls := HL.out.set 0 (.int .i64 2) ⟨2, (i : Int), (e : Int), T, 0, false⟩ (by decide) rfl
              rw [HM.out.1] at hls
              have hls2 : LST w g s e l ⟨2, (i : Int), (e : Int), T, 0, false⟩ b cp (w4.setCell ⟨b, m * 6, none⟩ (.int .i64 2)) := hls
              have HBW := Lib.hid hls2.c.b
              have HLS := Lib.hid hls2
              clear hls hls2
              clear hF hw4' hGG hT2' hgg
              have hval := fun (w' : World) (hb : Below w.heap.size w w') => value_c D 10 (by decide) hDs (by first | exact .inl rfl | exact .inr hDw) w' (Glob.step HH.out.1 hb).2.2.2.1 (Glob.step HH.out.1 hb).2.2.2.2
              obtain ⟨V, hV⟩ : ∃ V, (valS D.data.toList 10).1 = V := ⟨_, rfl⟩
              obtain ⟨Y, hY⟩ : ∃ Y, (valS D.data.toList 10).2 = Y := ⟨_, rfl⟩
              rw [hV, hY] at hval
              rw [hV, hY] at hns
              have HVAL := Lib.hid hval
              clear hval hV hY hDs hDw
              by_cases hY0 : Y = 0
              · subst hY0
                rw [if_neg (by decide)] at hns
                have y0 : ((0 : Int) != 0) = false := rfl
                have HNS := Lib.hid hns
                clear hns
                go_wp2_with (first
                  | (go_at_call 22; refine (HP0.out _).mono ?_; rintro E w' ⟨rfl, rfl⟩)
                  | (go_at_call 22; refine (HP1.out _).mono ?_; rintro E w' ⟨rfl, rfl⟩)
                  | (go_at_call 37; refine (HS0.out _).mono ?_; rintro E w' ⟨rfl, rfl⟩)
                  | (go_at_call 37; refine (HS1.out _).mono ?_; rintro E w' ⟨rfl, rfl⟩)
                  | (go_at_call 38; refine (HVAL.out _ HBW.out).mono ?_; rintro E w5 ⟨rfl, hb5⟩; have hl5 := HLS.out.below hb5; have l4 := hl5.cell 4 _ rfl; have z4 := hl5.frz (l.length * 6 + 4); rw [HM.out.1] at l4 z4; have HL5 := Lib.hid hl5; clear hb5 hl5))
                go_ret
                rw [← HNS.out]
                have hfin := HL5.out.set 4 (.int .u64 V) ⟨2, (i : Int), (e : Int), T, V, false⟩ (by decide) rfl
                rw [HM.out.1] at hfin
                exact ⟨rfl, hfin.c⟩
              · rw [if_pos hY0] at hns
                have y0 : (Y != 0) = true := by rw [bne_iff_ne]; exact hY0
                have HNS := Lib.hid hns
                clear hns hY0
                go_wp2_with (first
                  | (go_at_call 22; refine (HP0.out _).mono ?_; rintro E w' ⟨rfl, rfl⟩)
                  | (go_at_call 22; refine (HP1.out _).mono ?_; rintro E w' ⟨rfl, rfl⟩)
                  | (go_at_call 37; refine (HS0.out _).mono ?_; rintro E w' ⟨rfl, rfl⟩)
                  | (go_at_call 37; refine (HS1.out _).mono ?_; rintro E w' ⟨rfl, rfl⟩)
                  | (go_at_call 38; refine (HVAL.out _ HBW.out).mono ?_; rintro E w5 ⟨rfl, hb5⟩; have hg5 : g < w5.heap.size := Nat.lt_of_lt_of_le (World.block_lt_of_cell? _ _ HLS.out.x2) hb5.size; have HB5 := Lib.hid (HBW.out.trans (hb5.mono HBW.out.size)); clear hb5)
                  | (go_at_call 8; refine (fault_c (i : Int) Y g _ hg5).mono ?_; rintro E wf ⟨v, rfl, hf, hd⟩; have HF := Lib.hid (And.intro hf hd); clear hf hd))
                go_ret
                rw [← HNS.out]
                exact ⟨_, rfl, HF.out.1, HB5.out.trans (HF.out.2.mono HB5.out.size)⟩

            | false =>
              rw [hb2] at hs0
              cases hb3 : hsB T ⟨#[102]⟩ with
              | true =>
                rw [hb3] at hs1
                have HP0 := Lib.hid hp0
                have HP1 := Lib.hid hp1
                have HS0 := Lib.hid hs0
                have HS1 := Lib.hid hs1
                clear hp0 hp1 hs0 hs1
                have hF : numF T = (3, T.extract 0 (T.size - 1), 10, false) := by unfold numF; rw [if_neg (by rw [hb0]; decide), if_neg hn01, if_neg (by rw [hb2]; decide), if_pos hb3]
                rw [hF] at hns
                dsimp only at hns
                obtain ⟨n1, hn1'⟩ : ∃ n1, T.size - 1 = n1 := ⟨_, rfl⟩
                rw [hn1'] at hns
                have wn : IntKind.i64.wrap ((n : Int) - 1) = (n1 : Int) := by rw [IntKind.wrap_i64]; have := HT.out.1; omega
                have kn : n1 ≤ T.size := by omega
                obtain ⟨D, hDe⟩ : ∃ D, T.extract 0 n1 = D := ⟨_, rfl⟩
                have hDs : D.size ≤ 281474976710656 := by rw [← hDe, ByteArray.size_extract]; omega
                have hDw : D.data.toList.all wordB = true := by rw [← hDe]; exact all_ext T 0 n1 HT.out.2.1
                rw [hDe] at hns
                have hls := HL.out.set 0 (.int .i64 3) ⟨3, (i : Int), (e : Int), T, 0, false⟩ (by decide) rfl
                rw [HM.out.1] at hls
                have hls2 : LST w g s e l ⟨3, (i : Int), (e : Int), T, 0, false⟩ b cp (w4.setCell ⟨b, m * 6, none⟩ (.int .i64 3)) := hls
                have HBW := Lib.hid hls2.c.b
                have HLS := Lib.hid hls2
                clear hls hls2
                clear hF hw4' hGG hT2' hgg
                have hval := fun (w' : World) (hb : Below w.heap.size w w') => value_c D 10 (by decide) hDs (by first | exact .inl rfl | exact .inr hDw) w' (Glob.step HH.out.1 hb).2.2.2.1 (Glob.step HH.out.1 hb).2.2.2.2
                obtain ⟨V, hV⟩ : ∃ V, (valS D.data.toList 10).1 = V := ⟨_, rfl⟩
                obtain ⟨Y, hY⟩ : ∃ Y, (valS D.data.toList 10).2 = Y := ⟨_, rfl⟩
                rw [hV, hY] at hval
                rw [hV, hY] at hns
                have HVAL := Lib.hid hval
                clear hval hV hY hDs hDw
                by_cases hY0 : Y = 0
                · subst hY0
                  rw [if_neg (by decide)] at hns
                  have y0 : ((0 : Int) != 0) = false := rfl
                  have HNS := Lib.hid hns
                  clear hns
                  go_wp2_with (first
                    | (go_at_call 22; refine (HP0.out _).mono ?_; rintro E w' ⟨rfl, rfl⟩)
                    | (go_at_call 22; refine (HP1.out _).mono ?_; rintro E w' ⟨rfl, rfl⟩)
                    | (go_at_call 37; refine (HS0.out _).mono ?_; rintro E w' ⟨rfl, rfl⟩)
                    | (go_at_call 37; refine (HS1.out _).mono ?_; rintro E w' ⟨rfl, rfl⟩)
                    | (go_at_call 38; refine (HVAL.out _ HBW.out).mono ?_; rintro E w5 ⟨rfl, hb5⟩; have hl5 := HLS.out.below hb5; have l4 := hl5.cell 4 _ rfl; have z4 := hl5.frz (l.length * 6 + 4); rw [HM.out.1] at l4 z4; have HL5 := Lib.hid hl5; clear hb5 hl5))
                  go_ret
                  rw [← HNS.out]
                  have hfin := HL5.out.set 4 (.int .u64 V) ⟨3, (i : Int), (e : Int), T, V, false⟩ (by decide) rfl
                  rw [HM.out.1] at hfin
                  exact ⟨rfl, hfin.c⟩
                · rw [if_pos hY0] at hns
                  have y0 : (Y != 0) = true := by rw [bne_iff_ne]; exact hY0
                  have HNS := Lib.hid hns
                  clear hns hY0
                  go_wp2_with (first
                    | (go_at_call 22; refine (HP0.out _).mono ?_; rintro E w' ⟨rfl, rfl⟩)
                    | (go_at_call 22; refine (HP1.out _).mono ?_; rintro E w' ⟨rfl, rfl⟩)
                    | (go_at_call 37; refine (HS0.out _).mono ?_; rintro E w' ⟨rfl, rfl⟩)
                    | (go_at_call 37; refine (HS1.out _).mono ?_; rintro E w' ⟨rfl, rfl⟩)
                    | (go_at_call 38; refine (HVAL.out _ HBW.out).mono ?_; rintro E w5 ⟨rfl, hb5⟩; have hg5 : g < w5.heap.size := Nat.lt_of_lt_of_le (World.block_lt_of_cell? _ _ HLS.out.x2) hb5.size; have HB5 := Lib.hid (HBW.out.trans (hb5.mono HBW.out.size)); clear hb5)
                    | (go_at_call 8; refine (fault_c (i : Int) Y g _ hg5).mono ?_; rintro E wf ⟨v, rfl, hf, hd⟩; have HF := Lib.hid (And.intro hf hd); clear hf hd))
                  go_ret
                  rw [← HNS.out]
                  exact ⟨_, rfl, HF.out.1, HB5.out.trans (HF.out.2.mono HB5.out.size)⟩

              | false =>
                rw [hb3] at hs1
                have HP0 := Lib.hid hp0
                have HP1 := Lib.hid hp1
                have HS0 := Lib.hid hs0
                have HS1 := Lib.hid hs1
                clear hp0 hp1 hs0 hs1
                have hF : numF T = (1, T, 10, true) := by unfold numF; rw [if_neg (by rw [hb0]; decide), if_neg hn01, if_neg (by rw [hb2]; decide), if_neg (by rw [hb3]; decide)]
                rw [hF] at hns
                dsimp only at hns
                have hDs : T.size ≤ 281474976710656 := by omega
                have hDw : T.data.toList.all wordB = true := HT.out.2.1
                have hls := HL.out.set 5 (.bool true) ⟨1, (i : Int), (e : Int), T, 0, true⟩ (by decide) rfl
                rw [HM.out.1] at hls
                have HBW := Lib.hid hls.c.b
                have HLS := Lib.hid hls
                clear hls
                clear hF hw4' hGG hT2' hgg
                have hval := fun (w' : World) (hb : Below w.heap.size w w') => value_c T 10 (by decide) hDs (by first | exact .inl rfl | exact .inr hDw) w' (Glob.step HH.out.1 hb).2.2.2.1 (Glob.step HH.out.1 hb).2.2.2.2
                obtain ⟨V, hV⟩ : ∃ V, (valS T.data.toList 10).1 = V := ⟨_, rfl⟩
                obtain ⟨Y, hY⟩ : ∃ Y, (valS T.data.toList 10).2 = Y := ⟨_, rfl⟩
                rw [hV, hY] at hval
                rw [hV, hY] at hns
                have HVAL := Lib.hid hval
                clear hval hV hY hDs hDw
                by_cases hY0 : Y = 0
                · subst hY0
                  rw [if_neg (by decide)] at hns
                  have y0 : ((0 : Int) != 0) = false := rfl
                  have HNS := Lib.hid hns
                  clear hns
                  go_wp2_with (first
                    | (go_at_call 22; refine (HP0.out _).mono ?_; rintro E w' ⟨rfl, rfl⟩)
                    | (go_at_call 22; refine (HP1.out _).mono ?_; rintro E w' ⟨rfl, rfl⟩)
                    | (go_at_call 37; refine (HS0.out _).mono ?_; rintro E w' ⟨rfl, rfl⟩)
                    | (go_at_call 37; refine (HS1.out _).mono ?_; rintro E w' ⟨rfl, rfl⟩)
                    | (go_at_call 38; refine (HVAL.out _ HBW.out).mono ?_; rintro E w5 ⟨rfl, hb5⟩; have hl5 := HLS.out.below hb5; have l4 := hl5.cell 4 _ rfl; have z4 := hl5.frz (l.length * 6 + 4); rw [HM.out.1] at l4 z4; have HL5 := Lib.hid hl5; clear hb5 hl5))
                  go_ret
                  rw [← HNS.out]
                  have hfin := HL5.out.set 4 (.int .u64 V) ⟨1, (i : Int), (e : Int), T, V, true⟩ (by decide) rfl
                  rw [HM.out.1] at hfin
                  exact ⟨rfl, hfin.c⟩
                · rw [if_pos hY0] at hns
                  have y0 : (Y != 0) = true := by rw [bne_iff_ne]; exact hY0
                  have HNS := Lib.hid hns
                  clear hns hY0
                  go_wp2_with (first
                    | (go_at_call 22; refine (HP0.out _).mono ?_; rintro E w' ⟨rfl, rfl⟩)
                    | (go_at_call 22; refine (HP1.out _).mono ?_; rintro E w' ⟨rfl, rfl⟩)
                    | (go_at_call 37; refine (HS0.out _).mono ?_; rintro E w' ⟨rfl, rfl⟩)
                    | (go_at_call 37; refine (HS1.out _).mono ?_; rintro E w' ⟨rfl, rfl⟩)
                    | (go_at_call 38; refine (HVAL.out _ HBW.out).mono ?_; rintro E w5 ⟨rfl, hb5⟩; have hg5 : g < w5.heap.size := Nat.lt_of_lt_of_le (World.block_lt_of_cell? _ _ HLS.out.x2) hb5.size; have HB5 := Lib.hid (HBW.out.trans (hb5.mono HBW.out.size)); clear hb5)
                    | (go_at_call 8; refine (fault_c (i : Int) Y g _ hg5).mono ?_; rintro E wf ⟨v, rfl, hf, hd⟩; have HF := Lib.hid (And.intro hf hd); clear hf hd))
                  go_ret
                  rw [← HNS.out]
                  exact ⟨_, rfl, HF.out.1, HB5.out.trans (HF.out.2.mono HB5.out.size)⟩


        | false =>
          rw [hb1] at hp1
          have hn01 : ¬ (hpB T ⟨#[48, 98]⟩ = true ∧ 2 < T.size) := fun h => by rw [hb1] at h; exact absurd h.1 (by decide)
          cases hb2 : hsB T ⟨#[98]⟩ with
          | true =>
            rw [hb2] at hs0
            have HP0 := Lib.hid hp0
            have HP1 := Lib.hid hp1
            have HS0 := Lib.hid hs0
            have HS1 := Lib.hid hs1
            clear hp0 hp1 hs0 hs1
            have hF : numF T = (2, T.extract 0 (T.size - 1), 10, false) := by unfold numF; rw [if_neg (by rw [hb0]; decide), if_neg hn01, if_pos hb2]
            rw [hF] at hns
            dsimp only at hns
            obtain ⟨n1, hn1'⟩ : ∃ n1, T.size - 1 = n1 := ⟨_, rfl⟩
            rw [hn1'] at hns
            have wn : IntKind.i64.wrap ((n : Int) - 1) = (n1 : Int) := by rw [IntKind.wrap_i64]; have := HT.out.1; omega
            have kn : n1 ≤ T.size := by omega
            obtain ⟨D, hDe⟩ : ∃ D, T.extract 0 n1 = D := ⟨_, rfl⟩
            have hDs : D.size ≤ 281474976710656 := by rw [← hDe, ByteArray.size_extract]; omega
            have hDw : D.data.toList.all wordB = true := by rw [← hDe]; exact all_ext T 0 n1 HT.out.2.1
            rw [hDe] at hns
            have hls := HL.out.set 0 (.int .i64 2) ⟨2, (i : Int), (e : Int), T, 0, false⟩ (by decide) rfl
            rw [HM.out.1] at hls
            have hls2 : LST w g s e l ⟨2, (i : Int), (e : Int), T, 0, false⟩ b cp (w4.setCell ⟨b, m * 6, none⟩ (.int .i64 2)) := hls
            have HBW := Lib.hid hls2.c.b
            have HLS := Lib.hid hls2
            clear hls hls2
            clear hF hw4' hGG hT2' hgg
            have hval := fun (w' : World) (hb : Below w.heap.size w w') => value_c D 10 (by decide) hDs (by first | exact .inl rfl | exact .inr hDw) w' (Glob.step HH.out.1 hb).2.2.2.1 (Glob.step HH.out.1 hb).2.2.2.2
            obtain ⟨V, hV⟩ : ∃ V, (valS D.data.toList 10).1 = V := ⟨_, rfl⟩
            obtain ⟨Y, hY⟩ : ∃ Y, (valS D.data.toList 10).2 = Y := ⟨_, rfl⟩
            rw [hV, hY] at hval
            rw [hV, hY] at hns
            have HVAL := Lib.hid hval
            clear hval hV hY hDs hDw
            by_cases hY0 : Y = 0
            · subst hY0
              rw [if_neg (by decide)] at hns
              have y0 : ((0 : Int) != 0) = false := rfl
              have HNS := Lib.hid hns
              clear hns
              go_wp2_with (first
                | (go_at_call 22; refine (HP0.out _).mono ?_; rintro E w' ⟨rfl, rfl⟩)
                | (go_at_call 22; refine (HP1.out _).mono ?_; rintro E w' ⟨rfl, rfl⟩)
                | (go_at_call 37; refine (HS0.out _).mono ?_; rintro E w' ⟨rfl, rfl⟩)
                | (go_at_call 37; refine (HS1.out _).mono ?_; rintro E w' ⟨rfl, rfl⟩)
                | (go_at_call 38; refine (HVAL.out _ HBW.out).mono ?_; rintro E w5 ⟨rfl, hb5⟩; have hl5 := HLS.out.below hb5; have l4 := hl5.cell 4 _ rfl; have z4 := hl5.frz (l.length * 6 + 4); rw [HM.out.1] at l4 z4; have HL5 := Lib.hid hl5; clear hb5 hl5))
              go_ret
              rw [← HNS.out]
              have hfin := HL5.out.set 4 (.int .u64 V) ⟨2, (i : Int), (e : Int), T, V, false⟩ (by decide) rfl
              rw [HM.out.1] at hfin
              exact ⟨rfl, hfin.c⟩
            · rw [if_pos hY0] at hns
              have y0 : (Y != 0) = true := by rw [bne_iff_ne]; exact hY0
              have HNS := Lib.hid hns
              clear hns hY0
              go_wp2_with (first
                | (go_at_call 22; refine (HP0.out _).mono ?_; rintro E w' ⟨rfl, rfl⟩)
                | (go_at_call 22; refine (HP1.out _).mono ?_; rintro E w' ⟨rfl, rfl⟩)
                | (go_at_call 37; refine (HS0.out _).mono ?_; rintro E w' ⟨rfl, rfl⟩)
                | (go_at_call 37; refine (HS1.out _).mono ?_; rintro E w' ⟨rfl, rfl⟩)
                | (go_at_call 38; refine (HVAL.out _ HBW.out).mono ?_; rintro E w5 ⟨rfl, hb5⟩; have hg5 : g < w5.heap.size := Nat.lt_of_lt_of_le (World.block_lt_of_cell? _ _ HLS.out.x2) hb5.size; have HB5 := Lib.hid (HBW.out.trans (hb5.mono HBW.out.size)); clear hb5)
                | (go_at_call 8; refine (fault_c (i : Int) Y g _ hg5).mono ?_; rintro E wf ⟨v, rfl, hf, hd⟩; have HF := Lib.hid (And.intro hf hd); clear hf hd))
              go_ret
              rw [← HNS.out]
              exact ⟨_, rfl, HF.out.1, HB5.out.trans (HF.out.2.mono HB5.out.size)⟩

          | false =>
            rw [hb2] at hs0
            cases hb3 : hsB T ⟨#[102]⟩ with
            | true =>
              rw [hb3] at hs1
              have HP0 := Lib.hid hp0
              have HP1 := Lib.hid hp1
              have HS0 := Lib.hid hs0
              have HS1 := Lib.hid hs1
              clear hp0 hp1 hs0 hs1
              have hF : numF T = (3, T.extract 0 (T.size - 1), 10, false) := by unfold numF; rw [if_neg (by rw [hb0]; decide), if_neg hn01, if_neg (by rw [hb2]; decide), if_pos hb3]
              rw [hF] at hns
              dsimp only at hns
              obtain ⟨n1, hn1'⟩ : ∃ n1, T.size - 1 = n1 := ⟨_, rfl⟩
              rw [hn1'] at hns
              have wn : IntKind.i64.wrap ((n : Int) - 1) = (n1 : Int) := by rw [IntKind.wrap_i64]; have := HT.out.1; omega
              have kn : n1 ≤ T.size := by omega
              obtain ⟨D, hDe⟩ : ∃ D, T.extract 0 n1 = D := ⟨_, rfl⟩
              have hDs : D.size ≤ 281474976710656 := by rw [← hDe, ByteArray.size_extract]; omega
              have hDw : D.data.toList.all wordB = true := by rw [← hDe]; exact all_ext T 0 n1 HT.out.2.1
              rw [hDe] at hns
              have hls := HL.out.set 0 (.int .i64 3) ⟨3, (i : Int), (e : Int), T, 0, false⟩ (by decide) rfl
              rw [HM.out.1] at hls
              have hls2 : LST w g s e l ⟨3, (i : Int), (e : Int), T, 0, false⟩ b cp (w4.setCell ⟨b, m * 6, none⟩ (.int .i64 3)) := hls
              have HBW := Lib.hid hls2.c.b
              have HLS := Lib.hid hls2
              clear hls hls2
              clear hF hw4' hGG hT2' hgg
              have hval := fun (w' : World) (hb : Below w.heap.size w w') => value_c D 10 (by decide) hDs (by first | exact .inl rfl | exact .inr hDw) w' (Glob.step HH.out.1 hb).2.2.2.1 (Glob.step HH.out.1 hb).2.2.2.2
              obtain ⟨V, hV⟩ : ∃ V, (valS D.data.toList 10).1 = V := ⟨_, rfl⟩
              obtain ⟨Y, hY⟩ : ∃ Y, (valS D.data.toList 10).2 = Y := ⟨_, rfl⟩
              rw [hV, hY] at hval
              rw [hV, hY] at hns
              have HVAL := Lib.hid hval
              clear hval hV hY hDs hDw
              by_cases hY0 : Y = 0
              · subst hY0
                rw [if_neg (by decide)] at hns
                have y0 : ((0 : Int) != 0) = false := rfl
                have HNS := Lib.hid hns
                clear hns
                go_wp2_with (first
                  | (go_at_call 22; refine (HP0.out _).mono ?_; rintro E w' ⟨rfl, rfl⟩)
                  | (go_at_call 22; refine (HP1.out _).mono ?_; rintro E w' ⟨rfl, rfl⟩)
                  | (go_at_call 37; refine (HS0.out _).mono ?_; rintro E w' ⟨rfl, rfl⟩)
                  | (go_at_call 37; refine (HS1.out _).mono ?_; rintro E w' ⟨rfl, rfl⟩)
                  | (go_at_call 38; refine (HVAL.out _ HBW.out).mono ?_; rintro E w5 ⟨rfl, hb5⟩; have hl5 := HLS.out.below hb5; have l4 := hl5.cell 4 _ rfl; have z4 := hl5.frz (l.length * 6 + 4); rw [HM.out.1] at l4 z4; have HL5 := Lib.hid hl5; clear hb5 hl5))
                go_ret
                rw [← HNS.out]
                have hfin := HL5.out.set 4 (.int .u64 V) ⟨3, (i : Int), (e : Int), T, V, false⟩ (by decide) rfl
                rw [HM.out.1] at hfin
                exact ⟨rfl, hfin.c⟩
              · rw [if_pos hY0] at hns
                have y0 : (Y != 0) = true := by rw [bne_iff_ne]; exact hY0
                have HNS := Lib.hid hns
                clear hns hY0
                go_wp2_with (first
                  | (go_at_call 22; refine (HP0.out _).mono ?_; rintro E w' ⟨rfl, rfl⟩)
                  | (go_at_call 22; refine (HP1.out _).mono ?_; rintro E w' ⟨rfl, rfl⟩)
                  | (go_at_call 37; refine (HS0.out _).mono ?_; rintro E w' ⟨rfl, rfl⟩)
                  | (go_at_call 37; refine (HS1.out _).mono ?_; rintro E w' ⟨rfl, rfl⟩)
                  | (go_at_call 38; refine (HVAL.out _ HBW.out).mono ?_; rintro E w5 ⟨rfl, hb5⟩; have hg5 : g < w5.heap.size := Nat.lt_of_lt_of_le (World.block_lt_of_cell? _ _ HLS.out.x2) hb5.size; have HB5 := Lib.hid (HBW.out.trans (hb5.mono HBW.out.size)); clear hb5)
                  | (go_at_call 8; refine (fault_c (i : Int) Y g _ hg5).mono ?_; rintro E wf ⟨v, rfl, hf, hd⟩; have HF := Lib.hid (And.intro hf hd); clear hf hd))
                go_ret
                rw [← HNS.out]
                exact ⟨_, rfl, HF.out.1, HB5.out.trans (HF.out.2.mono HB5.out.size)⟩

            | false =>
              rw [hb3] at hs1
              have HP0 := Lib.hid hp0
              have HP1 := Lib.hid hp1
              have HS0 := Lib.hid hs0
              have HS1 := Lib.hid hs1
              clear hp0 hp1 hs0 hs1
              have hF : numF T = (1, T, 10, true) := by unfold numF; rw [if_neg (by rw [hb0]; decide), if_neg hn01, if_neg (by rw [hb2]; decide), if_neg (by rw [hb3]; decide)]
              rw [hF] at hns
              dsimp only at hns
              have hDs : T.size ≤ 281474976710656 := by omega
              have hDw : T.data.toList.all wordB = true := HT.out.2.1
              have hls := HL.out.set 5 (.bool true) ⟨1, (i : Int), (e : Int), T, 0, true⟩ (by decide) rfl
              rw [HM.out.1] at hls
              have HBW := Lib.hid hls.c.b
              have HLS := Lib.hid hls
              clear hls
              clear hF hw4' hGG hT2' hgg
              have hval := fun (w' : World) (hb : Below w.heap.size w w') => value_c T 10 (by decide) hDs (by first | exact .inl rfl | exact .inr hDw) w' (Glob.step HH.out.1 hb).2.2.2.1 (Glob.step HH.out.1 hb).2.2.2.2
              obtain ⟨V, hV⟩ : ∃ V, (valS T.data.toList 10).1 = V := ⟨_, rfl⟩
              obtain ⟨Y, hY⟩ : ∃ Y, (valS T.data.toList 10).2 = Y := ⟨_, rfl⟩
              rw [hV, hY] at hval
              rw [hV, hY] at hns
              have HVAL := Lib.hid hval
              clear hval hV hY hDs hDw
              by_cases hY0 : Y = 0
              · subst hY0
                rw [if_neg (by decide)] at hns
                have y0 : ((0 : Int) != 0) = false := rfl
                have HNS := Lib.hid hns
                clear hns
                go_wp2_with (first
                  | (go_at_call 22; refine (HP0.out _).mono ?_; rintro E w' ⟨rfl, rfl⟩)
                  | (go_at_call 22; refine (HP1.out _).mono ?_; rintro E w' ⟨rfl, rfl⟩)
                  | (go_at_call 37; refine (HS0.out _).mono ?_; rintro E w' ⟨rfl, rfl⟩)
                  | (go_at_call 37; refine (HS1.out _).mono ?_; rintro E w' ⟨rfl, rfl⟩)
                  | (go_at_call 38; refine (HVAL.out _ HBW.out).mono ?_; rintro E w5 ⟨rfl, hb5⟩; have hl5 := HLS.out.below hb5; have l4 := hl5.cell 4 _ rfl; have z4 := hl5.frz (l.length * 6 + 4); rw [HM.out.1] at l4 z4; have HL5 := Lib.hid hl5; clear hb5 hl5))
                go_ret
                rw [← HNS.out]
                have hfin := HL5.out.set 4 (.int .u64 V) ⟨1, (i : Int), (e : Int), T, V, true⟩ (by decide) rfl
                rw [HM.out.1] at hfin
                exact ⟨rfl, hfin.c⟩
              · rw [if_pos hY0] at hns
                have y0 : (Y != 0) = true := by rw [bne_iff_ne]; exact hY0
                have HNS := Lib.hid hns
                clear hns hY0
                go_wp2_with (first
                  | (go_at_call 22; refine (HP0.out _).mono ?_; rintro E w' ⟨rfl, rfl⟩)
                  | (go_at_call 22; refine (HP1.out _).mono ?_; rintro E w' ⟨rfl, rfl⟩)
                  | (go_at_call 37; refine (HS0.out _).mono ?_; rintro E w' ⟨rfl, rfl⟩)
                  | (go_at_call 37; refine (HS1.out _).mono ?_; rintro E w' ⟨rfl, rfl⟩)
                  | (go_at_call 38; refine (HVAL.out _ HBW.out).mono ?_; rintro E w5 ⟨rfl, hb5⟩; have hg5 : g < w5.heap.size := Nat.lt_of_lt_of_le (World.block_lt_of_cell? _ _ HLS.out.x2) hb5.size; have HB5 := Lib.hid (HBW.out.trans (hb5.mono HBW.out.size)); clear hb5)
                  | (go_at_call 8; refine (fault_c (i : Int) Y g _ hg5).mono ?_; rintro E wf ⟨v, rfl, hf, hd⟩; have HF := Lib.hid (And.intro hf hd); clear hf hd))
                go_ret
                rw [← HNS.out]
                exact ⟨_, rfl, HF.out.1, HB5.out.trans (HF.out.2.mono HB5.out.size)⟩



end Go.Proofs.YtbmnifnahbehbaaGreatDoor
