/- The document's Proper: a Cpu such as can be. -/
import Derived.Test.YtbmnifnahbehbaaDoorPGr2
import Derived.Laws.BitsAllLaws
import Derived.Test.YtbmnifnahbehbaaDoorPGr1
import Derived.Test.YtbmnifnahbehbaaDoorPPrx5
set_option linter.unusedVariables false
namespace Go.Proofs.YtbmnifnahbehbaaDoor
open Go.RowKit Go.Lib Go.Proofs.YtbmnifnahbehbaaDoorW.PrintWords Go.Proofs.YtbmnifnahbehbaaDoorW.PrintMore Go.Proofs.YtbmnifnahbehbaaDoorW.PrintLast
open PPr
theorem and_mpp (a : Nat) : a &&& 6144 = ((a >>> 11) % 4) <<< 11 := by
  have e : (a >>> 11) % 4 = (a >>> 11) &&& 3 := (Nat.and_two_pow_sub_one_eq_mod (a >>> 11) 2).symm
  rw [e]
  apply Nat.eq_of_testBit_eq
  intro j
  rw [show (6144 : Nat) = 3 <<< 11 by decide, Nat.testBit_and, Nat.testBit_shiftLeft, Nat.testBit_shiftLeft, Nat.testBit_and, Nat.testBit_shiftRight]
  by_cases h : j ≥ 11
  · rw [show 11 + (j - 11) = j by omega]
    simp [h]
  · simp [h]
theorem stat_eq (n : Int) (h0 : 0 ≤ n) (h1 : n < 18446744073709551616) : anvilref09_Status.f n = some (statS n) := by
  obtain ⟨a, rfl⟩ := Int.eq_ofNat_of_zero_le h0
  have ha : a < 18446744073709551616 := by omega
  have hle : ∀ b, a &&& b ≤ a := fun b => Nat.and_le_left
  have e1 : bits .and .u64 (a : Int) 2234504 = ((a &&& 2234504 : Nat) : Int) := u64_and_nat a 2234504 ha (by decide)
  have e2 : bits .and .u64 (a : Int) 2228360 = ((a &&& 2228360 : Nat) : Int) := u64_and_nat a 2228360 ha (by decide)
  have e3 : bits .and .u64 (a : Int) 6144 = ((a &&& 6144 : Nat) : Int) := u64_and_nat a 6144 ha (by decide)
  obtain ⟨r, hr⟩ : ∃ r, (a >>> 11) % 4 = r := ⟨_, rfl⟩
  have hr4 : r < 4 := by omega
  have em := and_mpp a
  rw [hr] at em
  have hA := hle 2234504
  have e4 : (((a &&& 2234504 : Nat) : Int)) / (2048 : Int) = (((a &&& 2234504) >>> 11 : Nat) : Int) := by rw [Nat.shiftRight_eq_div_pow]; omega
  have hs : (a &&& 2234504) >>> 11 ≤ a &&& 2234504 := by rw [Nat.shiftRight_eq_div_pow]; exact Nat.div_le_self _ _
  have e5 : bits .and .u64 (((a &&& 2234504) >>> 11 : Nat) : Int) 3 = (((a &&& 2234504) >>> 11 &&& 3 : Nat) : Int) := u64_and_nat _ 3 (by omega) (by decide)
  have e6 : (a &&& 2234504) >>> 11 &&& 3 = r := by
    rw [Nat.shiftRight_and_distrib, Nat.and_assoc, show 2234504 >>> 11 &&& 3 = 3 by decide, ← hr]
    exact Nat.and_two_pow_sub_one_eq_mod (a >>> 11) 2
  have e7 : bits .andNot .u64 ((a &&& 2234504 : Nat) : Int) 6144 = ((a &&& 2228360 : Nat) : Int) := by
    have h := u64_andNot_nat (a &&& 2234504) 6144 (by omega) (by decide)
    rw [Nat.and_assoc, show 2234504 &&& (18446744073709551615 - 6144) = 2228360 by decide] at h
    exact h
  have e8 : a &&& 2234504 = (a &&& 2228360) ||| (a &&& 6144) := by rw [← Nat.and_or_distrib_left, show 2228360 ||| 6144 = 2234504 by decide]
  have hB := hle 2228360
  have e9 : bits .or .u64 ((a &&& 2228360 : Nat) : Int) 0 = ((a &&& 2228360 : Nat) : Int) := by
    have h := u64_or_nat (a &&& 2228360) 0 (by omega) (by decide)
    rw [Nat.or_zero] at h
    exact h
  unfold anvilref09_Status.f statS mppS
  rw [e1, e2, e3, e4, e5, e6, e7]
  obtain rfl | rfl | rfl | rfl : r = 0 ∨ r = 1 ∨ r = 2 ∨ r = 3 := by omega
  · rw [if_neg (by decide), if_neg (by decide), if_neg (by rw [em]; decide), e9, e8, em]
    rw [show (0 : Nat) <<< 11 = 0 by decide, Nat.or_zero]
  · rw [if_pos (by decide), if_neg (by rw [em]; decide), e9]
  · rw [if_neg (by decide), if_pos (by decide), if_neg (by rw [em]; decide), e9]
  · rw [if_neg (by decide), if_neg (by decide), if_pos (by rw [em]; decide), e8, em]
    have h := u64_or_nat (a &&& 2228360) 6144 (by omega) (by decide)
    rw [show (3 : Nat) <<< 11 = 6144 by decide]
    have h2 : bits .or .u64 ((a &&& 2228360 : Nat) : Int) 6144 = ((a &&& 2228360 ||| 6144 : Nat) : Int) := h
    rw [h2]
theorem and_pow (a k : Nat) (ha : a < 18446744073709551616) (hk : k < 64) : bits .and .u64 (a : Int) ((2 ^ k - 1 : Nat) : Int) = ((a % 2 ^ k : Nat) : Int) := by
  rw [u64_and_nat a (2 ^ k - 1) ha (by have := Nat.pow_lt_pow_right (a := 2) (by decide) hk; omega), Nat.and_two_pow_sub_one_eq_mod]
theorem res_cases (c : Cp) (h0 : 0 ≤ c 80) (h1 : c 80 < 18446744073709551616) :
    (¬ resOk c ∧ decide (c 79 ≠ 0) = false) ∨
    (resOk c ∧ decide (c 79 ≠ 0) = true ∧ (c 81 != 4) = false ∧ (c 81 == 8) = false ∧ (c 80 % 8 != 0) = false) ∨
    (resOk c ∧ decide (c 79 ≠ 0) = true ∧ (c 81 != 4) = false ∧ (c 81 == 8) = false ∧ (c 80 % 8 != 0) = true ∧ (c 80 % 4 != 0) = false) ∨
    (¬ resOk c ∧ decide (c 79 ≠ 0) = true ∧ (c 81 != 4) = false ∧ (c 81 == 8) = false ∧ (c 80 % 8 != 0) = true ∧ (c 80 % 4 != 0) = true) ∨
    (resOk c ∧ decide (c 79 ≠ 0) = true ∧ (c 81 != 4) = true ∧ (c 81 != 8) = false ∧ (c 81 == 8) = true ∧ (c 80 % 8 != 0) = false) ∨
    (¬ resOk c ∧ decide (c 79 ≠ 0) = true ∧ (c 81 != 4) = true ∧ (c 81 != 8) = false ∧ (c 81 == 8) = true ∧ (c 80 % 8 != 0) = true) ∨
    (¬ resOk c ∧ decide (c 79 ≠ 0) = true ∧ (c 81 != 4) = true ∧ (c 81 != 8) = true) := by
  obtain ⟨a, ha⟩ : ∃ a : Nat, c 80 = a := ⟨(c 80).toNat, by omega⟩
  rw [ha] at h1 ⊢
  have ha64 : a < 18446744073709551616 := by omega
  have e8 : (a : Int) % 8 = ((a % 8 : Nat) : Int) := by omega
  have e4 : (a : Int) % 4 = ((a % 4 : Nat) : Int) := by omega
  rw [e8, e4]
  by_cases h79 : c 79 ≠ 0
  · have d79 : decide (c 79 ≠ 0) = true := decide_eq_true h79
    by_cases h4 : c 81 = 4
    · have hm : bits .and .u64 (a : Int) (IntKind.u64.wrap (wrap64 (c 81 - 1))) = ((a % 4 : Nat) : Int) := by rw [h4, show IntKind.u64.wrap (wrap64 (4 - 1)) = ((2 ^ 2 - 1 : Nat) : Int) by decide +kernel]; exact and_pow a 2 ha64 (by decide)
      have b4 : (c 81 != 4) = false := bne_eq_false_iff_eq.mpr h4
      have b8 : (c 81 == 8) = false := beq_eq_false_iff_ne.mpr (by omega)
      by_cases m4 : a % 4 = 0
      · have ok : resOk c := ⟨h79, .inl h4, by rw [ha, hm, m4]; rfl⟩
        by_cases m8 : a % 8 = 0
        · exact .inr (.inl ⟨ok, d79, b4, b8, bne_eq_false_iff_eq.mpr (by omega)⟩)
        · exact .inr (.inr (.inl ⟨ok, d79, b4, b8, bne_iff_ne.mpr (by omega), bne_eq_false_iff_eq.mpr (by omega)⟩))
      · have no : ¬ resOk c := fun h => by have := h.2.2; rw [ha, hm] at this; omega
        exact .inr (.inr (.inr (.inl ⟨no, d79, b4, b8, bne_iff_ne.mpr (by omega), bne_iff_ne.mpr (by omega)⟩)))
    · have b4 : (c 81 != 4) = true := bne_iff_ne.mpr h4
      by_cases h8 : c 81 = 8
      · have hm : bits .and .u64 (a : Int) (IntKind.u64.wrap (wrap64 (c 81 - 1))) = ((a % 8 : Nat) : Int) := by rw [h8, show IntKind.u64.wrap (wrap64 (8 - 1)) = ((2 ^ 3 - 1 : Nat) : Int) by decide +kernel]; exact and_pow a 3 ha64 (by decide)
        have b8 : (c 81 != 8) = false := bne_eq_false_iff_eq.mpr h8
        have c8 : (c 81 == 8) = true := beq_iff_eq.mpr h8
        by_cases m8 : a % 8 = 0
        · exact .inr (.inr (.inr (.inr (.inl ⟨⟨h79, .inr h8, by rw [ha, hm, m8]; rfl⟩, d79, b4, b8, c8, bne_eq_false_iff_eq.mpr (by omega)⟩))))
        · exact .inr (.inr (.inr (.inr (.inr (.inl ⟨fun h => by have := h.2.2; rw [ha, hm] at this; omega, d79, b4, b8, c8, bne_iff_ne.mpr (by omega)⟩)))))
      · exact .inr (.inr (.inr (.inr (.inr (.inr ⟨fun h => by rcases h.2.1 with h | h; exact h4 h; exact h8 h, d79, b4, bne_iff_ne.mpr h8⟩)))))
  · exact .inl ⟨fun h => h79 h.1, decide_eq_false h79⟩
theorem status_c {n : Int} (h : 0 ≤ n ∧ n < 18446744073709551616) (w : World) : Calls Tryd.prog 47 #[.int .u64 n] w fun e w' => e = .returned (.int .u64 (statS n)) ∧ Drawn0 w w' :=
  anvilref09_Status.calls n (statS n) w (stat_eq n h.1 h.2)
theorem chain_eq (c : Cp) (i : Nat) : (upd (upd (upd (upd (upd (upd (upd (upd (upd (upd (c) 0 (bits .andNot .u64 (c 0) 1)) 1 (0)) 33 (modeS (c 33))) 35 (statS (c 35))) 36 (bits .andNot .u64 (c 36) 2)) 37 (bits .and .u64 (c 37) 2184)) 38 (bits .and .u64 (c 38) 7)) 39 (bits .and .u64 (c 39) 5)) 40 (bits .and .u64 (c 40) 1)) 42 (bits .andNot .u64 (c 42) 1)) i = (upd (upd (upd (upd (upd (upd (upd (upd (upd (upd (c) 0 (bits .andNot .u64 (c 0) 1)) 42 (bits .andNot .u64 (c 42) 1)) 1 (0)) 33 (modeS (c 33))) 35 (statS (c 35))) 36 (bits .andNot .u64 (c 36) 2)) 37 (bits .and .u64 (c 37) 2184)) 38 (bits .and .u64 (c 38) 7)) 39 (bits .and .u64 (c 39) 5)) 40 (bits .and .u64 (c 40) 1)) i := by
  by_cases h0 : i = 0
  · subst h0; rfl
  by_cases h1 : i = 1
  · subst h1; rfl
  by_cases h33 : i = 33
  · subst h33; rfl
  by_cases h35 : i = 35
  · subst h35; rfl
  by_cases h36 : i = 36
  · subst h36; rfl
  by_cases h37 : i = 37
  · subst h37; rfl
  by_cases h38 : i = 38
  · subst h38; rfl
  by_cases h39 : i = 39
  · subst h39; rfl
  by_cases h40 : i = 40
  · subst h40; rfl
  by_cases h42 : i = 42
  · subst h42; rfl
  simp only [upd, if_neg h0, if_neg h1, if_neg h33, if_neg h35, if_neg h36, if_neg h37, if_neg h38, if_neg h39, if_neg h40, if_neg h42]
theorem fin_ok (c : Cp) (h : resOk c) (i : Nat) : (mix (upd (upd (upd (upd (upd (upd (upd (upd (upd (upd (c) 0 (bits .andNot .u64 (c 0) 1)) 1 (0)) 33 (modeS (c 33))) 35 (statS (c 35))) 36 (bits .andNot .u64 (c 36) 2)) 37 (bits .and .u64 (c 37) 2184)) 38 (bits .and .u64 (c 38) 7)) 39 (bits .and .u64 (c 39) 5)) 40 (bits .and .u64 (c 40) 1)) 42 (bits .andNot .u64 (c 42) 1)) (pmpS c) (0 + 47) 32) i = cpuS c i := by
  unfold cpuS mix
  by_cases h1 : 0 + 79 ≤ i ∧ i < 0 + 79 + 3
  · rw [if_pos h1, if_neg (by omega)]
    unfold resS
    rw [if_pos (by omega), if_pos h]
    unfold upd
    rw [if_neg (by omega), if_neg (by omega), if_neg (by omega), if_neg (by omega), if_neg (by omega), if_neg (by omega), if_neg (by omega), if_neg (by omega), if_neg (by omega), if_neg (by omega)]
  · rw [if_neg h1]
    by_cases h2 : 0 + 47 ≤ i ∧ i < 0 + 47 + 32
    · rw [if_pos h2, if_pos h2]
    · rw [if_neg h2, if_neg h2]
      exact chain_eq c i
theorem fin_no (c : Cp) (h : ¬ resOk c) (i : Nat) : (mix (mix (upd (upd (upd (upd (upd (upd (upd (upd (upd (upd (c) 0 (bits .andNot .u64 (c 0) 1)) 1 (0)) 33 (modeS (c 33))) 35 (statS (c 35))) 36 (bits .andNot .u64 (c 36) 2)) 37 (bits .and .u64 (c 37) 2184)) 38 (bits .and .u64 (c 38) 7)) 39 (bits .and .u64 (c 39) 5)) 40 (bits .and .u64 (c 40) 1)) 42 (bits .andNot .u64 (c 42) 1)) (pmpS c) (0 + 47) 32) (fun _ => 0) (0 + 79) 3) i = cpuS c i := by
  unfold cpuS mix
  by_cases h1 : 0 + 79 ≤ i ∧ i < 0 + 79 + 3
  · rw [if_pos h1, if_pos h1]
    unfold resS
    rw [if_pos (by omega), if_neg h]
  · rw [if_neg h1, if_neg h1]
    by_cases h2 : 0 + 47 ≤ i ∧ i < 0 + 47 + 32
    · rw [if_pos h2, if_pos h2]
    · rw [if_neg h2, if_neg h2]
      exact chain_eq c i
set_option maxHeartbeats 4000000 in
set_option maxRecDepth 100000 in
theorem csr2_c (c : Cp) (hR : 0 ≤ c 35 ∧ c 35 < 18446744073709551616) (hR80 : 0 ≤ c 80 ∧ c 80 < 18446744073709551616) (w : World) : Calls Tryd.prog 23 #[.agg (cpuL c).toArray] w fun e w' => e = .returned (.agg (cpuL (cpuS c)).toArray) ∧ Below w.heap.size w w' := by
  obtain ⟨CS, hCS⟩ : ∃ CS, (cpuL c).toArray = CS := ⟨_, rfl⟩
  rw [hCS]
  go_enter Tryd.func23, Tryd.ntmps23
  go_upto_region 1 with (first | ((with_reducible refine gate_dst (N := 1) rfl ?_); refine box_event ?hg (N := 1) ?hd (cs := CS) (t := 31) ?hr ?_; (case hd => rfl); (case hg => rfl); (case hr => rfl); intro g1 hg1 w1 hb1 hd1))
  have hb2 : Below w.heap.size w (w1.alloc (Obj.cells Tryd.zeroCells31 31)) := hd1.alloc hd1.size _
  have hx1 := blk_alloc hb1 (Obj.cells Tryd.zeroCells31 31)
  have hx2 := blk_new w1 (Obj.cells Tryd.zeroCells31 31)
  have hs1 : w.heap.size < w1.heap.size := by rw [← hg1]; exact blk_lt hb1
  obtain ⟨g2, hg2⟩ : ∃ g2, w1.heap.size = g2 := ⟨_, rfl⟩
  obtain ⟨w2, hw2⟩ : ∃ w2, w1.alloc (Obj.cells Tryd.zeroCells31 31) = w2 := ⟨_, rfl⟩
  rw [hw2] at hb2 hx1 hx2
  rw [hg2] at hx2 hs1
  rw [hw2, hg2]
  obtain ⟨b, hb⟩ : ∃ b, w.heap.size = b := ⟨_, rfl⟩
  rw [hg1, hb] at hx1
  rw [hb] at hs1 ⊢
  rw [← hCS] at hx1
  have hX : Box w2 b 31 c 0 82 := hx1
  have HB := Lib.hid hb2
  have HX := Lib.hid hX
  have HZ := Lib.hid hx2
  have hne : b ≠ g2 := by omega
  have hne2 : g2 ≠ b := by omega
  have hbb : w.heap.size ≤ b := by rw [hb]; exact Nat.le_refl _
  have HBB := Lib.hid hb
  clear hX hx1 hx2 hb2 hw2 hb1 hd1 hCS hb
  have q := HX.out.cell 0 (by omega)
  replace q : _ = some (Value.int .u64 (c 0)) := q
  have f := blk_frozen HX.out 0
  go_upto_region 2 with (fail)
  have hX := Box.set HX.out 0 (by omega) (bits .andNot .u64 (c 0) 1)
  replace hX : Box (w2.setCell ⟨b, 0, none⟩ (.int .u64 (bits .andNot .u64 (c 0) 1))) b 31 (upd (c) 0 (bits .andNot .u64 (c 0) 1)) 0 82 := hX
  have hZ := blk_far HZ.out (p := ⟨b, 0, none⟩) hne2 (.int .u64 (bits .andNot .u64 (c 0) 1))
  have hB := Below.setCell HB.out (p := ⟨b, 0, none⟩) hbb (.int .u64 (bits .andNot .u64 (c 0) 1))
  obtain ⟨w3, hW⟩ : ∃ w3, w2.setCell ⟨b, 0, none⟩ (.int .u64 (bits .andNot .u64 (c 0) 1)) = w3 := ⟨_, rfl⟩
  rw [hW] at hX hZ hB ⊢
  clear hW HX HZ HB
  have HX := Lib.hid hX
  have HZ := Lib.hid hZ
  have HB := Lib.hid hB
  clear hX hZ hB
  clear q f
  have q := HX.out.cell 1 (by omega)
  replace q : _ = some (Value.int .u64 (c 1)) := q
  have f := blk_frozen HX.out 1
  go_upto_region 3 with (fail)
  have hX := Box.set HX.out 1 (by omega) (0)
  replace hX : Box (w3.setCell ⟨b, 1, none⟩ (.int .u64 (0))) b 31 (upd (upd (c) 0 (bits .andNot .u64 (c 0) 1)) 1 (0)) 0 82 := hX
  have hZ := blk_far HZ.out (p := ⟨b, 1, none⟩) hne2 (.int .u64 (0))
  have hB := Below.setCell HB.out (p := ⟨b, 1, none⟩) hbb (.int .u64 (0))
  obtain ⟨w4, hW⟩ : ∃ w4, w3.setCell ⟨b, 1, none⟩ (.int .u64 (0)) = w4 := ⟨_, rfl⟩
  rw [hW] at hX hZ hB ⊢
  clear hW HX HZ HB
  have HX := Lib.hid hX
  have HZ := Lib.hid hZ
  have HB := Lib.hid hB
  clear hX hZ hB
  clear q f
  have q := HX.out.cell 33 (by omega)
  replace q : _ = some (Value.int .i64 (c 33)) := q
  have f := blk_frozen HX.out 33
  rcases Decidable.em (c 33 = 3) with hm | hm <;> first
    | (have hmb : (c 33 != 3) = false := bne_eq_false_iff_eq.mpr hm
       go_upto_region 5 with (fail)
       clear hmb
       have hX : Box w4 b 31 (upd (upd (upd (c) 0 (bits .andNot .u64 (c 0) 1)) 1 (0)) 33 (modeS (c 33))) 0 82 := HX.out.ext (fun i _ _ => by
         unfold modeS
         rw [if_pos hm]
         show _ = upd _ 33 3 i
         unfold upd
         by_cases hi : i = 33
         · rw [if_pos hi, hi]; exact hm
         · rw [if_neg hi])
       have hZ := HZ.out
       have hB := HB.out
       obtain ⟨w5, hW⟩ : ∃ w5, w4 = w5 := ⟨_, rfl⟩
       rw [hW] at hX hZ hB ⊢)
    | (have hmb : (c 33 != 3) = true := bne_iff_ne.mpr hm
       go_upto_region 5 with (fail)
       clear hmb
       have hX : Box (w4.setCell ⟨b, 33, none⟩ (.int .i64 0)) b 31 (upd (upd (upd (c) 0 (bits .andNot .u64 (c 0) 1)) 1 (0)) 33 (modeS (c 33))) 0 82 := by
         unfold modeS
         rw [if_neg hm]
         exact Box.set HX.out 33 (by omega) 0
       have hZ := blk_far HZ.out (p := ⟨b, 33, none⟩) hne2 (.int .i64 0)
       have hB := Below.setCell HB.out (p := ⟨b, 33, none⟩) hbb (.int .i64 0)
       obtain ⟨w5, hW⟩ : ∃ w5, w4.setCell ⟨b, 33, none⟩ (.int .i64 0) = w5 := ⟨_, rfl⟩
       rw [hW] at hX hZ hB ⊢)
  all_goals
    clear hW HX HZ HB q f hm
    have HX := Lib.hid hX
    have HZ := Lib.hid hZ
    have HB := Lib.hid hB
    clear hX hZ hB
    have q := HX.out.cell 35 (by omega)
    replace q : _ = some (Value.int .u64 (c 35)) := q
    have f := blk_frozen HX.out 35
    go_upto_region 6 with (go_at_call 47; refine (status_c hR _).mono ?_; rintro e w' ⟨rfl, ⟨nd, rfl⟩⟩)
    have hX0 := blk_drewN HX.out nd
    have hZ0 := blk_drewN HZ.out nd
    have hB0 := pw_below_drewN HB.out nd
    clear HX HZ HB
    have HX := Lib.hid (show Box (w5.drewN nd) b 31 (upd (upd (upd (c) 0 (bits .andNot .u64 (c 0) 1)) 1 (0)) 33 (modeS (c 33))) 0 82 from hX0)
    have HZ := Lib.hid hZ0
    have HB := Lib.hid hB0
    clear hX0 hZ0 hB0
    have hX := Box.set HX.out 35 (by omega) (statS (c 35))
    replace hX : Box ((w5.drewN nd).setCell ⟨b, 35, none⟩ (.int .u64 (statS (c 35)))) b 31 (upd (upd (upd (upd (c) 0 (bits .andNot .u64 (c 0) 1)) 1 (0)) 33 (modeS (c 33))) 35 (statS (c 35))) 0 82 := hX
    have hZ := blk_far HZ.out (p := ⟨b, 35, none⟩) hne2 (.int .u64 (statS (c 35)))
    have hB := Below.setCell HB.out (p := ⟨b, 35, none⟩) hbb (.int .u64 (statS (c 35)))
    obtain ⟨w6, hW⟩ : ∃ w6, (w5.drewN nd).setCell ⟨b, 35, none⟩ (.int .u64 (statS (c 35))) = w6 := ⟨_, rfl⟩
    rw [hW] at hX hZ hB ⊢
    clear hW HX HZ HB
    have HX := Lib.hid hX
    have HZ := Lib.hid hZ
    have HB := Lib.hid hB
    clear hX hZ hB
    clear q f
    have q := HX.out.cell 36 (by omega)
    replace q : _ = some (Value.int .u64 (c 36)) := q
    have f := blk_frozen HX.out 36
    go_upto_region 7 with (fail)
    have hX := Box.set HX.out 36 (by omega) (bits .andNot .u64 (c 36) 2)
    replace hX : Box (w6.setCell ⟨b, 36, none⟩ (.int .u64 (bits .andNot .u64 (c 36) 2))) b 31 (upd (upd (upd (upd (upd (c) 0 (bits .andNot .u64 (c 0) 1)) 1 (0)) 33 (modeS (c 33))) 35 (statS (c 35))) 36 (bits .andNot .u64 (c 36) 2)) 0 82 := hX
    have hZ := blk_far HZ.out (p := ⟨b, 36, none⟩) hne2 (.int .u64 (bits .andNot .u64 (c 36) 2))
    have hB := Below.setCell HB.out (p := ⟨b, 36, none⟩) hbb (.int .u64 (bits .andNot .u64 (c 36) 2))
    obtain ⟨w7, hW⟩ : ∃ w7, w6.setCell ⟨b, 36, none⟩ (.int .u64 (bits .andNot .u64 (c 36) 2)) = w7 := ⟨_, rfl⟩
    rw [hW] at hX hZ hB ⊢
    clear hW HX HZ HB
    have HX := Lib.hid hX
    have HZ := Lib.hid hZ
    have HB := Lib.hid hB
    clear hX hZ hB
    clear q f
    have q := HX.out.cell 37 (by omega)
    replace q : _ = some (Value.int .u64 (c 37)) := q
    have f := blk_frozen HX.out 37
    go_upto_region 8 with (fail)
    have hX := Box.set HX.out 37 (by omega) (bits .and .u64 (c 37) 2184)
    replace hX : Box (w7.setCell ⟨b, 37, none⟩ (.int .u64 (bits .and .u64 (c 37) 2184))) b 31 (upd (upd (upd (upd (upd (upd (c) 0 (bits .andNot .u64 (c 0) 1)) 1 (0)) 33 (modeS (c 33))) 35 (statS (c 35))) 36 (bits .andNot .u64 (c 36) 2)) 37 (bits .and .u64 (c 37) 2184)) 0 82 := hX
    have hZ := blk_far HZ.out (p := ⟨b, 37, none⟩) hne2 (.int .u64 (bits .and .u64 (c 37) 2184))
    have hB := Below.setCell HB.out (p := ⟨b, 37, none⟩) hbb (.int .u64 (bits .and .u64 (c 37) 2184))
    obtain ⟨w8, hW⟩ : ∃ w8, w7.setCell ⟨b, 37, none⟩ (.int .u64 (bits .and .u64 (c 37) 2184)) = w8 := ⟨_, rfl⟩
    rw [hW] at hX hZ hB ⊢
    clear hW HX HZ HB
    have HX := Lib.hid hX
    have HZ := Lib.hid hZ
    have HB := Lib.hid hB
    clear hX hZ hB
    clear q f
    have q := HX.out.cell 38 (by omega)
    replace q : _ = some (Value.int .u64 (c 38)) := q
    have f := blk_frozen HX.out 38
    go_upto_region 9 with (fail)
    have hX := Box.set HX.out 38 (by omega) (bits .and .u64 (c 38) 7)
    replace hX : Box (w8.setCell ⟨b, 38, none⟩ (.int .u64 (bits .and .u64 (c 38) 7))) b 31 (upd (upd (upd (upd (upd (upd (upd (c) 0 (bits .andNot .u64 (c 0) 1)) 1 (0)) 33 (modeS (c 33))) 35 (statS (c 35))) 36 (bits .andNot .u64 (c 36) 2)) 37 (bits .and .u64 (c 37) 2184)) 38 (bits .and .u64 (c 38) 7)) 0 82 := hX
    have hZ := blk_far HZ.out (p := ⟨b, 38, none⟩) hne2 (.int .u64 (bits .and .u64 (c 38) 7))
    have hB := Below.setCell HB.out (p := ⟨b, 38, none⟩) hbb (.int .u64 (bits .and .u64 (c 38) 7))
    obtain ⟨w9, hW⟩ : ∃ w9, w8.setCell ⟨b, 38, none⟩ (.int .u64 (bits .and .u64 (c 38) 7)) = w9 := ⟨_, rfl⟩
    rw [hW] at hX hZ hB ⊢
    clear hW HX HZ HB
    have HX := Lib.hid hX
    have HZ := Lib.hid hZ
    have HB := Lib.hid hB
    clear hX hZ hB
    clear q f
    have q := HX.out.cell 39 (by omega)
    replace q : _ = some (Value.int .u64 (c 39)) := q
    have f := blk_frozen HX.out 39
    go_upto_region 10 with (fail)
    have hX := Box.set HX.out 39 (by omega) (bits .and .u64 (c 39) 5)
    replace hX : Box (w9.setCell ⟨b, 39, none⟩ (.int .u64 (bits .and .u64 (c 39) 5))) b 31 (upd (upd (upd (upd (upd (upd (upd (upd (c) 0 (bits .andNot .u64 (c 0) 1)) 1 (0)) 33 (modeS (c 33))) 35 (statS (c 35))) 36 (bits .andNot .u64 (c 36) 2)) 37 (bits .and .u64 (c 37) 2184)) 38 (bits .and .u64 (c 38) 7)) 39 (bits .and .u64 (c 39) 5)) 0 82 := hX
    have hZ := blk_far HZ.out (p := ⟨b, 39, none⟩) hne2 (.int .u64 (bits .and .u64 (c 39) 5))
    have hB := Below.setCell HB.out (p := ⟨b, 39, none⟩) hbb (.int .u64 (bits .and .u64 (c 39) 5))
    obtain ⟨w10, hW⟩ : ∃ w10, w9.setCell ⟨b, 39, none⟩ (.int .u64 (bits .and .u64 (c 39) 5)) = w10 := ⟨_, rfl⟩
    rw [hW] at hX hZ hB ⊢
    clear hW HX HZ HB
    have HX := Lib.hid hX
    have HZ := Lib.hid hZ
    have HB := Lib.hid hB
    clear hX hZ hB
    clear q f
    have q := HX.out.cell 40 (by omega)
    replace q : _ = some (Value.int .u64 (c 40)) := q
    have f := blk_frozen HX.out 40
    go_upto_region 11 with (fail)
    have hX := Box.set HX.out 40 (by omega) (bits .and .u64 (c 40) 1)
    replace hX : Box (w10.setCell ⟨b, 40, none⟩ (.int .u64 (bits .and .u64 (c 40) 1))) b 31 (upd (upd (upd (upd (upd (upd (upd (upd (upd (c) 0 (bits .andNot .u64 (c 0) 1)) 1 (0)) 33 (modeS (c 33))) 35 (statS (c 35))) 36 (bits .andNot .u64 (c 36) 2)) 37 (bits .and .u64 (c 37) 2184)) 38 (bits .and .u64 (c 38) 7)) 39 (bits .and .u64 (c 39) 5)) 40 (bits .and .u64 (c 40) 1)) 0 82 := hX
    have hZ := blk_far HZ.out (p := ⟨b, 40, none⟩) hne2 (.int .u64 (bits .and .u64 (c 40) 1))
    have hB := Below.setCell HB.out (p := ⟨b, 40, none⟩) hbb (.int .u64 (bits .and .u64 (c 40) 1))
    obtain ⟨w11, hW⟩ : ∃ w11, w10.setCell ⟨b, 40, none⟩ (.int .u64 (bits .and .u64 (c 40) 1)) = w11 := ⟨_, rfl⟩
    rw [hW] at hX hZ hB ⊢
    clear hW HX HZ HB
    have HX := Lib.hid hX
    have HZ := Lib.hid hZ
    have HB := Lib.hid hB
    clear hX hZ hB
    clear q f
    have q := HX.out.cell 42 (by omega)
    replace q : _ = some (Value.int .u64 (c 42)) := q
    have f := blk_frozen HX.out 42
    go_upto_region 12 with (fail)
    have hX := Box.set HX.out 42 (by omega) (bits .andNot .u64 (c 42) 1)
    replace hX : Box (w11.setCell ⟨b, 42, none⟩ (.int .u64 (bits .andNot .u64 (c 42) 1))) b 31 (upd (upd (upd (upd (upd (upd (upd (upd (upd (upd (c) 0 (bits .andNot .u64 (c 0) 1)) 1 (0)) 33 (modeS (c 33))) 35 (statS (c 35))) 36 (bits .andNot .u64 (c 36) 2)) 37 (bits .and .u64 (c 37) 2184)) 38 (bits .and .u64 (c 38) 7)) 39 (bits .and .u64 (c 39) 5)) 40 (bits .and .u64 (c 40) 1)) 42 (bits .andNot .u64 (c 42) 1)) 0 82 := hX
    have hZ := blk_far HZ.out (p := ⟨b, 42, none⟩) hne2 (.int .u64 (bits .andNot .u64 (c 42) 1))
    have hB := Below.setCell HB.out (p := ⟨b, 42, none⟩) hbb (.int .u64 (bits .andNot .u64 (c 42) 1))
    obtain ⟨w12, hW⟩ : ∃ w12, w11.setCell ⟨b, 42, none⟩ (.int .u64 (bits .andNot .u64 (c 42) 1)) = w12 := ⟨_, rfl⟩
    rw [hW] at hX hZ hB ⊢
    clear hW HX HZ HB
    have HX := Lib.hid hX
    have HZ := Lib.hid hZ
    have HB := Lib.hid hB
    clear hX hZ hB
    clear q f
    have eP := cells_sub (c := upd (upd (upd (upd (upd (upd (upd (upd (upd (upd (c) 0 (bits .andNot .u64 (c 0) 1)) 1 (0)) 33 (modeS (c 33))) 35 (statS (c 35))) 36 (bits .andNot .u64 (c 36) 2)) 37 (bits .and .u64 (c 37) 2184)) 38 (bits .and .u64 (c 38) 7)) 39 (bits .and .u64 (c 39) 5)) 40 (bits .and .u64 (c 40) 1)) 42 (bits .andNot .u64 (c 42) 1)) (d := c) 47 32 (fun i h1 h2 => by unfold upd; rw [if_neg (by omega), if_neg (by omega), if_neg (by omega), if_neg (by omega), if_neg (by omega), if_neg (by omega), if_neg (by omega), if_neg (by omega), if_neg (by omega), if_neg (by omega)])
    go_upto_region 13 with (first
      | ((with_reducible refine gate_ (.load 27 (.tmp 42)) rfl ?_); refine wpl_loadm (p := 47) (m := 32) 27 (.tmp 42) rfl rfl HX.out (by omega) rfl Tryd.underlying27 rfl (by kernel_rfl) ?_; rw [Nat.zero_add, eP])
      | (go_at_call 48; refine (pmp2_c _ _).mono ?_; rintro e w' ⟨rfl, hd⟩; have hX2 := blk_below HX.out hd; have hZ2 := blk_below HZ.out hd; have hB2 := HB.out.trans (hd.mono HB.out.size); clear HX HZ HB; have HX := Lib.hid (show Box w' b 31 (upd (upd (upd (upd (upd (upd (upd (upd (upd (upd (c) 0 (bits .andNot .u64 (c 0) 1)) 1 (0)) 33 (modeS (c 33))) 35 (statS (c 35))) 36 (bits .andNot .u64 (c 36) 2)) 37 (bits .and .u64 (c 37) 2184)) 38 (bits .and .u64 (c 38) 7)) 39 (bits .and .u64 (c 39) 5)) 40 (bits .and .u64 (c 40) 1)) 42 (bits .andNot .u64 (c 42) 1)) 0 82 from hX2); have HZ := Lib.hid hZ2; have HB := Lib.hid hB2; clear hX2 hZ2 hB2 hd)
      | ((with_reducible refine gate_ (.store 27 (.tmp 45) (.tmp 44)) rfl ?_); refine wpl_storem (p := 47) (m := 32) 27 (.tmp 45) (.tmp 44) rfl rfl HX.out (by omega) rfl rfl (by kernel_rfl) ?_; intro w20 hX2 hk2 hb2; have hZ2 := (hk2 g2 hne2).trans HZ.out; have hB2 := hb2 _ _ hbb HB.out; clear HX HZ HB hk2 hb2; have HX := Lib.hid hX2; have HZ := Lib.hid hZ2; have HB := Lib.hid hB2; clear hX2 hZ2 hB2))
    have eR := cells_sub (c := mix (upd (upd (upd (upd (upd (upd (upd (upd (upd (upd (c) 0 (bits .andNot .u64 (c 0) 1)) 1 (0)) 33 (modeS (c 33))) 35 (statS (c 35))) 36 (bits .andNot .u64 (c 36) 2)) 37 (bits .and .u64 (c 37) 2184)) 38 (bits .and .u64 (c 38) 7)) 39 (bits .and .u64 (c 39) 5)) 40 (bits .and .u64 (c 40) 1)) 42 (bits .andNot .u64 (c 42) 1)) (pmpS c) (0 + 47) 32) (d := c) 79 3 (fun i h1 h2 => by unfold mix; rw [if_neg (by omega)]; unfold upd; rw [if_neg (by omega), if_neg (by omega), if_neg (by omega), if_neg (by omega), if_neg (by omega), if_neg (by omega), if_neg (by omega), if_neg (by omega), if_neg (by omega), if_neg (by omega)])
    go_upto_region 14 with (first
      | ((with_reducible refine gate_ (.load 29 (.tmp 46)) rfl ?_); refine wpl_loadm (p := 79) (m := 3) 29 (.tmp 46) rfl rfl HX.out (by omega) rfl Tryd.underlying29 rfl (by kernel_rfl) ?_; rw [Nat.zero_add, eR])
      | ((with_reducible refine gate_ (.store 29 (.tmp 3) (.tmp 47)) rfl ?_); refine wpl_store 29 (.tmp 3) (.tmp 47) rfl rfl (blk_new _ _) (by rfl) rfl rfl (by kernel_rfl) ?_; intro w22 hR3 hk3 hb3 hs3; have hX2 := (hk3 b (Nat.ne_of_lt (blk_lt HX.out))).trans (blk_alloc HX.out _); have hZ2 := (hk3 g2 (Nat.ne_of_lt (blk_lt HZ.out))).trans (blk_alloc HZ.out _); have hB2 := hb3 _ _ HB.out.size (HB.out.alloc HB.out.size _); have hn3 := Nat.ne_of_lt (blk_lt HX.out); have hn4 := Nat.ne_of_lt (blk_lt HZ.out); obtain ⟨g3, hg3⟩ : ∃ g3, w20.heap.size = g3 := ⟨_, rfl⟩; rw [hg3] at hR3 hn3 hn4 ⊢; clear HX HZ HB hk3 hb3 hs3; have HX := Lib.hid (show Box w22 b 31 (mix (upd (upd (upd (upd (upd (upd (upd (upd (upd (upd (c) 0 (bits .andNot .u64 (c 0) 1)) 1 (0)) 33 (modeS (c 33))) 35 (statS (c 35))) 36 (bits .andNot .u64 (c 36) 2)) 37 (bits .and .u64 (c 37) 2184)) 38 (bits .and .u64 (c 38) 7)) 39 (bits .and .u64 (c 39) 5)) 40 (bits .and .u64 (c 40) 1)) 42 (bits .andNot .u64 (c 42) 1)) (pmpS c) (0 + 47) 32) 0 82 from hX2); have HZ := Lib.hid hZ2; have HB := Lib.hid hB2; have HR3 := Lib.hid hR3; have HN3 := Lib.hid (And.intro hn3 hn4); clear hX2 hZ2 hB2 hR3 hn3 hn4))
    have r0 := HR3.out.cell 0 (by omega)
    replace r0 : _ = some (Value.bool (decide (c 79 ≠ 0))) := r0
    have r1 := HR3.out.cell 1 (by omega)
    replace r1 : _ = some (Value.int .u64 (c 80)) := r1
    have r2 := HR3.out.cell 2 (by omega)
    replace r2 : _ = some (Value.int .i64 (c 81)) := r2
    have HRC := Lib.hid (res_cases c hR80.1 hR80.2)
    rcases HRC.out with ⟨hO, hA⟩ | ⟨hO, hA, hB, hE, hD⟩ | ⟨hO, hA, hB, hE, hD, hF⟩ | ⟨hO, hA, hB, hE, hD, hF⟩ | ⟨hO, hA, hB, hC, hE, hD⟩ | ⟨hO, hA, hB, hC, hE, hD⟩ | ⟨hO, hA, hB, hC⟩ <;> rw [hA] at r0 <;>
      (go_upto_region 16 with (first
        | ((with_reducible refine gate_ (.store 29 (.tmp 79) (.tmp 78)) rfl ?_); refine wpl_storem (p := 79) (m := 3) (d := fun _ => 0) 29 (.tmp 79) (.tmp 78) rfl rfl HX.out (by omega) rfl rfl (by kernel_rfl) ?_; intro w23 hX2 hk2 hb2; have hZ2 := (hk2 g2 hne2).trans HZ.out; have hB2 := hb2 _ _ hbb HB.out; clear HX HZ HB hk2 hb2; have HX := Lib.hid hX2; have HZ := Lib.hid hZ2; have HB := Lib.hid hB2; clear hX2 hZ2 hB2)))
    all_goals
      first
        | have HXF := Lib.hid (HX.out.ext (d := cpuS c) (fun i _ h2 => fin_ok c hO i))
        | have HXF := Lib.hid (HX.out.ext (d := cpuS c) (fun i _ h2 => fin_no c hO i))
      clear HX
      go_wp2_with (first
        | ((with_reducible refine gate_ (.load 31 (.tmp 1)) rfl ?_); refine wpl_load 31 (.tmp 1) rfl rfl HXF.out rfl Tryd.underlying31 rfl (by kernel_rfl) ?_)
        | ((with_reducible refine gate_ (.store 31 (.tmp 2) (.tmp 80)) rfl ?_); refine wpl_store 31 (.tmp 2) (.tmp 80) rfl rfl HZ.out (by kernel_rfl) rfl rfl (by kernel_rfl) ?_; intro w5 hX5 _ hb5 _; have HX5 := Lib.hid hX5; have HB5 := Lib.hid (hb5 _ _ (by rw [HBB.out]; omega) HB.out); clear hX5 hb5))
      exact bodyPost_ret (results_cell_row rfl _ _ g2 31 _ (0, 0) _ rfl HX5.out Tryd.underlying31 rfl (by rw [cellsL_size]; kernel_rfl)) rfl ⟨rfl, HB5.out⟩
end Go.Proofs.YtbmnifnahbehbaaDoor

/- anvilref14.CpuLines: the document's lines of a proper Cpu. -/
set_option linter.unusedVariables false
namespace Go.Proofs.YtbmnifnahbehbaaDoor
open Go.RowKit Go.Lib Go.Shelf Go.Proofs.YtbmnifnahbehbaaDoorW.PrintWords Go.Proofs.YtbmnifnahbehbaaDoorW.PrintMore Go.Proofs.YtbmnifnahbehbaaDoorW.PrintLast
open PPr
/-- The lines of a Cpu. -/
def cpuLn (c : Cp) : List ByteArray :=
  [jn [wPc, hexB (c 0)]] ++ [jn [wMode, modeB (c 33)]] ++ (if c 34 = 0 then [] else [jn [wWait]]) ++ (regW c 32).map jn ++ (csrW c Z0 12).map jn ++ (pmpW c 16).map jn ++ (if c 79 = 0 then [] else [jn [wRes, hexB (c 80), itoaB (c 81)]])
theorem txt_one (xs : List ByteArray) : txt [jn xs] = lineL xs := by
  unfold txt
  simp [lnT_jn]
theorem cpuLn_txt (c : Cp) : txt (cpuLn c) = cpuT c := by
  unfold cpuLn cpuT
  simp only [txt_append, txt_jn, txt_one]
  have e1 : txt (if c 34 = 0 then [] else [jn [wWait]]) = waitT c := by
    unfold waitT
    split
    · rfl
    · exact txt_one _
  have e2 : txt (if c 79 = 0 then [] else [jn [wRes, hexB (c 80), itoaB (c 81)]]) = resT c := by
    unfold resT
    split
    · rfl
    · exact txt_one _
  rw [e1, e2]
theorem regW_len (c : Cp) : ∀ k, (regW c k).length ≤ k
  | 0 => Nat.le_refl _
  | k + 1 => by
    have := regW_len c k
    rw [regW, List.length_append]
    split <;> simp only [List.length_cons, List.length_nil] <;> omega
theorem csrW_len (c z : Cp) : ∀ k, (csrW c z k).length ≤ k
  | 0 => Nat.le_refl _
  | k + 1 => by
    have := csrW_len c z k
    rw [csrW, List.length_append]
    split <;> simp only [List.length_cons, List.length_nil] <;> omega
theorem pmpW_len (c : Cp) : ∀ k, (pmpW c k).length ≤ k
  | 0 => Nat.le_refl _
  | k + 1 => by
    have := pmpW_len c k
    rw [pmpW, List.length_append]
    split <;> simp only [List.length_cons, List.length_nil] <;> omega
theorem cpuLn_len (c : Cp) : (cpuLn c).length ≤ 64 := by
  have h1 := regW_len c 32
  have h2 := csrW_len c Z0 12
  have h3 := pmpW_len c 16
  unfold cpuLn
  simp only [List.length_append, List.length_map]
  split <;> split <;> simp only [List.length_cons, List.length_nil] <;> omega
/-- The world of the walk: the Cpu's box g. -/
structure CL (w : World) (g : Nat) (c : Cp) (v : Value) (L : List ByteArray) (k : Nat) (W : World) : Prop where
  s : LS w (fun j => j ≠ g) v L k W
  x : Box W g 31 c 0 82
  g0 : Glob w
/-- .. and the zero Cpu's box h. -/
structure CL2 (w : World) (g h : Nat) (c : Cp) (v : Value) (L : List ByteArray) (k : Nat) (W : World) : Prop where
  s : LS w (fun j => j ≠ g ∧ j ≠ h) v L k W
  x : Box W g 31 c 0 82
  y : Box W h 31 Z0 0 82
  g0 : Glob w
section
variable {w W W' : World} {g b7 : Nat} {c : Cp} {v : Value} {L : List ByteArray} {k k' : Nat}
theorem CL.gl (h : CL w g c v L k W) : Glob W := Glob.step h.g0 h.s.b
theorem CL2.gl (h : CL2 w g b7 c v L k W) : Glob W := Glob.step h.g0 h.s.b
theorem CL.below (h : CL w g c v L k W) (hb : Below W.heap.size W W') : CL w g c v L k W' := ⟨h.s.below hb, blk_below h.x hb, h.g0⟩
theorem CL2.below (h : CL2 w g b7 c v L k W) (hb : Below W.heap.size W W') : CL2 w g b7 c v L k W' := ⟨h.s.below hb, blk_below h.x hb, blk_below h.y hb, h.g0⟩
theorem CL.more (h : CL w g c v L k W) (hk : k ≤ k') : CL w g c v L k' W := ⟨h.s.more hk, h.x, h.g0⟩
theorem CL2.more (h : CL2 w g b7 c v L k W) (hk : k ≤ k') : CL2 w g b7 c v L k' W := ⟨h.s.more hk, h.x, h.y, h.g0⟩
theorem CL.zero (h : CL w g c v L k W) (hs : W.heap.size = b7) (hb : Below b7 W W') (hx : Box W' b7 31 Z0 0 82) : CL2 w g b7 c v L k W' := by
  subst hs
  have hlt := blk_lt hx
  have hgl := blk_lt h.x
  exact ⟨⟨h.s.b.trans (hb.mono h.s.b.size), Kd.R_below (Kd.R_mono (Kd.R_bound h.s.r) (fun j hj => ⟨hj.1, Nat.ne_of_lt hj.2.2.1⟩)) hb, fun j hj => ⟨by omega, by omega⟩, h.s.n⟩, blk_below h.x hb, hx, h.g0⟩
variable {ops : Array Oper} {rest : List Oper} {o : Oper} {a : Act} {Q : Exit → Act → World → Prop} {Kc : Act → World → Prop}
theorem CL.app (h : CL w g c v L k W) (hgd : o.guard = none) (s x : Operand) (ho : o.op = .call { callee := .builtin .append, args := #[s, x], argTypes := #[67, 67] }) (t : ByteArray) (hs : a.eval s = v) (hx : a.eval x = .slice (some ⟨W.heap.size, 0, none⟩) 1 1) (hl : k ≤ 100000000)
    (K : ∀ v1 w1, CL w g c v1 (L ++ [t]) (k + 1) w1 → wpList Tryd.prog ops Q rest (a.put o.dst v1) w1) : wpList Tryd.prog ops Q (o :: rest) a (W.alloc (.cells #[.string t] 9)) :=
  h.s.app hgd s x ho t hs hx hl fun v1 w1 h1 h2 => K v1 w1 ⟨h1, (h2 g (blk_lt h.x) (fun hn => hn rfl)).trans h.x, h.g0⟩
theorem CL.app_step (h : CL w g c v L k W) (hw : Region.wanted o (yielded ops a.tmps) = true) (s x : Operand) (ho : o.op = .call { callee := .builtin .append, args := #[s, x], argTypes := #[67, 67] }) (t : ByteArray) (hs : a.eval s = v) (hx : a.eval x = .slice (some ⟨W.heap.size, 0, none⟩) 1 1) (hl : k ≤ 100000000)
    (K : ∀ v1 w1, CL w g c v1 (L ++ [t]) (k + 1) w1 → Kc (a.put o.dst v1) w1) :
    if Region.wanted o (yielded ops a.tmps) = true then Oper.wp Tryd.prog o a (W.alloc (.cells #[.string t] 9)) Kc Q else Kc (a.put o.dst undef) (W.alloc (.cells #[.string t] 9)) :=
  h.s.app_step hw s x ho t hs hx hl fun v1 w1 h1 h2 => K v1 w1 ⟨h1, (h2 g (blk_lt h.x) (fun hn => hn rfl)).trans h.x, h.g0⟩
theorem CL2.app (h : CL2 w g b7 c v L k W) (hgd : o.guard = none) (s x : Operand) (ho : o.op = .call { callee := .builtin .append, args := #[s, x], argTypes := #[67, 67] }) (t : ByteArray) (hs : a.eval s = v) (hx : a.eval x = .slice (some ⟨W.heap.size, 0, none⟩) 1 1) (hl : k ≤ 100000000)
    (K : ∀ v1 w1, CL2 w g b7 c v1 (L ++ [t]) (k + 1) w1 → wpList Tryd.prog ops Q rest (a.put o.dst v1) w1) : wpList Tryd.prog ops Q (o :: rest) a (W.alloc (.cells #[.string t] 9)) :=
  h.s.app hgd s x ho t hs hx hl fun v1 w1 h1 h2 => K v1 w1 ⟨h1, (h2 g (blk_lt h.x) (fun hn => hn.1 rfl)).trans h.x, (h2 b7 (blk_lt h.y) (fun hn => hn.2 rfl)).trans h.y, h.g0⟩
theorem CL2.app_step (h : CL2 w g b7 c v L k W) (hw : Region.wanted o (yielded ops a.tmps) = true) (s x : Operand) (ho : o.op = .call { callee := .builtin .append, args := #[s, x], argTypes := #[67, 67] }) (t : ByteArray) (hs : a.eval s = v) (hx : a.eval x = .slice (some ⟨W.heap.size, 0, none⟩) 1 1) (hl : k ≤ 100000000)
    (K : ∀ v1 w1, CL2 w g b7 c v1 (L ++ [t]) (k + 1) w1 → Kc (a.put o.dst v1) w1) :
    if Region.wanted o (yielded ops a.tmps) = true then Oper.wp Tryd.prog o a (W.alloc (.cells #[.string t] 9)) Kc Q else Kc (a.put o.dst undef) (W.alloc (.cells #[.string t] 9)) :=
  h.s.app_step hw s x ho t hs hx hl fun v1 w1 h1 h2 => K v1 w1 ⟨h1, (h2 g (blk_lt h.x) (fun hn => hn.1 rfl)).trans h.x, (h2 b7 (blk_lt h.y) (fun hn => hn.2 rfl)).trans h.y, h.g0⟩
end
theorem cell_xr {w : World} {g : Nat} {c : Cp} (h : Box w g 31 c 0 82) {i : Nat} (hi : i < 32) {v : Int} (hv : c (1 + i) = v) : w.cell? ⟨g, 1 + i, none⟩ = some (.int .u64 v) := by
  have q := h.cell (1 + i) (by omega)
  rw [q, Nat.zero_add, hv]
  unfold cellOf
  rw [if_neg (by omega), if_neg (by omega), if_neg (by omega)]
theorem csrs_cell {W : World} (h : Glob W) {i : Nat} (hi : i < 12) : W.cell? ⟨1, i, none⟩ = some (.int .i64 (toldL.getD i 0)) := by
  have e : glob1 = toldL := rfl
  have := h.v1 i (.int .i64 (toldL.getD i 0)) (by
    rw [List.getElem?_map, e, List.getD_eq_getElem?_getD, List.getElem?_eq_getElem (show i < toldL.length from hi)]
    rfl)
  exact this
theorem w_pc (x : ByteArray) : (⟨#[112, 99, 32]⟩ : ByteArray) ++ x = jn [wPc, x] := by rw [jn_2]; rfl
theorem w_reg (a b : ByteArray) : (⟨#[114, 101, 103, 32]⟩ : ByteArray) ++ a ++ ⟨#[32]⟩ ++ b = jn [wReg, a, b] := by rw [jn_3]; rfl
theorem w_csr (a b : ByteArray) : (⟨#[99, 115, 114, 32]⟩ : ByteArray) ++ a ++ ⟨#[32]⟩ ++ b = jn [wCsr, a, b] := by rw [jn_3]; rfl
theorem w_res (a b : ByteArray) : (⟨#[114, 101, 115, 32]⟩ : ByteArray) ++ a ++ ⟨#[32]⟩ ++ b = jn [wRes, a, b] := by rw [jn_3]; rfl
theorem w_pmp (a b c : ByteArray) : (⟨#[112, 109, 112, 32]⟩ : ByteArray) ++ a ++ ⟨#[32]⟩ ++ b ++ ⟨#[32]⟩ ++ c = jn [wPmp, a, b, c] := by rw [jn_4]; rfl
theorem w_mode {m : Int} (h : m = 0 ∨ m = 3) : jn [wMode, modeB m] = if m = 3 then ⟨#[109, 111, 100, 101, 32, 109]⟩ else ⟨#[109, 111, 100, 101, 32, 117]⟩ := by
  rw [jn_2]
  rcases h with rfl | rfl <;> rfl
theorem regM {c : Cp} {L : List ByteArray} {i : Nat} {v : Int} (hv : c (1 + i) = v) (h0 : v ≠ 0) : L ++ (regW c i).map jn ++ [jn [wReg, regB i, hexB v]] = L ++ (regW c (i + 1)).map jn := by
  rw [regW, List.map_append, List.append_assoc, if_neg (by rw [hv]; exact h0), hv]
  rfl
theorem regM0 {c : Cp} {L : List ByteArray} {i : Nat} (hv : c (1 + i) = 0) : L ++ (regW c i).map jn = L ++ (regW c (i + 1)).map jn := by
  rw [regW, List.map_append, if_pos hv, List.map_nil, List.append_nil]
theorem csrM {c z : Cp} {L : List ByteArray} {i : Nat} {v : Int} (hv : c (35 + i) = v) (h0 : v ≠ z (35 + i)) : L ++ (csrW c z i).map jn ++ [jn [wCsr, csrB i, hexB v]] = L ++ (csrW c z (i + 1)).map jn := by
  rw [csrW, List.map_append, List.append_assoc, if_neg (by rw [hv]; exact h0), hv]
  rfl
theorem csrM0 {c z : Cp} {L : List ByteArray} {i : Nat} (hv : c (35 + i) = z (35 + i)) : L ++ (csrW c z i).map jn = L ++ (csrW c z (i + 1)).map jn := by
  rw [csrW, List.map_append, if_pos hv, List.map_nil, List.append_nil]
theorem pmpM {c : Cp} {L : List ByteArray} {i : Nat} {v a : Int} (hv : c (47 + i) = v) (ha : c (63 + i) = a) (h0 : ¬ (v = 0 ∧ a = 0)) : L ++ (pmpW c i).map jn ++ [jn [wPmp, itoaB i, hexB v, hexB a]] = L ++ (pmpW c (i + 1)).map jn := by
  rw [pmpW, List.map_append, List.append_assoc, if_neg (by rw [hv, ha]; exact h0), hv, ha]
  rfl
theorem pmpM0 {c : Cp} {L : List ByteArray} {i : Nat} (hv : c (47 + i) = 0 ∧ c (63 + i) = 0) : L ++ (pmpW c i).map jn = L ++ (pmpW c (i + 1)).map jn := by
  rw [pmpW, List.map_append, if_pos hv, List.map_nil, List.append_nil]
set_option maxHeartbeats 4000000 in
set_option maxRecDepth 100000 in
theorem cpuLines_c (c : Cp) (w : World) (hG : Glob w) (hm : c 33 = 0 ∨ c 33 = 3) (h1 : c 1 = 0) (ho : CpuOk c) :
    Calls Tryd.prog 22 #[.agg (cpuL c).toArray] w (OutL w (cpuLn c)) := by
  obtain ⟨CV, hCV⟩ : ∃ CV, (cpuL c).toArray = CV := ⟨_, rfl⟩
  rw [hCV]
  have HO := Lib.hid ho
  have HG := Lib.hid hG
  have HM := Lib.hid hm
  have H1 := Lib.hid h1
  clear ho hG hm h1
  go_enter Tryd.func22, Tryd.ntmps22
  go_upto_region 1 with (first
    | ((with_reducible refine gate_dst (N := 1) rfl ?_); refine box_event ?hg (N := 1) ?hd (cs := CV) (t := 31) ?hr ?_; (case hd => rfl); (case hg => rfl); (case hr => rfl); intro g hg w1 hb1 hd1; clear hg))
  have hS : CL w g c (.slice none 0 0) [] 0 w1 := ⟨LS.nil hd1 (fun j hj => by have := blk_lt hb1; omega), by rw [← hCV] at hb1; exact hb1, HG.out⟩
  have HS := Lib.hid hS
  clear hS hb1 hd1 hCV HG
  have q := HS.out.x.cell 0 (by omega)
  replace q : _ = some (Value.int .u64 (c 0)) := q
  have hok := HO.out.pc
  obtain ⟨v0, hv0⟩ : ∃ v0, c 0 = v0 := ⟨_, rfl⟩
  rw [hv0] at q hok
  have hz := hexB_size hok
  have z1 := eq_true (show 3 + (hexB v0).size ≤ 9223372036854775807 by omega)
  have y1 : (9223372036854775807 < 3 + (hexB v0).size) = False := eq_false (by omega)
  have HV0 := Lib.hid hv0
  clear hv0 hz
  go_upto_region 3 with (first
    | (go_at_call 21; refine (hex2_c hok _).mono ?_; rintro e w2 ⟨rfl, hd⟩; have hS := HS.out.below hd; clear HS q hd; have HS := Lib.hid hS; clear hS)
    | ((with_reducible refine gate_builtin (b := .append) (xs := #[.tmp 10, .tmp 15]) rfl ?_); at_builtin; refine HS.out.app rfl (.tmp 10) (.tmp 15) rfl _ rfl rfl (by omega) ?_; intro v1 w3 hS2; rw [w_pc] at hS2; clear HS; have HS := Lib.hid hS2; clear hS2))
  clear z1 y1 hok
  have q := HS.out.x.cell 33 (by omega)
  replace q : _ = some (Value.int .i64 (c 33)) := q
  obtain ⟨m, hm⟩ : ∃ m, c 33 = m := ⟨_, rfl⟩
  rw [hm] at q
  have hm03 : m = 0 ∨ m = 3 := by rw [← hm]; exact HM.out
  have HMM := Lib.hid hm
  clear hm
  go_upto_if 19 with (fail)
  go_cut [3] (fun v3 wx => Hid (CL w g c v3 ([jn [wPc, hexB v0]] ++ [jn [wMode, modeB m]]) 2 wx))
  case first =>
    clear HM
    rcases hm03 with rfl | rfl
    · go_wp2_with ((with_reducible refine gate_builtin (b := .append) (xs := #[.tmp 23, .tmp 24]) rfl ?_); at_builtin; refine HS.out.app rfl (.tmp 23) (.tmp 24) rfl _ rfl rfl (by omega) ?_; intro v2 w4 hS2; clear HS q; have HS := Lib.hid hS2; clear hS2)
      go_meet
      rw [w_mode (Or.inl rfl)]
      exact HS
    · go_wp2_with ((with_reducible refine gate_builtin (b := .append) (xs := #[.tmp 20, .tmp 21]) rfl ?_); at_builtin; refine HS.out.app rfl (.tmp 20) (.tmp 21) rfl _ rfl rfl (by omega) ?_; intro v2 w4 hS2; clear HS q; have HS := Lib.hid hS2; clear hS2)
      go_meet
      rw [w_mode (Or.inr rfl)]
      exact HS
  case rest =>
    clear HS q
    have HS := hcut
    clear hcut
    obtain ⟨L2, hL2⟩ : ∃ L2, [jn [wPc, hexB v0]] ++ [jn [wMode, modeB m]] = L2 := ⟨_, rfl⟩
    rw [hL2] at HS
    have HL2 := Lib.hid hL2
    clear hL2
    have q := HS.out.x.cell 34 (by omega)
    replace q : _ = some (Value.bool (decide (c 34 ≠ 0))) := q
    obtain ⟨wv, hwv⟩ : ∃ wv, decide (c 34 ≠ 0) = wv := ⟨_, rfl⟩
    rw [hwv] at q
    have HWV := Lib.hid hwv
    clear hwv
    go_upto_if 27 with (fail)
    go_cut [3] (fun v3 wx => Hid (CL w g c v3 (L2 ++ (if wv = true then [jn [wWait]] else [])) 3 wx))
    case first =>
      cases wv
      · go_wp2
        go_meet
        rw [if_neg (by decide), List.append_nil]
        exact Lib.hid (HS.out.more (by omega))
      · go_wp2_with ((with_reducible refine gate_builtin (b := .append) (xs := #[.tmp 28, .tmp 29]) rfl ?_); at_builtin; refine HS.out.app rfl (.tmp 28) (.tmp 29) rfl _ rfl rfl (by omega) ?_; intro v2 w4 hS2; clear HS q; have HS := Lib.hid hS2; clear hS2)
        go_meet
        rw [if_pos True.intro, jn_1]
        exact HS
    case rest =>
      clear HS q
      have HS := hcut
      clear hcut
      obtain ⟨L3, hL3⟩ : ∃ L3, L2 ++ (if wv = true then [jn [wWait]] else []) = L3 := ⟨_, rfl⟩
      rw [hL3] at HS
      have HL3 := Lib.hid hL3
      clear hL3
      go_wp2
      have HS0 := HS
      clear HS
      go_loopg [3, 4] 31 (fun gm v3 v4 wx => ∃ (v : Value) (i : Nat), v = v3 ∧ v4 = .int .i64 (i : Int) ∧ 1 ≤ i ∧ i ≤ 32 ∧ Hid (gm + i = 32) ∧ Hid (CL w g c v (L3 ++ (regW c i).map jn) (3 + i) wx))
      case atStart => exact ⟨_, 1, rfl, rfl, by omega, by omega, Lib.hid rfl, Lib.hid (by rw [← regM0 (i := 0) H1.out, show (regW c 0).map jn = [] from rfl, List.append_nil]; exact HS0.out.more (by omega))⟩
      case round =>
        clear HS0
        obtain ⟨v, i, rfl, rfl, hi1, hi, HI, HS⟩ := hrel
        by_cases hlt : i < 32
        · obtain ⟨gm, rfl⟩ : ∃ k, gk = k + 1 := ⟨gk - 1, by have := HI.out; omega⟩
          have e0 : (0 : Int) ≤ (i : Int) := by omega
          have e1 : (i : Int) < 32 := by omega
          obtain ⟨x, hx⟩ : ∃ x, c (1 + i) = x := ⟨_, rfl⟩
          have q := cell_xr HS.out.x hlt hx
          have hok := HO.out.x i hlt
          rw [hx] at hok
          cases hz : (x != 0)
          · have hx0 : c (1 + i) = 0 := by rw [hx]; exact bne_eq_false_iff_eq.mp hz
            have hS := HS.out
            rw [regM0 hx0] at hS
            clear HS hx hx0
            have HS := Lib.hid hS
            clear hS
            go_wp2
            go_roundg gm
            case measure => omega
            case rel => exact ⟨_, i + 1, rfl, by go_num, by omega, by omega, Lib.hid (by have := HI.out; omega), Lib.hid (HS.out.more (by omega))⟩
          · have hM := regM (L := L3) hx (bne_iff_ne.mp hz)
            have HM2 := Lib.hid hM
            have HX := Lib.hid hx
            have hr := fun W (hG : Glob W) => reg2_c hlt W hG
            have hh := fun W => hex2_c hok W
            have hrz := regB_size ⟨i, hlt⟩
            dsimp only at hrz
            have hhz := hexB_size hok
            obtain ⟨RB, hRB⟩ : ∃ RB, regB i = RB := ⟨_, rfl⟩
            obtain ⟨HB, hHB⟩ : ∃ HB, hexB x = HB := ⟨_, rfl⟩
            simp only [hRB] at hr hrz HM2
            simp only [hHB] at hh hhz HM2
            have HR := Lib.hid hr
            have HH := Lib.hid hh
            clear hM hx hr hh hRB hHB
            go_upto_region 12 with (fail)
            have hS2 := HS.out.below (below_drew (Below.refl _ _))
            clear HS q hz
            have HS := Lib.hid hS2
            clear hS2
            have q := cell_xr HS.out.x hlt HX.out
            have z1 := eq_true (show 4 + RB.size ≤ 9223372036854775807 by omega)
            have z2 := eq_true (show 4 + RB.size + 1 ≤ 9223372036854775807 by omega)
            have z3 := eq_true (show 4 + RB.size + 1 + HB.size ≤ 9223372036854775807 by omega)
            have y1 : (9223372036854775807 < 4 + RB.size) = False := eq_false (by omega)
            have y2 : (9223372036854775807 < 4 + RB.size + 1) = False := eq_false (by omega)
            have y3 : (9223372036854775807 < 4 + RB.size + 1 + HB.size) = False := eq_false (by omega)
            go_region_held2 (fun w' => w'.cell? ⟨g, 1 + i, none⟩ = some (.int .u64 x)) (first | exact q | exact cell_xr HS.out.x hlt HX.out | go_keep) (first
              | (go_at_call 44; refine (HR.out _ HS.out.gl).mono ?_; rintro e wA ⟨rfl, hd⟩; have hS2 := HS.out.below hd; clear HS hd q; have HS := Lib.hid hS2; clear hS2; have q := cell_xr HS.out.x hlt HX.out)
              | (go_at_call 21; refine (HH.out _).mono ?_; rintro e wB ⟨rfl, hd⟩; have hS2 := HS.out.below hd; clear HS hd q; have HS := Lib.hid hS2; clear hS2; have q := cell_xr HS.out.x hlt HX.out)
              | (refine CL.app_step HS.out (by rfl) (.tmp 40) (.tmp 52) (by rfl) _ (by rfl) (by rfl) (by omega) ?_; intro v1 wC hS2; clear HS q; have HS := Lib.hid hS2; clear hS2; have q := cell_xr HS.out.x hlt HX.out)
              | (refine CL.app_step HS.out (by rfl) (.tmp 40) (.tmp 51) (by rfl) _ (by rfl) (by rfl) (by omega) ?_; intro v1 wC hS2; clear HS q; have HS := Lib.hid hS2; clear hS2; have q := cell_xr HS.out.x hlt HX.out))
            rw [w_reg, HM2.out] at HS
            clear q z1 z2 z3 y1 y2 y3 HM2 HX HR HH
            go_wp2
            go_roundg gm
            case measure => omega
            case rel => exact ⟨_, i + 1, rfl, by go_num, by omega, by omega, Lib.hid (by have := HI.out; omega), HS⟩
        · have hi32 : i = 32 := by omega
          subst hi32
          obtain ⟨L4, hL4⟩ : ∃ L4, L3 ++ (regW c 32).map jn = L4 := ⟨_, rfl⟩
          have hS := HS.out
          rw [hL4] at hS
          clear HS
          have HS := Lib.hid hS
          have HL4 := Lib.hid hL4
          clear hS hL4
          go_upto_region 14 with (first
            | (go_at_call 23; refine (csr2_c (fun _ => 0) (by decide) (by decide) _).mono ?_; rintro e w11 ⟨rfl, hd⟩; have hS2 := HS.out.below hd; clear HS hd; have HS := Lib.hid hS2; clear hS2)
            | ((with_reducible refine gate_ (.store 31 (.tmp 5) (.tmp 54)) rfl ?_); refine wpl_store 31 (.tmp 5) (.tmp 54) rfl rfl (blk_new _ _) (by kernel_rfl) rfl rfl (by kernel_rfl) ?_; intro w12 hR3 hk3 hb3 hs3; have hd3 := hb3 _ _ (Nat.le_refl _) ((Below.refl _ w11).alloc (Nat.le_refl _) _); obtain ⟨b7, hb7⟩ : ∃ b7, w11.heap.size = b7 := ⟨_, rfl⟩; rw [hb7] at hR3 hd3 ⊢; have hS2 := HS.out.zero hb7 hd3 hR3; clear HS hR3 hk3 hb3 hs3 hd3 hb7; have HS := Lib.hid hS2; clear hS2))
          obtain ⟨k4, hk4⟩ : ∃ k4, 3 + 32 = k4 := ⟨_, rfl⟩
          rw [hk4] at HS
          have hk4b : k4 ≤ 100 := by omega
          clear hk4
          go_wp2
          have HS0 := HS
          clear HS
          go_loopg [3, 6] 12 (fun gm v3 v6 wx => ∃ (v : Value) (i : Nat), v = v3 ∧ v6 = .int .i64 (i : Int) ∧ i ≤ 12 ∧ Hid (gm + i = 12) ∧ Hid (CL2 w g b7 c v (L4 ++ (csrW c Z0 i).map jn) (k4 + i) wx))
          case atStart => exact ⟨_, 0, rfl, rfl, by omega, Lib.hid rfl, Lib.hid (by rw [show (csrW c Z0 0).map jn = [] from rfl, List.append_nil]; exact HS0.out)⟩
          case round =>
            clear HS0
            obtain ⟨v, i, rfl, rfl, hi, HI, HS⟩ := hrel
            by_cases hlt : i < 12
            · obtain ⟨gm, rfl⟩ : ∃ k, gk = k + 1 := ⟨gk - 1, by have := HI.out; omega⟩
              have e0 : (0 : Int) ≤ (i : Int) := by omega
              have e1 : (i : Int) < 12 := by omega
              have cF := fun b W => field2_c b i hlt W
              have CF := Lib.hid cF
              obtain ⟨x, hx⟩ : ∃ x, c (35 + i) = x := ⟨_, rfl⟩
              obtain ⟨z, hz⟩ : ∃ z, Z0 (35 + i) = z := ⟨_, rfl⟩
              have hok := HO.out.m i hlt
              rw [hx] at hok
              clear cF
              go_upto_region 19 with (first
                | (go_at_call 45; refine (CF.out _ _).mono ?_; rintro e w14 ⟨rfl, hw⟩; subst hw))
              have hS2 := HS.out.below (below_drew (Below.refl _ _))
              clear HS CF
              have HS := Lib.hid hS2
              clear hS2
              have q3 := cell_m HS.out.x hlt hx
              have q7 := cell_m HS.out.y hlt hz
              have HX := Lib.hid hx
              have HZ := Lib.hid hz
              clear hx hz
              go_region_held2 (fun w' => w'.cell? ⟨g, 35 + i, none⟩ = some (.int .u64 x) ∧ w'.cell? ⟨b7, 35 + i, none⟩ = some (.int .u64 z)) (first | exact ⟨q3, q7⟩ | go_keep) (fail)
              clear q3 q7
              cases hvz : (x != z)
              · have hS := HS.out
                rw [csrM0 (by rw [HX.out, HZ.out]; exact bne_eq_false_iff_eq.mp hvz)] at hS
                clear HS
                have HS := Lib.hid hS
                clear hS
                go_wp2
                go_roundg gm
                case measure => omega
                case rel => exact ⟨_, i + 1, rfl, by go_num, by omega, Lib.hid (by have := HI.out; omega), Lib.hid (HS.out.more (by omega))⟩
              · have hM := csrM (L := L4) (z := Z0) HX.out (by rw [HZ.out]; exact bne_iff_ne.mp hvz)
                have HM2 := Lib.hid hM
                have hn := fun W hG => csr2n_c hlt W hG
                have hcc := fun W (hG : Glob W) => csrs_cell hG hlt
                have hh := fun W => hex2_c hok W
                have hrz := csrB_size ⟨i, hlt⟩
                dsimp only at hrz
                have hhz := hexB_size hok
                obtain ⟨RB, hRB⟩ : ∃ RB, csrB i = RB := ⟨_, rfl⟩
                obtain ⟨HB, hHB⟩ : ∃ HB, hexB x = HB := ⟨_, rfl⟩
                obtain ⟨nn, hnn⟩ : ∃ nn, toldL.getD i 0 = nn := ⟨_, rfl⟩
                simp only [hRB, hnn] at hn hrz HM2
                simp only [hHB] at hh hhz HM2
                simp only [hnn] at hcc
                have HN := Lib.hid hn
                have HC := Lib.hid hcc
                have HH := Lib.hid hh
                clear hM hn hh hRB hHB hnn hcc
                go_upto_region 20 with (fail)
                have hS2 := HS.out.below (below_drew (Below.refl _ _))
                clear HS hvz
                have HS := Lib.hid hS2
                clear hS2
                have q3 := cell_m HS.out.x hlt HX.out
                have q1 := HC.out _ HS.out.gl
                have z1 := eq_true (show 4 + RB.size ≤ 9223372036854775807 by omega)
                have z2 := eq_true (show 4 + RB.size + 1 ≤ 9223372036854775807 by omega)
                have z3 := eq_true (show 4 + RB.size + 1 + HB.size ≤ 9223372036854775807 by omega)
                have y1 : (9223372036854775807 < 4 + RB.size) = False := eq_false (by omega)
                have y2 : (9223372036854775807 < 4 + RB.size + 1) = False := eq_false (by omega)
                have y3 : (9223372036854775807 < 4 + RB.size + 1 + HB.size) = False := eq_false (by omega)
                go_region_held2 (fun w' => w'.cell? ⟨g, 35 + i, none⟩ = some (.int .u64 x) ∧ w'.cell? ⟨1, i, none⟩ = some (.int .i64 nn)) (first | exact ⟨q3, q1⟩ | exact ⟨cell_m HS.out.x hlt HX.out, HC.out _ HS.out.gl⟩ | go_keep) (first
                  | (go_at_call 46; refine (HN.out _ HS.out.gl).mono ?_; rintro e wA ⟨rfl, hd⟩; have hS2 := HS.out.below hd; clear HS hd q3 q1; have HS := Lib.hid hS2; clear hS2; have q3 := cell_m HS.out.x hlt HX.out; have q1 := HC.out _ HS.out.gl)
                  | (go_at_call 21; refine (HH.out _).mono ?_; rintro e wB ⟨rfl, hd⟩; have hS2 := HS.out.below hd; clear HS hd q3 q1; have HS := Lib.hid hS2; clear hS2; have q3 := cell_m HS.out.x hlt HX.out; have q1 := HC.out _ HS.out.gl)
                  | (refine CL2.app_step HS.out (by rfl) (.tmp 70) (.tmp 82) (by rfl) _ (by rfl) (by rfl) (by omega) ?_; intro v1 wC hS2; clear HS q3 q1; have HS := Lib.hid hS2; clear hS2; have q3 := cell_m HS.out.x hlt HX.out; have q1 := HC.out _ HS.out.gl))
                rw [w_csr, HM2.out] at HS
                clear q1 q3 z1 z2 z3 y1 y2 y3 HM2 HX HZ HN HC HH
                go_wp2
                go_roundg gm
                case measure => omega
                case rel => exact ⟨_, i + 1, rfl, by go_num, by omega, Lib.hid (by have := HI.out; omega), HS⟩
            · have hi12 : i = 12 := by omega
              subst hi12
              obtain ⟨L5, hL5⟩ : ∃ L5, L4 ++ (csrW c Z0 12).map jn = L5 := ⟨_, rfl⟩
              obtain ⟨k5, hk5⟩ : ∃ k5, k4 + 12 = k5 := ⟨_, rfl⟩
              have hS := HS.out
              rw [hL5, hk5] at hS
              have hk5b : k5 ≤ 200 := by omega
              clear HS hk5
              have HS := Lib.hid hS
              have HL5 := Lib.hid hL5
              clear hS hL5
              go_wp2
              have HS0 := HS
              clear HS
              go_loopg [3, 9] 16 (fun gm v3 v9 wx => ∃ (v : Value) (i : Nat), v = v3 ∧ v9 = .int .i64 (i : Int) ∧ i ≤ 16 ∧ Hid (gm + i = 16) ∧ Hid (CL2 w g b7 c v (L5 ++ (pmpW c i).map jn) (k5 + i) wx))
              case atStart => exact ⟨_, 0, rfl, rfl, by omega, Lib.hid rfl, Lib.hid (by rw [show (pmpW c 0).map jn = [] from rfl, List.append_nil]; exact HS0.out)⟩
              case round =>
                clear HS0
                obtain ⟨v, i, rfl, rfl, hi, HI, HS⟩ := hrel
                by_cases hlt : i < 16
                · obtain ⟨gm, rfl⟩ : ∃ k, gk = k + 1 := ⟨gk - 1, by have := HI.out; omega⟩
                  have e0 : (0 : Int) ≤ (i : Int) := by omega
                  have e1 : (i : Int) < 16 := by omega
                  obtain ⟨x, hx⟩ : ∃ x, c (47 + i) = x := ⟨_, rfl⟩
                  obtain ⟨a, ha⟩ : ∃ a, c (63 + i) = a := ⟨_, rfl⟩
                  have hokv := (HO.out.p i hlt).1
                  have hoka := (HO.out.p i hlt).2
                  rw [hx] at hokv
                  rw [ha] at hoka
                  have qc := cell_c HS.out.x hlt hx
                  have qa := cell_a HS.out.x hlt ha
                  have HX := Lib.hid hx
                  have HA := Lib.hid ha
                  clear hx ha
                  by_cases hz : x = 0 ∧ a = 0
                  · have hS := HS.out
                    rw [pmpM0 (by rw [HX.out, HA.out]; exact hz)] at hS
                    have b1 : (x != 0) = false := bne_eq_false_iff_eq.mpr hz.1
                    have b2 : (a != 0) = false := bne_eq_false_iff_eq.mpr hz.2
                    clear HS hz
                    have HS := Lib.hid hS
                    clear hS
                    go_wp2
                    go_roundg gm
                    case measure => omega
                    case rel => exact ⟨_, i + 1, rfl, by go_num, by omega, Lib.hid (by have := HI.out; omega), Lib.hid (HS.out.more (by omega))⟩
                  · have hM := pmpM (L := L5) HX.out HA.out hz
                    have HM2 := Lib.hid hM
                    clear hM
                    have hdz := itoa_size i (by omega)
                    have hvz := hexB_size hokv
                    have haz := hexB_size hoka
                    cases hv0 : (x != 0) <;> cases ha0 : (a != 0)
                    · exact absurd ⟨bne_eq_false_iff_eq.mp hv0, bne_eq_false_iff_eq.mp ha0⟩ hz
                    all_goals
                      clear hz
                      go_upto_region 25 with (fail)
                      have hS2 := HS.out.below (below_drew (Below.refl _ _))
                      clear HS hv0 ha0 qc qa
                      have HS := Lib.hid hS2
                      clear hS2
                      have qc := cell_c HS.out.x hlt HX.out
                      have qa := cell_a HS.out.x hlt HA.out
                      have hwv := wrap_ok hokv
                      have z1 := eq_true (show 4 + (itoaB (i : Int)).size ≤ 9223372036854775807 by omega)
                      have z2 := eq_true (show 4 + (itoaB (i : Int)).size + 1 ≤ 9223372036854775807 by omega)
                      have z3 := eq_true (show 4 + (itoaB (i : Int)).size + 1 + (hexB x).size ≤ 9223372036854775807 by omega)
                      have z4 := eq_true (show 4 + (itoaB (i : Int)).size + 1 + (hexB x).size + 1 ≤ 9223372036854775807 by omega)
                      have z5 := eq_true (show 4 + (itoaB (i : Int)).size + 1 + (hexB x).size + 1 + (hexB a).size ≤ 9223372036854775807 by omega)
                      have y1 : (9223372036854775807 < 4 + (itoaB (i : Int)).size) = False := eq_false (by omega)
                      have y2 : (9223372036854775807 < 4 + (itoaB (i : Int)).size + 1) = False := eq_false (by omega)
                      have y3 : (9223372036854775807 < 4 + (itoaB (i : Int)).size + 1 + (hexB x).size) = False := eq_false (by omega)
                      have y4 : (9223372036854775807 < 4 + (itoaB (i : Int)).size + 1 + (hexB x).size + 1) = False := eq_false (by omega)
                      have y5 : (9223372036854775807 < 4 + (itoaB (i : Int)).size + 1 + (hexB x).size + 1 + (hexB a).size) = False := eq_false (by omega)
                      go_region_held2 (fun w' => w'.cell? ⟨g, 47 + i, none⟩ = some (.int .u8 x) ∧ w'.cell? ⟨g, 63 + i, none⟩ = some (.int .u64 a)) (first | exact ⟨qc, qa⟩ | exact ⟨cell_c HS.out.x hlt HX.out, cell_a HS.out.x hlt HA.out⟩ | go_keep) (first
                        | (go_at_call 20; refine (dec2_c (n := (i : Int)) (by omega) (by omega) _).mono ?_; rintro e wA ⟨rfl, hd⟩; have hS2 := HS.out.below hd; clear HS hd qc qa; have HS := Lib.hid hS2; clear hS2; have qc := cell_c HS.out.x hlt HX.out; have qa := cell_a HS.out.x hlt HA.out)
                        | (go_at_call 21; refine (hex2_c (by assumption) _).mono ?_; rintro e wB ⟨rfl, hd⟩; have hS2 := HS.out.below hd; clear HS hd qc qa; have HS := Lib.hid hS2; clear hS2; have qc := cell_c HS.out.x hlt HX.out; have qa := cell_a HS.out.x hlt HA.out)
                        | (refine CL2.app_step HS.out (by rfl) (.tmp 102) (.tmp 123) (by rfl) _ (by rfl) (by rfl) (by omega) ?_; intro v1 wC hS2; clear HS qc qa; have HS := Lib.hid hS2; clear hS2; have qc := cell_c HS.out.x hlt HX.out; have qa := cell_a HS.out.x hlt HA.out))
                      rw [w_pmp, HM2.out] at HS
                      clear qc qa z1 z2 z3 z4 z5 y1 y2 y3 y4 y5 hwv HM2 HX HA
                      go_wp2
                      go_roundg gm
                      case measure => omega
                      case rel => exact ⟨_, i + 1, rfl, by go_num, by omega, Lib.hid (by have := HI.out; omega), HS⟩
                · have hi16 : i = 16 := by omega
                  subst hi16
                  obtain ⟨L6, hL6⟩ : ∃ L6, L5 ++ (pmpW c 16).map jn = L6 := ⟨_, rfl⟩
                  obtain ⟨k6, hk6⟩ : ∃ k6, k5 + 16 = k6 := ⟨_, rfl⟩
                  have hk6b : k6 ≤ 300 := by omega
                  have hS := HS.out
                  rw [hL6, hk6] at hS
                  clear HS hk6
                  have HS := Lib.hid hS
                  have HL6 := Lib.hid hL6
                  clear hS hL6
                  have q := HS.out.x.cell 79 (by omega)
                  replace q : _ = some (Value.bool (decide (c 79 ≠ 0))) := q
                  obtain ⟨rv, hrv⟩ : ∃ rv, decide (c 79 ≠ 0) = rv := ⟨_, rfl⟩
                  rw [hrv] at q
                  have HRV := Lib.hid hrv
                  clear hrv
                  have hend : cpuLn c = L6 ++ (if c 79 = 0 then [] else [jn [wRes, hexB (c 80), itoaB (c 81)]]) := by
                    unfold cpuLn
                    rw [HV0.out, HMM.out, ← HL6.out, ← HL5.out, ← HL4.out, ← HL3.out, ← HL2.out]
                    have hw : (if c 34 = 0 then ([] : List ByteArray) else [jn [wWait]]) = if wv = true then [jn [wWait]] else [] := by
                      by_cases h34 : c 34 = 0
                      · rw [if_pos h34, if_neg (by rw [← HWV.out]; simp [h34])]
                      · rw [if_neg h34, if_pos (by rw [← HWV.out]; simp [h34])]
                    rw [hw]
                  have HEND := Lib.hid hend
                  clear hend
                  cases rv
                  · have h79 : c 79 = 0 := by have := of_decide_eq_false HRV.out; omega
                    have H79 := Lib.hid h79
                    clear h79
                    go_wp2
                    go_ret
                    rw [HEND.out, if_pos H79.out, List.append_nil]
                    exact HS.out.s.out
                  · have h79 : c 79 ≠ 0 := of_decide_eq_true HRV.out
                    have H79 := Lib.hid h79
                    clear h79
                    go_upto_region 27 with (fail)
                    have hS2 := HS.out.below (below_drew (Below.refl _ _))
                    clear HS q
                    have HS := Lib.hid hS2
                    clear hS2
                    obtain ⟨ra, hra⟩ : ∃ ra, c 80 = ra := ⟨_, rfl⟩
                    obtain ⟨rs, hrs⟩ : ∃ rs, c 81 = rs := ⟨_, rfl⟩
                    have hokr := HO.out.rs.1
                    have hoks := HO.out.rs.2
                    rw [hra] at hokr
                    rw [hrs] at hoks
                    have HRA := Lib.hid hra
                    have HRS := Lib.hid hrs
                    clear hra hrs
                    have q0 := cell_80 HS.out.x HRA.out
                    have q1 := cell_81 HS.out.x HRS.out
                    have hdz := itoaZ rs hoks.1 hoks.2
                    have hvz := hexB_size hokr
                    have z1 := eq_true (show 4 + (hexB ra).size ≤ 9223372036854775807 by omega)
                    have z2 := eq_true (show 4 + (hexB ra).size + 1 ≤ 9223372036854775807 by omega)
                    have z3 := eq_true (show 4 + (hexB ra).size + 1 + (itoaB rs).size ≤ 9223372036854775807 by omega)
                    have y1 : (9223372036854775807 < 4 + (hexB ra).size) = False := eq_false (by omega)
                    have y2 : (9223372036854775807 < 4 + (hexB ra).size + 1) = False := eq_false (by omega)
                    have y3 : (9223372036854775807 < 4 + (hexB ra).size + 1 + (itoaB rs).size) = False := eq_false (by omega)
                    go_region_held2 (fun w' => w'.cell? ⟨g, 80, none⟩ = some (.int .u64 ra) ∧ w'.cell? ⟨g, 81, none⟩ = some (.int .i64 rs)) (first | exact ⟨q0, q1⟩ | exact ⟨cell_80 HS.out.x HRA.out, cell_81 HS.out.x HRS.out⟩ | go_keep) (first
                      | (go_at_call 21; refine (hex2_c hokr _).mono ?_; rintro e wB ⟨rfl, hd⟩; have hS2 := HS.out.below hd; clear HS hd q0 q1; have HS := Lib.hid hS2; clear hS2; have q0 := cell_80 HS.out.x HRA.out; have q1 := cell_81 HS.out.x HRS.out)
                      | (go_at_call 20; refine (dec2_c hoks.1 hoks.2 _).mono ?_; rintro e wA ⟨rfl, hd⟩; have hS2 := HS.out.below hd; clear HS hd q0 q1; have HS := Lib.hid hS2; clear hS2; have q0 := cell_80 HS.out.x HRA.out; have q1 := cell_81 HS.out.x HRS.out)
                      | (refine CL2.app_step HS.out (by rfl) (.tmp 128) (.tmp 140) (by rfl) _ (by rfl) (by rfl) (by omega) ?_; intro v1 wC hS2; clear HS q0 q1; have HS := Lib.hid hS2; clear hS2; have q0 := cell_80 HS.out.x HRA.out; have q1 := cell_81 HS.out.x HRS.out))
                    rw [w_res] at HS
                    go_wp2
                    go_ret
                    rw [HEND.out, if_neg H79.out, HRA.out, HRS.out]
                    exact HS.out.s.out
end Go.Proofs.YtbmnifnahbehbaaDoor

/- anvilref14.partLines: the document's lines of a part. -/
set_option linter.unusedVariables false
namespace Go.Proofs.YtbmnifnahbehbaaDoor
open Go.RowKit Go.Lib Go.Shelf Go.Proofs.YtbmnifnahbehbaaDoorW.PrintWords Go.Proofs.YtbmnifnahbehbaaDoorW.PrintMore Go.Proofs.YtbmnifnahbehbaaDoorW.PrintLast
open PPr
def flagA : Array Value := #[.string ⟨#[45]⟩, .string ⟨#[114]⟩, .string ⟨#[119]⟩, .string ⟨#[114, 119]⟩, .string ⟨#[120]⟩, .string ⟨#[114, 120]⟩, .string ⟨#[119, 120]⟩, .string ⟨#[114, 119, 120]⟩]
theorem flagA_cell {W : World} {g : Nat} (h : W.heap[g]? = some (.cells flagA 61 (0, 0))) {n : Nat} (hn : n < 8) : W.cell? ⟨g, n, none⟩ = some (.string (flagW (n : Int))) := by
  rw [blk_cell h n]
  match n, hn with
  | 0, _ => rfl
  | 1, _ => rfl
  | 2, _ => rfl
  | 3, _ => rfl
  | 4, _ => rfl
  | 5, _ => rfl
  | 6, _ => rfl
  | 7, _ => rfl
theorem take_min {l : List Int} {n m : Nat} (hn : l.length = n) (hm : min (n : Int) 32 = (m : Int)) : l.take m = l.take 32 ∧ l.drop m = l.drop 32 := by
  by_cases h : n < 32
  · have : m = n := by omega
    rw [this, List.take_of_length_le (by omega), List.take_of_length_le (by omega), List.drop_of_length_le (by omega), List.drop_of_length_le (by omega)]
    exact ⟨rfl, rfl⟩
  · have : m = 32 := by omega
    rw [this]
    exact ⟨rfl, rfl⟩
theorem twos_len (l : List Int) : (twos l).length = 2 * l.length := by
  unfold twos
  induction l with
  | nil => rfl
  | cons x r ih => rw [List.flatMap_cons, List.length_append, ih, two_len, List.length_cons]; omega
set_option maxHeartbeats 4000000 in
set_option maxRecDepth 100000 in
theorem partLines_c (s : S46) (hok : PtOk s) (A : Option Addr) (c : Nat) (w : World) (hC : Kd.C (Kd.int .u8) w A s.f3.length s.f3) (hc : s.f3.length ≤ c) :
    Calls Tryd.prog 24 #[.agg #[.int .u64 s.f0, .int .u64 s.f1, .int .i64 s.f2, .slice A s.f3.length c]] w (OutL w (partL s)) := by
  obtain ⟨f0, f1, f2, f3⟩ := s
  obtain ⟨h0, hz, hf, hb, hn⟩ := hok
  dsimp only at h0 hz hf hb hn hC hc ⊢
  obtain ⟨n1, rfl⟩ := Int.eq_ofNat_of_zero_le hz.1
  obtain ⟨n2, rfl⟩ := Int.eq_ofNat_of_zero_le hf.1
  have hn1 : n1 < 1000000 := by have := hz.2; omega
  have hn2 : n2 < 8 := by have := hf.2; omega
  have HC := Lib.hid (Kd.reads_of_C (enc := Value.int .u8) (d := (0 : Int)) (h1 := fun _ => rfl) hC)
  have HB := Lib.hid hb
  have HCC := Lib.hid hc
  obtain ⟨m0, hm0⟩ : ∃ m0, f3.length = m0 := ⟨_, rfl⟩
  rw [hm0] at hn HC HCC
  rw [hm0]
  have HM0 := Lib.hid hm0
  obtain ⟨PL, hPL⟩ : ∃ PL, partL ⟨f0, (n1 : Int), (n2 : Int), f3⟩ = PL := ⟨_, rfl⟩
  rw [hPL]
  have HPL := Lib.hid hPL
  clear hC hc hb hz hf hm0 hPL
  go_enter Tryd.func24, Tryd.ntmps24
  go_upto_region 3 with (first
    | ((with_reducible refine gate_dst (N := 1) rfl ?_); refine box_event ?hg (N := 1) ?hd (cs := #[.int .u64 f0, .int .u64 (n1 : Int), .int .i64 (n2 : Int), .slice A m0 c]) (t := 46) ?hr ?_; (case hd => rfl); (case hg => rfl); (case hr => rfl); intro gp hg w1 hb1 hd1; clear hg))
  have hR3 := blk_new w1 (Obj.cells flagA 61)
  have hd3 : Below w.heap.size w (w1.alloc (Obj.cells flagA 61)) := hd1.alloc hd1.size _
  have hx3 := blk_alloc hb1 (Obj.cells flagA 61)
  obtain ⟨w3, hw3⟩ : ∃ w3, w1.alloc (Obj.cells flagA 61) = w3 := ⟨_, rfl⟩
  rw [hw3] at hR3 hd3 hx3
  unfold flagA at hw3
  rw [hw3]
  obtain ⟨ga, hga⟩ : ∃ ga, w1.heap.size = ga := ⟨_, rfl⟩
  rw [hga] at hR3 ⊢
  have HD := Lib.hid hd3
  have q0 := blk_cell hx3 0
  have q1 := blk_cell hx3 1
  have q2 := blk_cell hx3 2
  have q3 := blk_cell hx3 3
  replace q0 : w3.cell? ⟨gp, 0, none⟩ = some (.int .u64 f0) := q0
  replace q1 : w3.cell? ⟨gp, 1, none⟩ = some (.int .u64 (n1 : Int)) := q1
  replace q2 : w3.cell? ⟨gp, 2, none⟩ = some (.int .i64 (n2 : Int)) := q2
  replace q3 : w3.cell? ⟨gp, 3, none⟩ = some (.slice A m0 c) := q3
  have q4 := flagA_cell hR3 hn2
  obtain ⟨FL, hFL⟩ : ∃ FL, flagW (n2 : Int) = FL := ⟨_, rfl⟩
  rw [hFL] at q4
  have hFz : FL.size ≤ 3 := hFL ▸ flag_size _
  have hHz := hexB_size h0
  have hDz := itoa_size n1 hn1
  have hpw : (⟨#[112, 97, 114, 116, 32]⟩ : ByteArray) ++ hexB f0 ++ ⟨#[32]⟩ ++ itoaB (n1 : Int) ++ ⟨#[32]⟩ ++ FL = partW ⟨f0, (n1 : Int), (n2 : Int), f3⟩ := by
    unfold partW
    rw [← hFL, itoaN]
    rfl
  have hdec := fun W => dec2_c (n := (n1 : Int)) (by omega) (by omega) W
  obtain ⟨DW, hDW⟩ : ∃ DW, itoaB (n1 : Int) = DW := ⟨_, rfl⟩
  rw [hDW] at hDz hpw
  simp only [hDW] at hdec
  obtain ⟨HW, hHW⟩ : ∃ HW, hexB f0 = HW := ⟨_, rfl⟩
  have hhex := fun W => hex2_c h0 W
  rw [hHW] at hHz hpw
  simp only [hHW] at hhex
  have hS : LS w3 (fun _ => True) (.slice none 0 0) [] 0 w3 := LS.nil (Below.refl _ _) (fun _ _ => trivial)
  have HS := Lib.hid (hS.below (below_drew (Below.refl _ _)))
  have HQ := Lib.hid (And.intro q0 (And.intro q1 (And.intro q2 q4)))
  have HQ3 := Lib.hid q3
  have hcs : ∀ v L k W, LS w3 (fun _ => True) v L k W → W.cell? ⟨gp, 0, none⟩ = some (.int .u64 f0) ∧ W.cell? ⟨gp, 1, none⟩ = some (.int .u64 (n1 : Int)) ∧ W.cell? ⟨gp, 2, none⟩ = some (.int .i64 (n2 : Int)) ∧ W.cell? ⟨ga, n2, none⟩ = some (.string FL) := fun v L k W h =>
    ⟨h.cell HQ.out.1, h.cell HQ.out.2.1, h.cell HQ.out.2.2.1, h.cell HQ.out.2.2.2⟩
  have HCS := Lib.hid hcs
  have HPW := Lib.hid hpw
  have HDEC := Lib.hid hdec
  have HHEX := Lib.hid hhex
  have p2 := eq_true (show (0 : Int) ≤ (n2 : Int) by omega)
  have p3 := eq_true (show (n2 : Int) < 8 by omega)
  have z1 := eq_true (show 5 + HW.size ≤ 9223372036854775807 by omega)
  have z2 := eq_true (show 5 + HW.size + 1 ≤ 9223372036854775807 by omega)
  have z3 := eq_true (show 5 + HW.size + 1 + DW.size ≤ 9223372036854775807 by omega)
  have z4 := eq_true (show 5 + HW.size + 1 + DW.size + 1 ≤ 9223372036854775807 by omega)
  have z5 := eq_true (show 5 + HW.size + 1 + DW.size + 1 + FL.size ≤ 9223372036854775807 by omega)
  have y1 : (9223372036854775807 < 5 + HW.size) = False := eq_false (by omega)
  have y2 : (9223372036854775807 < 5 + HW.size + 1) = False := eq_false (by omega)
  have y3 : (9223372036854775807 < 5 + HW.size + 1 + DW.size) = False := eq_false (by omega)
  have y4 : (9223372036854775807 < 5 + HW.size + 1 + DW.size + 1) = False := eq_false (by omega)
  have y5 : (9223372036854775807 < 5 + HW.size + 1 + DW.size + 1 + FL.size) = False := eq_false (by omega)
  have E0 : IntKind.i64.wrap (n1 : Int) = (n1 : Int) := by rw [IntKind.wrap_i64]; omega
  clear hS q0 q1 q2 q3 q4 hFL hFz hHz hDz hpw hdec hhex hcs hDW hHW hx3 hw3 hR3 hb1 hd1 hd3 hga h0 hn1
  obtain ⟨qa, qb, qc, qd⟩ := HCS.out _ _ _ _ HS.out
  go_region_held2 (fun w' => w'.cell? ⟨gp, 0, none⟩ = some (.int .u64 f0) ∧ w'.cell? ⟨gp, 1, none⟩ = some (.int .u64 (n1 : Int)) ∧ w'.cell? ⟨gp, 2, none⟩ = some (.int .i64 (n2 : Int)) ∧ w'.cell? ⟨ga, n2, none⟩ = some (.string FL)) (first | exact ⟨qa, qb, qc, qd⟩ | exact HCS.out _ _ _ _ HS.out | go_keep) (first
    | (go_at_call 21; refine (HHEX.out _).mono ?_; rintro e wA ⟨rfl, hd⟩; have hS2 := HS.out.below hd; clear HS hd qa qb qc qd; have HS := Lib.hid hS2; clear hS2; obtain ⟨qa, qb, qc, qd⟩ := HCS.out _ _ _ _ HS.out)
    | (go_at_call 20; refine (HDEC.out _).mono ?_; rintro e wB ⟨rfl, hd⟩; have hS2 := HS.out.below hd; clear HS hd qa qb qc qd; have HS := Lib.hid hS2; clear hS2; obtain ⟨qa, qb, qc, qd⟩ := HCS.out _ _ _ _ HS.out)
    | (refine LS.app_step HS.out (by rfl) (.tmp 8) (.tmp 25) (by rfl) _ (by rfl) (by rfl) (by omega) ?_; intro v1 wC hS2 _; clear HS qa qb qc qd; have HS := Lib.hid hS2; clear hS2; obtain ⟨qa, qb, qc, qd⟩ := HCS.out _ _ _ _ HS.out))
  rw [HPW.out] at HS
  have hC0 : [partW ⟨f0, (n1 : Int), (n2 : Int), f3⟩] ++ dataL f3 = PL := HPL.out
  have hq3 := fun v L k W (h : LS w3 (fun _ => True) v L k W) => h.cell HQ3.out
  have HQ4 := Lib.hid hq3
  have HT := Lib.hid hC0
  have q3 := HQ4.out _ _ _ _ HS.out
  clear qa qb qc qd z1 z2 z3 z4 z5 y1 y2 y3 y4 y5 HPW HDEC HHEX HQ HCS p2 p3 E0 hC0 hq3 HPL
  obtain ⟨L1, hL1⟩ : ∃ L1, [] ++ [partW ⟨f0, (n1 : Int), (n2 : Int), f3⟩] = L1 := ⟨_, rfl⟩
  have hT := HT.out
  rw [show [partW ⟨f0, (n1 : Int), (n2 : Int), f3⟩] = L1 from hL1] at hT
  rw [hL1] at HS
  clear HT hL1
  have HT := Lib.hid hT
  clear hT
  go_upto_region 5 with (fail)
  clear q3
  have HS0 := HS
  clear HS
  go_loopg [4, 5] m0 (fun gm v4 v5 wx => ∃ (v : Value) (bl : List Int) (nb : Nat) (Ab : Option Addr) (cb : Nat) (L : List ByteArray), v = v4 ∧ v5 = .slice Ab nb cb ∧ nb ≤ cb ∧ nb ≤ m0 ∧ Hid (gm = nb) ∧ Hid (bl.length = nb) ∧ Hid (ReadsOf (Value.int .u8) (0 : Int) w Ab nb bl) ∧ Hid (BytesI bl) ∧ Hid (LS w3 (fun _ => True) v L (65540 - nb) wx) ∧ Hid (L ++ dataL bl = PL))
  case atStart => exact ⟨_, f3, m0, A, c, L1, rfl, rfl, HCC.out, Nat.le_refl _, Lib.hid rfl, HM0, HC, HB, Lib.hid (HS0.out.more (by omega)), HT⟩
  case round =>
    clear HS0 HT HM0 HC HB HCC
    obtain ⟨v, bl, nb, Ab, cb, L, rfl, rfl, hcb, hnb, HI, HLN, HRD, HBY, HS, HT⟩ := hrel
    by_cases h0 : 0 < nb
    · have p0 : decide ((0 : Int) < (nb : Int)) = true := decide_eq_true (by omega)
      have p1 : decide (0 < nb) = true := decide_eq_true h0
      obtain ⟨m, hm⟩ : ∃ m : Nat, min (nb : Int) 32 = (m : Int) := ⟨min nb 32, by omega⟩
      have hmn : m ≤ nb ∧ m ≤ 32 ∧ 0 < m := by omega
      obtain ⟨ht, hd⟩ := take_min HLN.out hm
      obtain ⟨i0, hi0, _, hsz5, _⟩ := info_parts info5
      have hcut1 := print_take_of (P := Tryd.prog) (Value.int .u8) (0 : Int) 44 5 .i64 Tryd.underlying44 hi0 hsz5 Ab cb bl (m : Int) (by omega) (by rw [HLN.out]; omega) (by rw [HLN.out]; exact hcb)
      obtain ⟨A2, hcut2, hr2, hc2⟩ := print_drop_of (P := Tryd.prog) (Value.int .u8) (0 : Int) 44 5 .i64 Tryd.underlying44 hi0 hsz5 Ab cb bl (m : Int) (by omega) (by rw [HLN.out]; omega) (by rw [HLN.out]; exact hcb)
      obtain ⟨hcut1, hr1, hc1⟩ := hcut1
      have hr1 := hr1 w (by rw [HLN.out]; exact HRD.out)
      have hr2 := hr2 w (by rw [HLN.out]; exact HRD.out)
      simp only [Int.toNat_natCast] at hcut1 hcut2 hr1 hr2 hc1 hc2
      rw [HLN.out] at hcut1 hcut2
      have hT := HT.out
      rw [dataL_cons (l := bl) (by rw [HLN.out]; omega), ← ht, ← hd] at hT
      have hl1 : (bl.take m).length = m := by rw [List.length_take, HLN.out]; omega
      have hl2 : (bl.drop m).length = nb - m := by rw [List.length_drop, HLN.out]
      have hb1 : BytesI (bl.take m) := fun b hb => HBY.out b (List.mem_of_mem_take hb)
      have hb2 : BytesI (bl.drop m) := fun b hb => HBY.out b (List.mem_of_mem_drop hb)
      obtain ⟨ch, hch⟩ : ∃ ch, bl.take m = ch := ⟨_, rfl⟩
      obtain ⟨bl2, hbl2⟩ : ∃ bl2, bl.drop m = bl2 := ⟨_, rfl⟩
      rw [hch] at hT hl1 hb1 hr1 hcut1 hc1
      rw [hbl2] at hT hl2 hb2 hr2 hcut2 hc2
      rw [hl1] at hcut1 hr1
      rw [hl2] at hcut2 hr2 hc2
      have hbd := fun W (hb : Below w.heap.size w W) => bd_c ch hb1 (by omega) Ab cb W (by rw [hl1]; exact Kd.C_below (Kd.C_of_reads hr1) hb) (by omega)
      rw [hl1] at hbd
      have htl := twos_len ch
      rw [hl1] at htl
      obtain ⟨TB, hTB⟩ : ∃ TB : ByteArray, (⟨(twos ch).toArray⟩ : ByteArray) = TB := ⟨_, rfl⟩
      have hTz : TB.size ≤ 64 := by rw [← hTB, arr_size]; omega
      have hdw : (⟨#[100, 97, 116, 97, 32]⟩ : ByteArray) ++ TB = dataW ch := by rw [← hTB]; rfl
      simp only [hTB] at hbd
      have z1 := eq_true (show 5 + TB.size ≤ 9223372036854775807 by omega)
      have y1 : (9223372036854775807 < 5 + TB.size) = False := eq_false (by omega)
      obtain ⟨cb2, hcb2⟩ : ∃ cb2, cb - m = cb2 := ⟨_, rfl⟩
      obtain ⟨nb2, hnb2⟩ : ∃ nb2, nb - m = nb2 := ⟨_, rfl⟩
      rw [hcb2] at hcut2 hc2
      rw [hnb2] at hcut2 hl2 hr2 hc2
      have hnn : nb2 < nb := by omega
      have HBD := Lib.hid hbd
      have HL2 := Lib.hid hl2
      have HR2 := Lib.hid hr2
      have HB2 := Lib.hid hb2
      have HDW := Lib.hid hdw
      have HT2 := Lib.hid hT
      have HDB := HD.out
      clear hbd hl1 hl2 hr1 hr2 hb1 hb2 hdw hT hTB hch hbl2 ht hd htl hi0 hsz5 hcb2 HLN HRD HBY HT HDB hc1
      go_wp2_with (first
        | (go_at_call 49; refine (HBD.out _ (HD.out.trans (HS.out.b.mono HD.out.size))).mono ?_; rintro e wA ⟨rfl, hd⟩; have hS2 := HS.out.below hd; clear HS hd; have HS := Lib.hid hS2; clear hS2)
        | ((with_reducible refine gate_builtin (b := .append) (xs := #[.tmp 35, .tmp 41]) rfl ?_); at_builtin; refine LS.app HS.out rfl (.tmp 35) (.tmp 41) rfl _ rfl rfl (by omega) ?_; intro v1 wB hS2 _; clear HS; have HS := Lib.hid hS2; clear hS2))
      rw [HDW.out] at HS
      clear hcut1 hcut2 z1 y1 hm p0 p1
      go_roundg nb2
      case measure => have := HI.out; omega
      case rel => exact ⟨_, bl2, nb2, A2, cb2, _, rfl, rfl, hc2, by omega, Lib.hid rfl, HL2, HR2, HB2, Lib.hid (HS.out.more (by omega)), Lib.hid (by rw [List.append_assoc]; exact HT2.out)⟩
    · have p0 : decide ((0 : Int) < (nb : Int)) = false := decide_eq_false (by omega)
      have p1 : decide (0 < nb) = false := decide_eq_false h0
      have hT := HT.out
      have hbl : bl = [] := List.eq_nil_of_length_eq_zero (by rw [HLN.out]; omega)
      rw [hbl, dataL_nil, List.append_nil] at hT
      have HT2 := Lib.hid hT
      clear hT hbl HT
      go_wp2
      go_ret
      rw [← HT2.out]
      exact HS.out.outb HD.out
end Go.Proofs.YtbmnifnahbehbaaDoor

-- BY PROGRAM of this session (the kit's printer, turned by wip/tools/patch_print.py). Lean checks it.
namespace Go.Proofs.YtbmnifnahbehbaaDoor.PPr
open Go.RowKit Go.Proofs.YtbmnifnahbehbaaDoorW.PrintWords Go.Proofs.YtbmnifnahbehbaaDoorW.PrintLast Go.Proofs.YtbmnifnahbehbaaDoorW.PrintMore
attribute [local go_sem] max2_int min2_int max_two min_two max_three min_three max_four min_four   -- for this text's walks alone
set_option linter.unusedVariables false
set_option linter.unusedSimpArgs false

/-! ### anvilref14_Quote: function 50 -/
mutual
def anvilref14_Quote.l0 : Nat → List Int → List Int → Int → Option (ByteArray)
  | 0, _, _, _ => none
  | k + 1, x0, x3, x4 => if x4 < (x0.length : Int) then (if 0 ≤ x4 then (if (rd x0 x4) = 34 then (anvilref14_Quote.j1 k x0 x3 x4 (rd x0 x4) true) else (anvilref14_Quote.j1 k x0 x3 x4 (rd x0 x4) ((rd x0 x4) == 92))) else (none)) else (if x3.length < 140737488355328 then (some (strOfNums (x3 ++ [34]))) else (none))
def anvilref14_Quote.j1 : Nat → List Int → List Int → Int → Int → Bool → Option (ByteArray)
  | 0, _, _, _, _, _ => none
  | k + 1, x0, x3, x4, x5, x21 => if x21 = true then ((some (([92, x5] : List Int) : List Int)).bind fun y201 => (if x3.length + y201.length < 140737488355328 then (anvilref14_Quote.l0 k x0 (x3 ++ y201) (wrap64 (x4 + 1))) else (none))) else (if x5 = 10 then ((some (([92, 110] : List Int) : List Int)).bind fun y207 => (if x3.length + y207.length < 140737488355328 then (anvilref14_Quote.l0 k x0 (x3 ++ y207) (wrap64 (x4 + 1))) else (none))) else (if x5 < 32 then ((some (([92, 120] : List Int) : List Int)).bind fun y213 => (if x3.length + y213.length < 140737488355328 then ((some (x3 ++ y213 : List Int)).bind fun y216 => ((anvilref07_Digits.f k (IntKind.u64.wrap (x5)) 2).bind fun t219 => (if y216.length + t219.size < 140737488355328 then (anvilref14_Quote.l0 k x0 (y216 ++ bytesOf t219) (wrap64 (x4 + 1))) else (none)))) else (none))) else (if x5 > 126 then ((some (([92, 120] : List Int) : List Int)).bind fun y223 => (if x3.length + y223.length < 140737488355328 then ((some (x3 ++ y223 : List Int)).bind fun y226 => ((anvilref07_Digits.f k (IntKind.u64.wrap (x5)) 2).bind fun t229 => (if y226.length + t229.size < 140737488355328 then (anvilref14_Quote.l0 k x0 (y226 ++ bytesOf t229) (wrap64 (x4 + 1))) else (none)))) else (none))) else (if x3.length < 140737488355328 then (anvilref14_Quote.l0 k x0 (x3 ++ [x5]) (wrap64 (x4 + 1))) else (none)))))
end
def anvilref14_Quote.f (k : Nat) (l0 : List Int) : Option (ByteArray) := anvilref14_Quote.l0 k l0 (([34] : List Int)) 0
theorem anvilref14_Quote.mono_l : ∀ k, (∀ y0 y1 y2, LeO (anvilref14_Quote.l0 k y0 y1 y2) (anvilref14_Quote.l0 (k + 1) y0 y1 y2)) ∧ (∀ y0 y1 y2 y3 y4, LeO (anvilref14_Quote.j1 k y0 y1 y2 y3 y4) (anvilref14_Quote.j1 (k + 1) y0 y1 y2 y3 y4))
  | 0 => ⟨fun _ _ _ r h => by simp [anvilref14_Quote.l0] at h, fun _ _ _ _ _ r h => by simp [anvilref14_Quote.j1] at h⟩
  | k + 1 => by
    obtain ⟨ih0, ih1⟩ := anvilref14_Quote.mono_l k
    refine ⟨?_, ?_⟩
    · intro y0 y1 y2
      unfold anvilref14_Quote.l0
      repeat' first
      | (with_reducible exact ih0 _ _ _)
      | (with_reducible exact ih1 _ _ _ _ _)
      | (with_reducible exact anvilref07_Digits.mono _ _ _)
      | (with_reducible exact LeO.refl _)
      | (with_reducible exact LeO.none _)
      | (with_reducible refine LeO.ite ?_ ?_)
      | (with_reducible refine LeO.bind ?_ (fun _ => ?_))
      | exact ih0 _ _ _
      | exact ih1 _ _ _ _ _
      | exact anvilref07_Digits.mono _ _ _
      | exact LeO.none _
      | refine LeO.ite ?_ ?_
      | refine LeO.bind ?_ (fun _ => ?_)
    · intro y0 y1 y2 y3 y4
      unfold anvilref14_Quote.j1
      repeat' first
      | (with_reducible exact ih0 _ _ _)
      | (with_reducible exact ih1 _ _ _ _ _)
      | (with_reducible exact anvilref07_Digits.mono _ _ _)
      | (with_reducible exact LeO.refl _)
      | (with_reducible exact LeO.none _)
      | (with_reducible refine LeO.ite ?_ ?_)
      | (with_reducible refine LeO.bind ?_ (fun _ => ?_))
      | exact ih0 _ _ _
      | exact ih1 _ _ _ _ _
      | exact anvilref07_Digits.mono _ _ _
      | exact LeO.none _
      | refine LeO.ite ?_ ?_
      | refine LeO.bind ?_ (fun _ => ?_)
theorem anvilref14_Quote.mono : ∀ a0 k, LeO (anvilref14_Quote.f k a0) (anvilref14_Quote.f (k + 1) a0) := by
  intro a0 k
  obtain ⟨ih0, ih1⟩ := anvilref14_Quote.mono_l k
  unfold anvilref14_Quote.f
  repeat' first
      | (with_reducible exact ih0 _ _ _)
      | (with_reducible exact ih1 _ _ _ _ _)
      | (with_reducible exact anvilref07_Digits.mono _ _ _)
      | (with_reducible exact LeO.refl _)
      | (with_reducible exact LeO.none _)
      | (with_reducible refine LeO.ite ?_ ?_)
      | (with_reducible refine LeO.bind ?_ (fun _ => ?_))
      | exact ih0 _ _ _
      | exact ih1 _ _ _ _ _
      | exact anvilref07_Digits.mono _ _ _
      | exact LeO.none _
      | refine LeO.ite ?_ ?_
      | refine LeO.bind ?_ (fun _ => ?_)
set_option maxHeartbeats 8000000 in
set_option maxRecDepth 100000 in
theorem anvilref14_Quote.calls (k : Nat) (A0 : Option Addr) (c0 : Nat) (l0 : List Int) (r : ByteArray) (w : World) (hr0 : Kd.C (Kd.int .u8) w A0 l0.length l0) (hc0 : l0.length ≤ c0) (h : anvilref14_Quote.f k l0 = some r) :
    Calls Tryd.prog 50 #[.slice A0 l0.length c0] w fun e w' => e = .returned (.string r) ∧ Below w.heap.size w w' := by
  have HR0 := Aside0.mk hr0
  have HC0 := Aside0.mk hc0
  clear hr0 hc0
  have HB := Aside0.mk (Below.refl w.heap.size w)
  have H : (anvilref14_Quote.l0 k l0 (([34] : List Int)) 0) = some r := h
  clear h
  obtain ⟨y194, hy194⟩ : ∃ y_ : List Int, y_ = (([34] : List Int)) := ⟨_, rfl⟩
  replace H : (anvilref14_Quote.l0 k l0 y194 0) = some r := by first | (rw [hy194]; with_reducible exact H) | (have H2_ := (Option.bind_some _ _).symm.trans H; rw [hy194]; with_reducible exact H2_) | (have H2_ := (Option.bind_some _ _).symm.trans H; with_reducible exact H2_) | with_reducible exact H | (rw [hy194]; exact H) | exact H
  have Ny194 := Aside0.mk hy194
  clear hy194
  have H' := Aside0.mk H
  clear H
  go_enter Tryd.func50, Tryd.ntmps50
  go_wp2_with (first | ((with_reducible refine gate_dst (N := 6) rfl ?_); refine Kd.R_lit (Kd.int .u8) _ 5 ?hg (N := 6) ?hd (xs := ([34] : List Int)) (inner := [.int .u8 34]) (ok := fun _ => True) (okp := fun _ => True) ?hr ?hp (fun _ hk => hk) trivial (Below.refl _ _) (Nat.le_refl _) (by simp) ?_; (case hd => rfl); (case hg => rfl); (case hr => first | (go_simp; done) | (go_simp; rfl)); (case hp => exact (Reps.one (show Kd.M (Kd.int .u8) _ _ _ 34 [.int .u8 34] from rfl) (Reps.none _ _))); intro v195 w2 ho3 hb hg_ hnew_; clear hg_ hnew_; (first | rw [← Ny194.out] at ho3 | (simp only [Int.reduceToNat] at ho3; rw [← Ny194.out] at ho3)); have n0_ := Aside0.mk (Kd.R_lower ho3 (below_size (by repeat (first | (with_reducible first | exact HB.out | apply below_alloc | apply pw_below_drewN | apply below_drew1) | exact HB.out)))); have n1_ := Aside0.mk (below_step (by repeat (first | (with_reducible first | exact HB.out | apply below_alloc | apply pw_below_drewN | apply below_drew1) | exact HB.out)) hb); clear HB; have HO196 := n0_; have HB := n1_; clear n0_ n1_; clear hb ho3))
  go_loopg [3, 4] k (fun kq v3 v4 w' => ∃ (x3_1 : List Int) (x4_1 : Int), v4 = .int .i64 x4_1 ∧ Aside0 (anvilref14_Quote.l0 kq l0 x3_1 x4_1 = some r) ∧ Aside0 (kq ≤ k) ∧ Aside0 (Kd.R (Kd.int .u8) 5 w' w.heap.size (fun _ => True) v3 x3_1) ∧ Aside0 (Below w.heap.size w w'))
  case atStart => exact ⟨(y194), (0), (by first | rfl | (simp; done) | (simp only [i64_w, i32_w]; done) | (simp [i64_w, i32_w]; done) | (simp [*]; done)), H', ⟨Nat.le_refl _⟩, ⟨by (with_reducible repeat (first | apply Kd.R_alloc | apply Kd.R_drewN | apply Kd.R_drew)); exact HO196.out⟩, ⟨by repeat (first | (with_reducible first | exact HB.out | apply below_alloc | apply pw_below_drewN | apply below_drew1) | exact HB.out)⟩⟩
  case round =>
    clear H'
    try clear p2
    obtain ⟨x3_1, x4_1, rfl, HA, HK1, HO_3, HB⟩ := hrel
    cases gk with
    | zero => exact absurd HA.out (by simp [anvilref14_Quote.l0])
    | succ k1 =>
      have H := HA.out
      clear HA
      simp only [anvilref14_Quote.l0] at H
      by_cases c4 : x4_1 < (l0.length : Int)
      · rw [if_pos c4] at H
        have c4b0 : decide (x4_1 < (l0.length : Int)) = true := decide_eq_true c4
        clear c4
        by_cases c5 : 0 ≤ x4_1
        · rw [if_pos c5] at H
          have c5b0 : decide (0 ≤ x4_1) = true := decide_eq_true c5
          clear c5
          have HC6 := Aside0.mk H
          clear H
          have p200 : 0 ≤ (x4_1 : Int) := of_decide_eq_true (by first | (with_reducible assumption) | assumption)
          have q200 : x4_1 < (l0.length : Int) := of_decide_eq_true (by first | (with_reducible assumption) | assumption)
          obtain ⟨ad200, e200, hx200_0⟩ := Kd.at_int HR0.out x4_1 p200 q200
          cases e200
          replace hx200_0 := (HB.out.cell (World.block_lt_of_cell? w _ hx200_0)).trans hx200_0
          replace p200 := eq_true p200
          replace q200 := eq_true q200
          go_upto_region 7 with (fail)
          go_cut [21] (fun v21 wc => ∃ (kq : Nat) (x21_5 : Bool), v21 = .bool x21_5 ∧ Aside0 (anvilref14_Quote.j1 kq l0 x3_1 x4_1 (rd l0 x4_1) x21_5 = some r) ∧ Aside0 (kq ≤ k1) ∧ Aside0 (Kd.R (Kd.int .u8) 5 wc w.heap.size (fun _ => True) u3 x3_1) ∧ Aside0 (Below w.heap.size w wc))
          case first =>
            have H := HC6.out
            clear HC6
            by_cases c7 : (rd l0 x4_1) = 34
            · rw [if_pos c7] at H
              have c7b0 : ((rd l0 x4_1) == 34) = true := beq_iff_eq.mpr c7
              have c7b1 : ((rd l0 x4_1) != 34) = false := bne_eq_false_iff_eq.mpr c7
              clear c7
              (first | rw [c7b0] | (simp only [i64_w, i32_w]; rw [c7b0]) | rw [c7b1] | skip)
              have H' := Aside0.mk H
              clear H
              go_wp2
              go_meet
              case rel => exact ⟨_, (true), (by first | rfl | (simp; done) | (simp only [i64_w, i32_w]; done) | (simp [i64_w, i32_w]; done) | (simp [*]; done)), H', ⟨by have := HK1.out; first | omega | exact Nat.le_refl _⟩, ⟨by (with_reducible repeat (first | apply Kd.R_alloc | apply Kd.R_drewN | apply Kd.R_drew)); exact HO_3.out⟩, ⟨by repeat (first | (with_reducible first | exact HB.out | apply below_alloc | apply pw_below_drewN | apply below_drew1) | exact HB.out)⟩⟩
            · rw [if_neg c7] at H
              have c7b0 : ((rd l0 x4_1) == 34) = false := beq_eq_false_iff_ne.mpr c7
              have c7b1 : ((rd l0 x4_1) != 34) = true := bne_iff_ne.mpr c7
              (first | rw [c7b0] | (simp only [i64_w, i32_w]; rw [c7b0]) | rw [c7b1] | skip)
              have H' := Aside0.mk H
              clear H
              go_wp2
              go_meet
              case rel => exact ⟨_, (((rd l0 x4_1) == 92)), (by first | rfl | (simp; done) | (simp only [i64_w, i32_w]; done) | (simp [i64_w, i32_w]; done) | (simp [*]; done)), H', ⟨by have := HK1.out; first | omega | exact Nat.le_refl _⟩, ⟨by (with_reducible repeat (first | apply Kd.R_alloc | apply Kd.R_drewN | apply Kd.R_drew)); exact HO_3.out⟩, ⟨by repeat (first | (with_reducible first | exact HB.out | apply below_alloc | apply pw_below_drewN | apply below_drew1) | exact HB.out)⟩⟩
          case rest =>
            clear HC6
            try clear p2
            try clear q2
            try clear hx2
            try clear c4
            try clear c4b0
            try clear c5
            try clear c5b0
            try clear c7
            try clear c7b0
            try clear c7b1
            try clear hx200_0
            try clear p2
            try clear p200
            try clear q200
            obtain ⟨kq, x21_5, rfl, HA, HJ5, HO_3, HB⟩ := hcut
            cases kq with
            | zero => exact absurd HA.out (by simp [anvilref14_Quote.j1])
            | succ kj5 =>
              have H := HA.out
              clear HA
              simp only [anvilref14_Quote.j1] at H
              by_cases c8 : x21_5 = true
              · subst c8
                have H1 : ((some (([92, (rd l0 x4_1)] : List Int) : List Int)).bind fun y201 => (if x3_1.length + y201.length < 140737488355328 then (anvilref14_Quote.l0 kj5 l0 (x3_1 ++ y201) (wrap64 (x4_1 + 1))) else (none))) = some r := by rw [if_pos rfl] at H; exact H
                clear H
                have H := H1
                clear H1
                obtain ⟨y201, hy201⟩ : ∃ y_ : List Int, y_ = (([92, (rd l0 x4_1)] : List Int)) := ⟨_, rfl⟩
                replace H : (if x3_1.length + y201.length < 140737488355328 then (anvilref14_Quote.l0 kj5 l0 (x3_1 ++ y201) (wrap64 (x4_1 + 1))) else (none)) = some r := by first | (rw [hy201]; with_reducible exact H) | (have H2_ := (Option.bind_some _ _).symm.trans H; rw [hy201]; with_reducible exact H2_) | (have H2_ := (Option.bind_some _ _).symm.trans H; with_reducible exact H2_) | with_reducible exact H | (rw [hy201]; exact H) | exact H
                have Ny201 := Aside0.mk hy201
                clear hy201
                by_cases c9 : x3_1.length + y201.length < 140737488355328
                · rw [if_pos c9] at H
                  have LMc9 := Aside0.mk c9
                  clear c9
                  obtain ⟨y204, hy204⟩ : ∃ y_ : List Int, y_ = (x3_1 ++ y201) := ⟨_, rfl⟩
                  replace H : (anvilref14_Quote.l0 kj5 l0 y204 (wrap64 (x4_1 + 1))) = some r := by first | (rw [hy204]; with_reducible exact H) | (have H2_ := (Option.bind_some _ _).symm.trans H; rw [hy204]; with_reducible exact H2_) | (have H2_ := (Option.bind_some _ _).symm.trans H; with_reducible exact H2_) | with_reducible exact H | (rw [hy204]; exact H) | exact H
                  have Ny204 := Aside0.mk hy204
                  clear hy204
                  have H' := Aside0.mk H
                  clear H
                  go_wp2_with (first | ((with_reducible refine gate_dst (N := 30) rfl ?_); refine Kd.R_lit (Kd.int .u8) _ 5 ?hg (N := 30) ?hd (xs := ([92, (rd l0 x4_1)] : List Int)) (inner := [.int .u8 92, .int .u8 (rd l0 x4_1)]) (ok := fun _ => True) (okp := fun _ => True) ?hr ?hp (fun _ hk => hk) trivial (Below.refl _ _) (Nat.le_refl _) (by simp) ?_; (case hd => rfl); (case hg => rfl); (case hr => first | (go_simp; done) | (go_simp; rfl)); (case hp => exact (Reps.one (show Kd.M (Kd.int .u8) _ _ _ 92 [.int .u8 92] from rfl) (Reps.one (show Kd.M (Kd.int .u8) _ _ _ (rd l0 x4_1) [.int .u8 (rd l0 x4_1)] from rfl) (Reps.none _ _)))); intro v202 w10 ho11 hb hg_ hnew_; clear hg_ hnew_; (first | rw [← Ny201.out] at ho11 | (simp only [Int.reduceToNat] at ho11; rw [← Ny201.out] at ho11)); have n0_ := Aside0.mk (Kd.R_elder' (by (with_reducible repeat (first | apply Kd.R_alloc | apply Kd.R_drewN | apply Kd.R_drew)); exact HO_3.out) (Kd.R_base ho11) hb); have n1_ := Aside0.mk (Kd.R_lower (Kd.R_new' ho11 (Kd.R_lt (by (with_reducible repeat (first | apply Kd.R_alloc | apply Kd.R_drewN | apply Kd.R_drew)); exact HO_3.out))) (below_size (by repeat (first | (with_reducible first | exact HB.out | apply below_alloc | apply pw_below_drewN | apply below_drew1) | exact HB.out)))); have n2_ := Aside0.mk (below_step (by repeat (first | (with_reducible first | exact HB.out | apply below_alloc | apply pw_below_drewN | apply below_drew1) | exact HB.out)) hb); clear HO_3; clear HB; have HO_3 := n0_; have HO203 := n1_; have HB := n2_; clear n0_ n1_ n2_; clear hb ho11; obtain ⟨Ao13, co13, eo13⟩ := Kd.R_slice HO203.out; subst eo13) | ((with_reducible refine gate_builtin (b := .append) (xs := #[.tmp 28, .tmp 30]) rfl ?_); at_builtin; refine Kd.R_append_rows (Kd.int .u8) (w0 := w) w.heap.size rfl (.tmp 28) (.tmp 30) 44 5 (.int .u8 0) 1 rfl Tryd.underlying44 info5 rfl (by decide) (by omega) u3 x3_1 y201 _ _ _ (fun k_ => some k_ ≠ (.slice Ao13 y201.length co13 : Value).ownBlock) (fun _ => False) rfl rfl ?aO ?aR (fun _ _ h => h) (fun _ h => h.elim) ?aF ?aB ?aS ?aL ?_; (case aR => repeat (first | exact (Kd.R_reads' HO203.out).2.2 | (with_reducible refine Kd.C_alloc ?_ _) | (with_reducible refine Kd.C_drewN ?_ _) | (with_reducible refine Kd.C_drew ?_))); (case aB => exact (by repeat (first | (with_reducible first | exact HB.out | apply below_alloc | apply pw_below_drewN | apply below_drew1) | exact HB.out))); (case aF => exact (fun k_ hk => Kd.fresh' (Kd.R_lt (by (with_reducible repeat (first | apply Kd.R_alloc | apply Kd.R_drewN | apply Kd.R_drew)); exact HO203.out)) k_ hk)); (case aO => exact (by (with_reducible repeat (first | apply Kd.R_alloc | apply Kd.R_drewN | apply Kd.R_drew)); exact Kd.R_mono HO_3.out (fun _ hk => hk.2))); (case aS => exact (below_size (by repeat (first | (with_reducible first | exact HB.out | apply below_alloc | apply pw_below_drewN | apply below_drew1) | exact HB.out)))); (case aL => have := LMc9.out; omega); intro v205 w12 ho hb hg hat; rw [← Ny204.out] at ho; have n0_ := Aside0.mk (Kd.R_after (ok := (fun _ => True)) (by (with_reducible repeat (first | apply Kd.R_alloc | apply Kd.R_drewN | apply Kd.R_drew)); exact HO203.out) hg hat); have n1_ := Aside0.mk (hb); have n2_ := Aside0.mk (ho); clear HO203; clear HB; clear HO_3; have HO203 := n0_; have HB := n1_; have HO206 := n2_; clear n0_ n1_ n2_; clear ho hb hg hat))
                  go_roundg kj5
                  case measure => have := HK1.out; have := HJ5.out; omega
                  case rel => exact ⟨(y204), (wrap64 (x4_1 + 1)), (by first | rfl | (simp; done) | (simp only [i64_w, i32_w]; done) | (simp [i64_w, i32_w]; done) | (simp [*]; done)), H', ⟨by have := HK1.out; have := HJ5.out; omega⟩, ⟨by (with_reducible repeat (first | apply Kd.R_alloc | apply Kd.R_drewN | apply Kd.R_drew)); exact Kd.R_mono HO206.out (fun _ hk => trivial)⟩, ⟨by repeat (first | (with_reducible first | exact HB.out | apply below_alloc | apply pw_below_drewN | apply below_drew1) | exact HB.out)⟩⟩
                · rw [if_neg c9] at H
                  exact absurd H (by simp)
              · replace c8 := Bool.eq_false_iff.mpr c8
                subst c8
                have H1 : (if (rd l0 x4_1) = 10 then ((some (([92, 110] : List Int) : List Int)).bind fun y207 => (if x3_1.length + y207.length < 140737488355328 then (anvilref14_Quote.l0 kj5 l0 (x3_1 ++ y207) (wrap64 (x4_1 + 1))) else (none))) else (if (rd l0 x4_1) < 32 then ((some (([92, 120] : List Int) : List Int)).bind fun y213 => (if x3_1.length + y213.length < 140737488355328 then ((some (x3_1 ++ y213 : List Int)).bind fun y216 => ((anvilref07_Digits.f kj5 (IntKind.u64.wrap ((rd l0 x4_1))) 2).bind fun t219 => (if y216.length + t219.size < 140737488355328 then (anvilref14_Quote.l0 kj5 l0 (y216 ++ bytesOf t219) (wrap64 (x4_1 + 1))) else (none)))) else (none))) else (if (rd l0 x4_1) > 126 then ((some (([92, 120] : List Int) : List Int)).bind fun y223 => (if x3_1.length + y223.length < 140737488355328 then ((some (x3_1 ++ y223 : List Int)).bind fun y226 => ((anvilref07_Digits.f kj5 (IntKind.u64.wrap ((rd l0 x4_1))) 2).bind fun t229 => (if y226.length + t229.size < 140737488355328 then (anvilref14_Quote.l0 kj5 l0 (y226 ++ bytesOf t229) (wrap64 (x4_1 + 1))) else (none)))) else (none))) else (if x3_1.length < 140737488355328 then (anvilref14_Quote.l0 kj5 l0 (x3_1 ++ [(rd l0 x4_1)]) (wrap64 (x4_1 + 1))) else (none))))) = some r := by rw [if_neg (show ¬ (false = true) by decide)] at H; exact H
                clear H
                have H := H1
                clear H1
                by_cases c14 : (rd l0 x4_1) = 10
                · rw [if_pos c14] at H
                  have c14b0 : ((rd l0 x4_1) == 10) = true := beq_iff_eq.mpr c14
                  have c14b1 : ((rd l0 x4_1) != 10) = false := bne_eq_false_iff_eq.mpr c14
                  clear c14
                  obtain ⟨y207, hy207⟩ : ∃ y_ : List Int, y_ = (([92, 110] : List Int)) := ⟨_, rfl⟩
                  replace H : (if x3_1.length + y207.length < 140737488355328 then (anvilref14_Quote.l0 kj5 l0 (x3_1 ++ y207) (wrap64 (x4_1 + 1))) else (none)) = some r := by first | (rw [hy207]; with_reducible exact H) | (have H2_ := (Option.bind_some _ _).symm.trans H; rw [hy207]; with_reducible exact H2_) | (have H2_ := (Option.bind_some _ _).symm.trans H; with_reducible exact H2_) | with_reducible exact H | (rw [hy207]; exact H) | exact H
                  have Ny207 := Aside0.mk hy207
                  clear hy207
                  by_cases c15 : x3_1.length + y207.length < 140737488355328
                  · rw [if_pos c15] at H
                    have LMc15 := Aside0.mk c15
                    clear c15
                    obtain ⟨y210, hy210⟩ : ∃ y_ : List Int, y_ = (x3_1 ++ y207) := ⟨_, rfl⟩
                    replace H : (anvilref14_Quote.l0 kj5 l0 y210 (wrap64 (x4_1 + 1))) = some r := by first | (rw [hy210]; with_reducible exact H) | (have H2_ := (Option.bind_some _ _).symm.trans H; rw [hy210]; with_reducible exact H2_) | (have H2_ := (Option.bind_some _ _).symm.trans H; with_reducible exact H2_) | with_reducible exact H | (rw [hy210]; exact H) | exact H
                    have Ny210 := Aside0.mk hy210
                    clear hy210
                    have H' := Aside0.mk H
                    clear H
                    go_wp2_with (first | ((with_reducible refine gate_dst (N := 36) rfl ?_); refine Kd.R_lit (Kd.int .u8) _ 5 ?hg (N := 36) ?hd (xs := ([92, 110] : List Int)) (inner := [.int .u8 92, .int .u8 110]) (ok := fun _ => True) (okp := fun _ => True) ?hr ?hp (fun _ hk => hk) trivial (Below.refl _ _) (Nat.le_refl _) (by simp) ?_; (case hd => rfl); (case hg => rfl); (case hr => first | (go_simp; done) | (go_simp; rfl)); (case hp => exact (Reps.one (show Kd.M (Kd.int .u8) _ _ _ 92 [.int .u8 92] from rfl) (Reps.one (show Kd.M (Kd.int .u8) _ _ _ 110 [.int .u8 110] from rfl) (Reps.none _ _)))); intro v208 w16 ho17 hb hg_ hnew_; clear hg_ hnew_; (first | rw [← Ny207.out] at ho17 | (simp only [Int.reduceToNat] at ho17; rw [← Ny207.out] at ho17)); have n0_ := Aside0.mk (Kd.R_elder' (by (with_reducible repeat (first | apply Kd.R_alloc | apply Kd.R_drewN | apply Kd.R_drew)); exact HO_3.out) (Kd.R_base ho17) hb); have n1_ := Aside0.mk (Kd.R_lower (Kd.R_new' ho17 (Kd.R_lt (by (with_reducible repeat (first | apply Kd.R_alloc | apply Kd.R_drewN | apply Kd.R_drew)); exact HO_3.out))) (below_size (by repeat (first | (with_reducible first | exact HB.out | apply below_alloc | apply pw_below_drewN | apply below_drew1) | exact HB.out)))); have n2_ := Aside0.mk (below_step (by repeat (first | (with_reducible first | exact HB.out | apply below_alloc | apply pw_below_drewN | apply below_drew1) | exact HB.out)) hb); clear HO_3; clear HB; have HO_3 := n0_; have HO209 := n1_; have HB := n2_; clear n0_ n1_ n2_; clear hb ho17; obtain ⟨Ao19, co19, eo19⟩ := Kd.R_slice HO209.out; subst eo19) | ((with_reducible refine gate_builtin (b := .append) (xs := #[.tmp 35, .tmp 36]) rfl ?_); at_builtin; refine Kd.R_append_rows (Kd.int .u8) (w0 := w) w.heap.size rfl (.tmp 35) (.tmp 36) 44 5 (.int .u8 0) 1 rfl Tryd.underlying44 info5 rfl (by decide) (by omega) u3 x3_1 y207 _ _ _ (fun k_ => some k_ ≠ (.slice Ao19 y207.length co19 : Value).ownBlock) (fun _ => False) rfl rfl ?aO ?aR (fun _ _ h => h) (fun _ h => h.elim) ?aF ?aB ?aS ?aL ?_; (case aR => repeat (first | exact (Kd.R_reads' HO209.out).2.2 | (with_reducible refine Kd.C_alloc ?_ _) | (with_reducible refine Kd.C_drewN ?_ _) | (with_reducible refine Kd.C_drew ?_))); (case aB => exact (by repeat (first | (with_reducible first | exact HB.out | apply below_alloc | apply pw_below_drewN | apply below_drew1) | exact HB.out))); (case aF => exact (fun k_ hk => Kd.fresh' (Kd.R_lt (by (with_reducible repeat (first | apply Kd.R_alloc | apply Kd.R_drewN | apply Kd.R_drew)); exact HO209.out)) k_ hk)); (case aO => exact (by (with_reducible repeat (first | apply Kd.R_alloc | apply Kd.R_drewN | apply Kd.R_drew)); exact Kd.R_mono HO_3.out (fun _ hk => hk.2))); (case aS => exact (below_size (by repeat (first | (with_reducible first | exact HB.out | apply below_alloc | apply pw_below_drewN | apply below_drew1) | exact HB.out)))); (case aL => have := LMc15.out; omega); intro v211 w18 ho hb hg hat; rw [← Ny210.out] at ho; have n0_ := Aside0.mk (Kd.R_after (ok := (fun _ => True)) (by (with_reducible repeat (first | apply Kd.R_alloc | apply Kd.R_drewN | apply Kd.R_drew)); exact HO209.out) hg hat); have n1_ := Aside0.mk (hb); have n2_ := Aside0.mk (ho); clear HO209; clear HB; clear HO_3; have HO209 := n0_; have HB := n1_; have HO212 := n2_; clear n0_ n1_ n2_; clear ho hb hg hat))
                    go_roundg kj5
                    case measure => have := HK1.out; have := HJ5.out; omega
                    case rel => exact ⟨(y210), (wrap64 (x4_1 + 1)), (by first | rfl | (simp; done) | (simp only [i64_w, i32_w]; done) | (simp [i64_w, i32_w]; done) | (simp [*]; done)), H', ⟨by have := HK1.out; have := HJ5.out; omega⟩, ⟨by (with_reducible repeat (first | apply Kd.R_alloc | apply Kd.R_drewN | apply Kd.R_drew)); exact Kd.R_mono HO212.out (fun _ hk => trivial)⟩, ⟨by repeat (first | (with_reducible first | exact HB.out | apply below_alloc | apply pw_below_drewN | apply below_drew1) | exact HB.out)⟩⟩
                  · rw [if_neg c15] at H
                    exact absurd H (by simp)
                · rw [if_neg c14] at H
                  have c14b0 : ((rd l0 x4_1) == 10) = false := beq_eq_false_iff_ne.mpr c14
                  have c14b1 : ((rd l0 x4_1) != 10) = true := bne_iff_ne.mpr c14
                  by_cases c20 : (rd l0 x4_1) < 32
                  · rw [if_pos c20] at H
                    have c20b0 : decide ((rd l0 x4_1) < 32) = true := decide_eq_true c20
                    clear c20
                    obtain ⟨y213, hy213⟩ : ∃ y_ : List Int, y_ = (([92, 120] : List Int)) := ⟨_, rfl⟩
                    replace H : (if x3_1.length + y213.length < 140737488355328 then ((some (x3_1 ++ y213 : List Int)).bind fun y216 => ((anvilref07_Digits.f kj5 (IntKind.u64.wrap ((rd l0 x4_1))) 2).bind fun t219 => (if y216.length + t219.size < 140737488355328 then (anvilref14_Quote.l0 kj5 l0 (y216 ++ bytesOf t219) (wrap64 (x4_1 + 1))) else (none)))) else (none)) = some r := by first | (rw [hy213]; with_reducible exact H) | (have H2_ := (Option.bind_some _ _).symm.trans H; rw [hy213]; with_reducible exact H2_) | (have H2_ := (Option.bind_some _ _).symm.trans H; with_reducible exact H2_) | with_reducible exact H | (rw [hy213]; exact H) | exact H
                    have Ny213 := Aside0.mk hy213
                    clear hy213
                    by_cases c21 : x3_1.length + y213.length < 140737488355328
                    · rw [if_pos c21] at H
                      have LMc21 := Aside0.mk c21
                      clear c21
                      obtain ⟨y216, hy216⟩ : ∃ y_ : List Int, y_ = (x3_1 ++ y213) := ⟨_, rfl⟩
                      replace H : ((anvilref07_Digits.f kj5 (IntKind.u64.wrap ((rd l0 x4_1))) 2).bind fun t219 => (if y216.length + t219.size < 140737488355328 then (anvilref14_Quote.l0 kj5 l0 (y216 ++ bytesOf t219) (wrap64 (x4_1 + 1))) else (none))) = some r := by first | (rw [hy216]; with_reducible exact H) | (have H2_ := (Option.bind_some _ _).symm.trans H; rw [hy216]; with_reducible exact H2_) | (have H2_ := (Option.bind_some _ _).symm.trans H; with_reducible exact H2_) | with_reducible exact H | (rw [hy216]; exact H) | exact H
                      have Ny216 := Aside0.mk hy216
                      clear hy216
                      replace H := Option.bind_eq_some_iff.mp H
                      obtain ⟨t219, A220, H⟩ := H
                      replace H : (if y216.length + t219.size < 140737488355328 then (anvilref14_Quote.l0 kj5 l0 (y216 ++ bytesOf t219) (wrap64 (x4_1 + 1))) else (none)) = some r := H
                      have A22 := Aside0.mk A220
                      clear A220
                      by_cases c23 : y216.length + t219.size < 140737488355328
                      · rw [if_pos c23] at H
                        have LMc23 := Aside0.mk c23
                        clear c23
                        obtain ⟨y220, hy220⟩ : ∃ y_ : List Int, y_ = (y216 ++ bytesOf t219) := ⟨_, rfl⟩
                        replace H : (anvilref14_Quote.l0 kj5 l0 y220 (wrap64 (x4_1 + 1))) = some r := by first | (rw [hy220]; with_reducible exact H) | (have H2_ := (Option.bind_some _ _).symm.trans H; rw [hy220]; with_reducible exact H2_) | (have H2_ := (Option.bind_some _ _).symm.trans H; with_reducible exact H2_) | with_reducible exact H | (rw [hy220]; exact H) | exact H
                        have Ny220 := Aside0.mk hy220
                        clear hy220
                        have H' := Aside0.mk H
                        clear H
                        go_wp2_with (first | ((with_reducible refine gate_dst (N := 46) rfl ?_); refine Kd.R_lit (Kd.int .u8) _ 5 ?hg (N := 46) ?hd (xs := ([92, 120] : List Int)) (inner := [.int .u8 92, .int .u8 120]) (ok := fun _ => True) (okp := fun _ => True) ?hr ?hp (fun _ hk => hk) trivial (Below.refl _ _) (Nat.le_refl _) (by simp) ?_; (case hd => rfl); (case hg => rfl); (case hr => first | (go_simp; done) | (go_simp; rfl)); (case hp => exact (Reps.one (show Kd.M (Kd.int .u8) _ _ _ 92 [.int .u8 92] from rfl) (Reps.one (show Kd.M (Kd.int .u8) _ _ _ 120 [.int .u8 120] from rfl) (Reps.none _ _)))); intro v214 w24 ho25 hb hg_ hnew_; clear hg_ hnew_; (first | rw [← Ny213.out] at ho25 | (simp only [Int.reduceToNat] at ho25; rw [← Ny213.out] at ho25)); have n0_ := Aside0.mk (Kd.R_elder' (by (with_reducible repeat (first | apply Kd.R_alloc | apply Kd.R_drewN | apply Kd.R_drew)); exact HO_3.out) (Kd.R_base ho25) hb); have n1_ := Aside0.mk (Kd.R_lower (Kd.R_new' ho25 (Kd.R_lt (by (with_reducible repeat (first | apply Kd.R_alloc | apply Kd.R_drewN | apply Kd.R_drew)); exact HO_3.out))) (below_size (by repeat (first | (with_reducible first | exact HB.out | apply below_alloc | apply pw_below_drewN | apply below_drew1) | exact HB.out)))); have n2_ := Aside0.mk (below_step (by repeat (first | (with_reducible first | exact HB.out | apply below_alloc | apply pw_below_drewN | apply below_drew1) | exact HB.out)) hb); clear HO_3; clear HB; have HO_3 := n0_; have HO215 := n1_; have HB := n2_; clear n0_ n1_ n2_; clear hb ho25; obtain ⟨Ao27, co27, eo27⟩ := Kd.R_slice HO215.out; subst eo27) | ((with_reducible refine gate_builtin (b := .append) (xs := #[.tmp 45, .tmp 46]) rfl ?_); at_builtin; refine Kd.R_append_rows (Kd.int .u8) (w0 := w) w.heap.size rfl (.tmp 45) (.tmp 46) 44 5 (.int .u8 0) 1 rfl Tryd.underlying44 info5 rfl (by decide) (by omega) u3 x3_1 y213 _ _ _ (fun k_ => some k_ ≠ (.slice Ao27 y213.length co27 : Value).ownBlock) (fun _ => False) rfl rfl ?aO ?aR (fun _ _ h => h) (fun _ h => h.elim) ?aF ?aB ?aS ?aL ?_; (case aR => repeat (first | exact (Kd.R_reads' HO215.out).2.2 | (with_reducible refine Kd.C_alloc ?_ _) | (with_reducible refine Kd.C_drewN ?_ _) | (with_reducible refine Kd.C_drew ?_))); (case aB => exact (by repeat (first | (with_reducible first | exact HB.out | apply below_alloc | apply pw_below_drewN | apply below_drew1) | exact HB.out))); (case aF => exact (fun k_ hk => Kd.fresh' (Kd.R_lt (by (with_reducible repeat (first | apply Kd.R_alloc | apply Kd.R_drewN | apply Kd.R_drew)); exact HO215.out)) k_ hk)); (case aO => exact (by (with_reducible repeat (first | apply Kd.R_alloc | apply Kd.R_drewN | apply Kd.R_drew)); exact Kd.R_mono HO_3.out (fun _ hk => hk.2))); (case aS => exact (below_size (by repeat (first | (with_reducible first | exact HB.out | apply below_alloc | apply pw_below_drewN | apply below_drew1) | exact HB.out)))); (case aL => have := LMc21.out; omega); intro v217 w26 ho hb hg hat; rw [← Ny216.out] at ho; have n0_ := Aside0.mk (Kd.R_after (ok := (fun _ => True)) (by (with_reducible repeat (first | apply Kd.R_alloc | apply Kd.R_drewN | apply Kd.R_drew)); exact HO215.out) hg hat); have n1_ := Aside0.mk (hb); have n2_ := Aside0.mk (ho); clear HO215; clear HB; clear HO_3; have HO215 := n0_; have HB := n1_; have HO218 := n2_; clear n0_ n1_ n2_; clear ho hb hg hat) | ((with_reducible refine gate_callee (f := 64) rfl ?_); refine goesL_ (some 50) rfl rfl Tryd.func64 (by kernel_rfl) rfl #[.int .u64 (IntKind.u64.wrap ((rd l0 x4_1))), .int .i64 2] rfl (by (try simp only [List.map_toArray, List.map_cons, List.map_nil]); first | done | rfl | (simp only [List.length_drop, List.length_take]; rfl)) ?_; (with_reducible refine (anvilref07_Digits.calls kj5 (IntKind.u64.wrap ((rd l0 x4_1))) 2 t219 _ A22.out).mono ?_); rintro e w28 ⟨rfl, hb⟩; refine ⟨_, rfl, ?_⟩; have n0_ := Aside0.mk (Kd.R_below (by (with_reducible repeat (first | apply Kd.R_alloc | apply Kd.R_drewN | apply Kd.R_drew)); exact HO215.out) hb); have n1_ := Aside0.mk (Kd.R_below (by (with_reducible repeat (first | apply Kd.R_alloc | apply Kd.R_drewN | apply Kd.R_drew)); exact HO218.out) hb); have n2_ := Aside0.mk (below_step (by repeat (first | (with_reducible first | exact HB.out | apply below_alloc | apply pw_below_drewN | apply below_drew1) | exact HB.out)) hb); clear HO215; clear HO218; clear HB; have HO215 := n0_; have HO218 := n1_; have HB := n2_; clear n0_ n1_ n2_; (try clear hb); (try clear hb2); (try clear hk); (try clear hi)) | (at_builtin; refine R_append_str (w0 := w) w.heap.size rfl (.tmp 47) _ 44 9 5 rfl Tryd.underlying44 Tryd.underlying9 info5 v217 y216 t219 (fun k_ => some k_ ≠ (.slice Ao27 y213.length co27 : Value).ownBlock) rfl rfl ?aO ?aF ?aB ?aS ?aL ?_; (case aB => exact (by repeat (first | (with_reducible first | exact HB.out | apply below_alloc | apply pw_below_drewN | apply below_drew1) | exact HB.out))); (case aF => exact (fun k_ hk => Kd.fresh' (Kd.R_lt (by (with_reducible repeat (first | apply Kd.R_alloc | apply Kd.R_drewN | apply Kd.R_drew)); exact HO215.out)) k_ hk)); (case aO => exact (by (with_reducible repeat (first | apply Kd.R_alloc | apply Kd.R_drewN | apply Kd.R_drew)); exact HO218.out)); (case aS => exact (below_size (by repeat (first | (with_reducible first | exact HB.out | apply below_alloc | apply pw_below_drewN | apply below_drew1) | exact HB.out)))); (case aL => have := LMc23.out; omega); intro v221 w29 ho hb hg hat; rw [← Ny220.out] at ho; have n0_ := Aside0.mk (Kd.R_after (ok := (fun _ => True)) (by (with_reducible repeat (first | apply Kd.R_alloc | apply Kd.R_drewN | apply Kd.R_drew)); exact HO215.out) hg hat); have n1_ := Aside0.mk (hb); have n2_ := Aside0.mk (ho); clear HO215; clear HB; clear HO218; have HO215 := n0_; have HB := n1_; have HO222 := n2_; clear n0_ n1_ n2_; clear ho hb hg hat))
                        go_roundg kj5
                        case measure => have := HK1.out; have := HJ5.out; omega
                        case rel => exact ⟨(y220), (wrap64 (x4_1 + 1)), (by first | rfl | (simp; done) | (simp only [i64_w, i32_w]; done) | (simp [i64_w, i32_w]; done) | (simp [*]; done)), H', ⟨by have := HK1.out; have := HJ5.out; omega⟩, ⟨by (with_reducible repeat (first | apply Kd.R_alloc | apply Kd.R_drewN | apply Kd.R_drew)); exact Kd.R_mono HO222.out (fun _ hk => trivial)⟩, ⟨by repeat (first | (with_reducible first | exact HB.out | apply below_alloc | apply pw_below_drewN | apply below_drew1) | exact HB.out)⟩⟩
                      · rw [if_neg c23] at H
                        exact absurd H (by simp)
                    · rw [if_neg c21] at H
                      exact absurd H (by simp)
                  · rw [if_neg c20] at H
                    have c20b0 : decide ((rd l0 x4_1) < 32) = false := decide_eq_false c20
                    clear c20
                    by_cases c30 : (rd l0 x4_1) > 126
                    · rw [if_pos c30] at H
                      have c30b0 : decide (126 < (rd l0 x4_1)) = true := decide_eq_true c30
                      clear c30
                      obtain ⟨y223, hy223⟩ : ∃ y_ : List Int, y_ = (([92, 120] : List Int)) := ⟨_, rfl⟩
                      replace H : (if x3_1.length + y223.length < 140737488355328 then ((some (x3_1 ++ y223 : List Int)).bind fun y226 => ((anvilref07_Digits.f kj5 (IntKind.u64.wrap ((rd l0 x4_1))) 2).bind fun t229 => (if y226.length + t229.size < 140737488355328 then (anvilref14_Quote.l0 kj5 l0 (y226 ++ bytesOf t229) (wrap64 (x4_1 + 1))) else (none)))) else (none)) = some r := by first | (rw [hy223]; with_reducible exact H) | (have H2_ := (Option.bind_some _ _).symm.trans H; rw [hy223]; with_reducible exact H2_) | (have H2_ := (Option.bind_some _ _).symm.trans H; with_reducible exact H2_) | with_reducible exact H | (rw [hy223]; exact H) | exact H
                      have Ny223 := Aside0.mk hy223
                      clear hy223
                      by_cases c31 : x3_1.length + y223.length < 140737488355328
                      · rw [if_pos c31] at H
                        have LMc31 := Aside0.mk c31
                        clear c31
                        obtain ⟨y226, hy226⟩ : ∃ y_ : List Int, y_ = (x3_1 ++ y223) := ⟨_, rfl⟩
                        replace H : ((anvilref07_Digits.f kj5 (IntKind.u64.wrap ((rd l0 x4_1))) 2).bind fun t229 => (if y226.length + t229.size < 140737488355328 then (anvilref14_Quote.l0 kj5 l0 (y226 ++ bytesOf t229) (wrap64 (x4_1 + 1))) else (none))) = some r := by first | (rw [hy226]; with_reducible exact H) | (have H2_ := (Option.bind_some _ _).symm.trans H; rw [hy226]; with_reducible exact H2_) | (have H2_ := (Option.bind_some _ _).symm.trans H; with_reducible exact H2_) | with_reducible exact H | (rw [hy226]; exact H) | exact H
                        have Ny226 := Aside0.mk hy226
                        clear hy226
                        replace H := Option.bind_eq_some_iff.mp H
                        obtain ⟨t229, A320, H⟩ := H
                        replace H : (if y226.length + t229.size < 140737488355328 then (anvilref14_Quote.l0 kj5 l0 (y226 ++ bytesOf t229) (wrap64 (x4_1 + 1))) else (none)) = some r := H
                        have A32 := Aside0.mk A320
                        clear A320
                        by_cases c33 : y226.length + t229.size < 140737488355328
                        · rw [if_pos c33] at H
                          have LMc33 := Aside0.mk c33
                          clear c33
                          obtain ⟨y230, hy230⟩ : ∃ y_ : List Int, y_ = (y226 ++ bytesOf t229) := ⟨_, rfl⟩
                          replace H : (anvilref14_Quote.l0 kj5 l0 y230 (wrap64 (x4_1 + 1))) = some r := by first | (rw [hy230]; with_reducible exact H) | (have H2_ := (Option.bind_some _ _).symm.trans H; rw [hy230]; with_reducible exact H2_) | (have H2_ := (Option.bind_some _ _).symm.trans H; with_reducible exact H2_) | with_reducible exact H | (rw [hy230]; exact H) | exact H
                          have Ny230 := Aside0.mk hy230
                          clear hy230
                          have H' := Aside0.mk H
                          clear H
                          go_wp2_with (first | ((with_reducible refine gate_dst (N := 46) rfl ?_); refine Kd.R_lit (Kd.int .u8) _ 5 ?hg (N := 46) ?hd (xs := ([92, 120] : List Int)) (inner := [.int .u8 92, .int .u8 120]) (ok := fun _ => True) (okp := fun _ => True) ?hr ?hp (fun _ hk => hk) trivial (Below.refl _ _) (Nat.le_refl _) (by simp) ?_; (case hd => rfl); (case hg => rfl); (case hr => first | (go_simp; done) | (go_simp; rfl)); (case hp => exact (Reps.one (show Kd.M (Kd.int .u8) _ _ _ 92 [.int .u8 92] from rfl) (Reps.one (show Kd.M (Kd.int .u8) _ _ _ 120 [.int .u8 120] from rfl) (Reps.none _ _)))); intro v224 w34 ho35 hb hg_ hnew_; clear hg_ hnew_; (first | rw [← Ny223.out] at ho35 | (simp only [Int.reduceToNat] at ho35; rw [← Ny223.out] at ho35)); have n0_ := Aside0.mk (Kd.R_elder' (by (with_reducible repeat (first | apply Kd.R_alloc | apply Kd.R_drewN | apply Kd.R_drew)); exact HO_3.out) (Kd.R_base ho35) hb); have n1_ := Aside0.mk (Kd.R_lower (Kd.R_new' ho35 (Kd.R_lt (by (with_reducible repeat (first | apply Kd.R_alloc | apply Kd.R_drewN | apply Kd.R_drew)); exact HO_3.out))) (below_size (by repeat (first | (with_reducible first | exact HB.out | apply below_alloc | apply pw_below_drewN | apply below_drew1) | exact HB.out)))); have n2_ := Aside0.mk (below_step (by repeat (first | (with_reducible first | exact HB.out | apply below_alloc | apply pw_below_drewN | apply below_drew1) | exact HB.out)) hb); clear HO_3; clear HB; have HO_3 := n0_; have HO225 := n1_; have HB := n2_; clear n0_ n1_ n2_; clear hb ho35; obtain ⟨Ao37, co37, eo37⟩ := Kd.R_slice HO225.out; subst eo37) | ((with_reducible refine gate_builtin (b := .append) (xs := #[.tmp 45, .tmp 46]) rfl ?_); at_builtin; refine Kd.R_append_rows (Kd.int .u8) (w0 := w) w.heap.size rfl (.tmp 45) (.tmp 46) 44 5 (.int .u8 0) 1 rfl Tryd.underlying44 info5 rfl (by decide) (by omega) u3 x3_1 y223 _ _ _ (fun k_ => some k_ ≠ (.slice Ao37 y223.length co37 : Value).ownBlock) (fun _ => False) rfl rfl ?aO ?aR (fun _ _ h => h) (fun _ h => h.elim) ?aF ?aB ?aS ?aL ?_; (case aR => repeat (first | exact (Kd.R_reads' HO225.out).2.2 | (with_reducible refine Kd.C_alloc ?_ _) | (with_reducible refine Kd.C_drewN ?_ _) | (with_reducible refine Kd.C_drew ?_))); (case aB => exact (by repeat (first | (with_reducible first | exact HB.out | apply below_alloc | apply pw_below_drewN | apply below_drew1) | exact HB.out))); (case aF => exact (fun k_ hk => Kd.fresh' (Kd.R_lt (by (with_reducible repeat (first | apply Kd.R_alloc | apply Kd.R_drewN | apply Kd.R_drew)); exact HO225.out)) k_ hk)); (case aO => exact (by (with_reducible repeat (first | apply Kd.R_alloc | apply Kd.R_drewN | apply Kd.R_drew)); exact Kd.R_mono HO_3.out (fun _ hk => hk.2))); (case aS => exact (below_size (by repeat (first | (with_reducible first | exact HB.out | apply below_alloc | apply pw_below_drewN | apply below_drew1) | exact HB.out)))); (case aL => have := LMc31.out; omega); intro v227 w36 ho hb hg hat; rw [← Ny226.out] at ho; have n0_ := Aside0.mk (Kd.R_after (ok := (fun _ => True)) (by (with_reducible repeat (first | apply Kd.R_alloc | apply Kd.R_drewN | apply Kd.R_drew)); exact HO225.out) hg hat); have n1_ := Aside0.mk (hb); have n2_ := Aside0.mk (ho); clear HO225; clear HB; clear HO_3; have HO225 := n0_; have HB := n1_; have HO228 := n2_; clear n0_ n1_ n2_; clear ho hb hg hat) | ((with_reducible refine gate_callee (f := 64) rfl ?_); refine goesL_ (some 50) rfl rfl Tryd.func64 (by kernel_rfl) rfl #[.int .u64 (IntKind.u64.wrap ((rd l0 x4_1))), .int .i64 2] rfl (by (try simp only [List.map_toArray, List.map_cons, List.map_nil]); first | done | rfl | (simp only [List.length_drop, List.length_take]; rfl)) ?_; (with_reducible refine (anvilref07_Digits.calls kj5 (IntKind.u64.wrap ((rd l0 x4_1))) 2 t229 _ A32.out).mono ?_); rintro e w38 ⟨rfl, hb⟩; refine ⟨_, rfl, ?_⟩; have n0_ := Aside0.mk (Kd.R_below (by (with_reducible repeat (first | apply Kd.R_alloc | apply Kd.R_drewN | apply Kd.R_drew)); exact HO225.out) hb); have n1_ := Aside0.mk (Kd.R_below (by (with_reducible repeat (first | apply Kd.R_alloc | apply Kd.R_drewN | apply Kd.R_drew)); exact HO228.out) hb); have n2_ := Aside0.mk (below_step (by repeat (first | (with_reducible first | exact HB.out | apply below_alloc | apply pw_below_drewN | apply below_drew1) | exact HB.out)) hb); clear HO225; clear HO228; clear HB; have HO225 := n0_; have HO228 := n1_; have HB := n2_; clear n0_ n1_ n2_; (try clear hb); (try clear hb2); (try clear hk); (try clear hi)) | (at_builtin; refine R_append_str (w0 := w) w.heap.size rfl (.tmp 47) _ 44 9 5 rfl Tryd.underlying44 Tryd.underlying9 info5 v227 y226 t229 (fun k_ => some k_ ≠ (.slice Ao37 y223.length co37 : Value).ownBlock) rfl rfl ?aO ?aF ?aB ?aS ?aL ?_; (case aB => exact (by repeat (first | (with_reducible first | exact HB.out | apply below_alloc | apply pw_below_drewN | apply below_drew1) | exact HB.out))); (case aF => exact (fun k_ hk => Kd.fresh' (Kd.R_lt (by (with_reducible repeat (first | apply Kd.R_alloc | apply Kd.R_drewN | apply Kd.R_drew)); exact HO225.out)) k_ hk)); (case aO => exact (by (with_reducible repeat (first | apply Kd.R_alloc | apply Kd.R_drewN | apply Kd.R_drew)); exact HO228.out)); (case aS => exact (below_size (by repeat (first | (with_reducible first | exact HB.out | apply below_alloc | apply pw_below_drewN | apply below_drew1) | exact HB.out)))); (case aL => have := LMc33.out; omega); intro v231 w39 ho hb hg hat; rw [← Ny230.out] at ho; have n0_ := Aside0.mk (Kd.R_after (ok := (fun _ => True)) (by (with_reducible repeat (first | apply Kd.R_alloc | apply Kd.R_drewN | apply Kd.R_drew)); exact HO225.out) hg hat); have n1_ := Aside0.mk (hb); have n2_ := Aside0.mk (ho); clear HO225; clear HB; clear HO228; have HO225 := n0_; have HB := n1_; have HO232 := n2_; clear n0_ n1_ n2_; clear ho hb hg hat))
                          go_roundg kj5
                          case measure => have := HK1.out; have := HJ5.out; omega
                          case rel => exact ⟨(y230), (wrap64 (x4_1 + 1)), (by first | rfl | (simp; done) | (simp only [i64_w, i32_w]; done) | (simp [i64_w, i32_w]; done) | (simp [*]; done)), H', ⟨by have := HK1.out; have := HJ5.out; omega⟩, ⟨by (with_reducible repeat (first | apply Kd.R_alloc | apply Kd.R_drewN | apply Kd.R_drew)); exact Kd.R_mono HO232.out (fun _ hk => trivial)⟩, ⟨by repeat (first | (with_reducible first | exact HB.out | apply below_alloc | apply pw_below_drewN | apply below_drew1) | exact HB.out)⟩⟩
                        · rw [if_neg c33] at H
                          exact absurd H (by simp)
                      · rw [if_neg c31] at H
                        exact absurd H (by simp)
                    · rw [if_neg c30] at H
                      have c30b0 : decide (126 < (rd l0 x4_1)) = false := decide_eq_false c30
                      clear c30
                      by_cases c40 : x3_1.length < 140737488355328
                      · rw [if_pos c40] at H
                        have LMc40 := Aside0.mk c40
                        clear c40
                        obtain ⟨y233, hy233⟩ : ∃ y_ : List Int, y_ = (x3_1 ++ [(rd l0 x4_1)]) := ⟨_, rfl⟩
                        replace H : (anvilref14_Quote.l0 kj5 l0 y233 (wrap64 (x4_1 + 1))) = some r := by first | (rw [hy233]; with_reducible exact H) | (have H2_ := (Option.bind_some _ _).symm.trans H; rw [hy233]; with_reducible exact H2_) | (have H2_ := (Option.bind_some _ _).symm.trans H; with_reducible exact H2_) | with_reducible exact H | (rw [hy233]; exact H) | exact H
                        have Ny233 := Aside0.mk hy233
                        clear hy233
                        have H' := Aside0.mk H
                        clear H
                        go_wp2_with (first | ((with_reducible refine gate_builtin (b := .append) (xs := #[.tmp 17, .tmp 19]) rfl ?_); at_builtin; refine Kd.R_append (Kd.int .u8) (w0 := w) w.heap.size rfl (.tmp 17) (.tmp 19) 44 5 (.int .u8 0) 1 rfl Tryd.underlying44 info5 rfl (by decide) (by omega) u3 x3_1 (rd l0 x4_1) [.int .u8 (rd l0 x4_1)] (fun _ => True) (fun _ => False) rfl rfl ?aP (fun _ hk => hk.elim) ?aF ?aO ?aB ?aS ?aL ?_; (case aP => exact rfl); (case aB => exact (by repeat (first | (with_reducible first | exact HB.out | apply below_alloc | apply pw_below_drewN | apply below_drew1) | exact HB.out))); (case aF => exact (fun _ _ => trivial)); (case aO => exact (by (with_reducible repeat (first | apply Kd.R_alloc | apply Kd.R_drewN | apply Kd.R_drew)); exact HO_3.out)); (case aS => exact (below_size (by repeat (first | (with_reducible first | exact HB.out | apply below_alloc | apply pw_below_drewN | apply below_drew1) | exact HB.out)))); (case aL => have := LMc40.out; omega); intro v234 w41 ho hb hg hat; rw [← Ny233.out] at ho; have n0_ := Aside0.mk (hb); have n1_ := Aside0.mk (ho); clear HB; clear HO_3; have HB := n0_; have HO235 := n1_; clear n0_ n1_; clear ho hb hg hat))
                        go_roundg kj5
                        case measure => have := HK1.out; have := HJ5.out; omega
                        case rel => exact ⟨(y233), (wrap64 (x4_1 + 1)), (by first | rfl | (simp; done) | (simp only [i64_w, i32_w]; done) | (simp [i64_w, i32_w]; done) | (simp [*]; done)), H', ⟨by have := HK1.out; have := HJ5.out; omega⟩, ⟨by (with_reducible repeat (first | apply Kd.R_alloc | apply Kd.R_drewN | apply Kd.R_drew)); exact HO235.out⟩, ⟨by repeat (first | (with_reducible first | exact HB.out | apply below_alloc | apply pw_below_drewN | apply below_drew1) | exact HB.out)⟩⟩
                      · rw [if_neg c40] at H
                        exact absurd H (by simp)
        · rw [if_neg c5] at H
          exact absurd H (by simp)
      · rw [if_neg c4] at H
        have c4b0 : decide (x4_1 < (l0.length : Int)) = false := decide_eq_false c4
        clear c4
        by_cases c42 : x3_1.length < 140737488355328
        · rw [if_pos c42] at H
          have LMc42 := Aside0.mk c42
          clear c42
          obtain ⟨y197, hy197⟩ : ∃ y_ : List Int, y_ = (x3_1 ++ [34]) := ⟨_, rfl⟩
          replace H : (some (strOfNums y197)) = some r := by first | (rw [hy197]; with_reducible exact H) | (have H2_ := (Option.bind_some _ _).symm.trans H; rw [hy197]; with_reducible exact H2_) | (have H2_ := (Option.bind_some _ _).symm.trans H; with_reducible exact H2_) | with_reducible exact H | (rw [hy197]; exact H) | exact H
          have Ny197 := Aside0.mk hy197
          clear hy197
          obtain rfl := Option.some.inj H
          go_wp2_with (first | ((with_reducible refine gate_builtin (b := .append) (xs := #[.tmp 52, .tmp 53]) rfl ?_); at_builtin; refine Kd.R_append (Kd.int .u8) (w0 := w) w.heap.size rfl (.tmp 52) (.tmp 53) 44 5 (.int .u8 0) 1 rfl Tryd.underlying44 info5 rfl (by decide) (by omega) u3 x3_1 34 [.int .u8 34] (fun _ => True) (fun _ => False) rfl rfl ?aP (fun _ hk => hk.elim) ?aF ?aO ?aB ?aS ?aL ?_; (case aP => exact rfl); (case aB => exact (by repeat (first | (with_reducible first | exact HB.out | apply below_alloc | apply pw_below_drewN | apply below_drew1) | exact HB.out))); (case aF => exact (fun _ _ => trivial)); (case aO => exact (by (with_reducible repeat (first | apply Kd.R_alloc | apply Kd.R_drewN | apply Kd.R_drew)); exact HO_3.out)); (case aS => exact (below_size (by repeat (first | (with_reducible first | exact HB.out | apply below_alloc | apply pw_below_drewN | apply below_drew1) | exact HB.out)))); (case aL => have := LMc42.out; omega); intro v198 w43 ho hb hg hat; rw [← Ny197.out] at ho; have n0_ := Aside0.mk (hb); have n1_ := Aside0.mk (ho); clear HB; clear HO_3; have HB := n0_; have HO199 := n1_; clear n0_ n1_; clear ho hb hg hat; have hcv44 := own_string (P := Tryd.prog) Tryd.underlying44 Tryd.underlying5 Tryd.underlying9 (Kd.own_of_R HO199.out)))
          go_ret
          exact ⟨by first | rfl | (simp [errW_none, errW_some] <;> rfl) | (simp [*, errW_none, errW_some] <;> rfl), by repeat (first | (with_reducible first | exact HB.out | apply below_alloc | apply pw_below_drewN | apply below_drew1) | exact HB.out)⟩
        · rw [if_neg c42] at H
          exact absurd H (by simp)

/-! ### anvilref14_worldWords: function 25 -/
end Go.Proofs.YtbmnifnahbehbaaDoor.PPr

/- anvilref14.worldWords: a world's words. -/
set_option linter.unusedVariables false
namespace Go.Proofs.YtbmnifnahbehbaaDoor
open Go.RowKit Go.Lib Go.Shelf Go.Proofs.YtbmnifnahbehbaaDoorW.PrintWords Go.Proofs.YtbmnifnahbehbaaDoorW.PrintMore Go.Proofs.YtbmnifnahbehbaaDoorW.PrintLast
open PPr
theorem quoteI_y : ∀ n : Fin 256, quoteI (n.val : Int) = (if (n.val : Int) = 34 ∨ (n.val : Int) = 92 then [92, (n.val : Int)] else if (n.val : Int) = 10 then [92, 110] else if (n.val : Int) < 32 ∨ 126 < (n.val : Int) then [92, 120] ++ bytesOf ⟨(two (n.val : Int)).toArray⟩ else [(n.val : Int)]) := by decide +kernel
theorem quote2_step (k : Nat) (acc l : List Int) (i : Nat) (hi : i < l.length) (hb : BytesI l) (ha : acc.length ≤ 1000000) (hl : l.length ≤ 1000000) :
    anvilref14_Quote.l0 (k + 6) l acc (i : Int) = anvilref14_Quote.l0 (k + 4) l (acc ++ quoteI l[i]) ((i + 1 : Nat) : Int) := by
  have hrd : rd l (i : Int) = l[i] := by
    unfold rd
    rw [Int.toNat_natCast, List.getD_eq_getElem?_getD, List.getElem?_eq_getElem hi]
    rfl
  obtain ⟨h0, h1⟩ := hb _ (List.getElem_mem hi)
  obtain ⟨b, hbv⟩ : ∃ b, l[i] = b := ⟨_, rfl⟩
  rw [hbv] at hrd h0 h1 ⊢
  have hd := digits_le (k := k) h0 h1
  have hu := u64_small h0 (show b ≤ 18446744073709551615 by omega)
  obtain ⟨n, rfl⟩ := Int.eq_ofNat_of_zero_le h0
  have HU := Lib.hid hu
  clear hu
  have hn : n < 256 := by omega
  have hq := quoteI_y ⟨n, hn⟩
  dsimp only at hq
  have hw : wrap64 ((i : Int) + 1) = ((i + 1 : Nat) : Int) := by
    rw [show (i : Int) + 1 = ((i + 1 : Nat) : Int) by omega]
    unfold wrap64; omega
  have hz : (⟨(two (n : Int)).toArray⟩ : ByteArray).size = 2 := arr_size (two n)
  rw [anvilref14_Quote.l0, if_pos (by omega), if_pos (by omega), hrd]
  have hj : ∀ bo, bo = decide ((n : Int) = 34 ∨ (n : Int) = 92) → anvilref14_Quote.j1 (k + 5) l acc (i : Int) (n : Int) bo = anvilref14_Quote.l0 (k + 4) l (acc ++ quoteI (n : Int)) ((i + 1 : Nat) : Int) := by
    rintro bo rfl
    have c1 : acc.length + 2 < 140737488355328 := by omega
    have c3 : acc.length < 140737488355328 := by omega
    rw [anvilref14_Quote.j1, hq, hw]
    by_cases e1 : (n : Int) = 34 ∨ (n : Int) = 92
    · rw [if_pos (decide_eq_true e1), if_pos e1]
      simp only [Option.bind_some, List.length_cons, List.length_nil]
      rw [if_pos c1]
    · rw [if_neg (by simpa using e1), if_neg e1]
      by_cases e2 : (n : Int) = 10
      · rw [if_pos e2, if_pos e2]
        simp only [Option.bind_some, List.length_cons, List.length_nil]
        rw [if_pos c1]
      · rw [if_neg e2, if_neg e2]
        by_cases e3 : (n : Int) < 32
        · rw [if_pos e3, if_pos (Or.inl e3), HU.out]
          simp only [Option.bind_some, List.length_cons, List.length_nil]
          rw [if_pos c1]
          simp only [Option.bind_some, hd]
          rw [if_pos (by rw [List.length_append, hz]; simp only [List.length_cons, List.length_nil]; omega), List.append_assoc]
        · rw [if_neg e3]
          by_cases e4 : (n : Int) > 126
          · rw [if_pos e4, if_pos (Or.inr e4), HU.out]
            simp only [Option.bind_some, List.length_cons, List.length_nil]
            rw [if_pos c1]
            simp only [Option.bind_some, hd]
            rw [if_pos (by rw [List.length_append, hz]; simp only [List.length_cons, List.length_nil]; omega), List.append_assoc]
          · rw [if_neg e4, if_pos c3, if_neg (by omega)]
  by_cases e1 : (n : Int) = 34
  · rw [if_pos e1]
    exact hj true (decide_eq_true (Or.inl e1)).symm
  · rw [if_neg e1]
    refine hj _ ?_
    by_cases e2 : (n : Int) = 92
    · rw [e2]; rfl
    · rw [beq_eq_false_iff_ne.mpr e2]
      exact (decide_eq_false (by omega)).symm
theorem quote2_all (l : List Int) (hb : BytesI l) (hl : l.length ≤ 1000) : ∀ (m : Nat) (acc : List Int) (i : Nat), i + m = l.length → acc.length ≤ 100 + 4 * i →
    anvilref14_Quote.l0 (2 * m + 4) l acc (i : Int) = some (strOfNums (acc ++ (l.drop i).flatMap quoteI ++ [34]))
  | 0, acc, i, hi, ha => by
    rw [anvilref14_Quote.l0, if_neg (by omega), if_pos (by omega), List.drop_of_length_le (by omega)]
    simp
  | m + 1, acc, i, hi, ha => by
    rw [show 2 * (m + 1) + 4 = 2 * m + 6 by omega, quote2_step _ _ _ i (by omega) hb (by omega) (by omega)]
    have hq := quoteI_len (l[i]'(by omega))
    rw [quote2_all l hb hl m _ (i + 1) (by omega) (by rw [List.length_append]; omega), List.drop_eq_getElem_cons (i := i) (by omega), List.flatMap_cons]
    simp only [List.append_assoc]
theorem quote2_f (l : List Int) (hb : BytesI l) (hl : l.length ≤ 1000) : anvilref14_Quote.f (2 * l.length + 4) l = some ⟨(quoteL l).toArray⟩ := by
  unfold anvilref14_Quote.f
  have h := quote2_all l hb hl l.length [34] 0 (by omega) (by decide)
  refine h.trans ?_
  unfold strOfNums quoteL
  rw [List.drop_zero, List.map_append, List.map_append, str_quoteI]
  rfl
theorem quote2_c (l : List Int) (hb : BytesI l) (hl : l.length ≤ 1000) (A : Option Addr) (c : Nat) (w : World) (hC : Kd.C (Kd.int .u8) w A l.length l) (hc : l.length ≤ c) :
    Calls Tryd.prog 50 #[.slice A l.length c] w fun e w' => e = .returned (.string ⟨(quoteL l).toArray⟩) ∧ Below w.heap.size w w' :=
  anvilref14_Quote.calls _ A c l _ w hC hc (quote2_f l hb hl)
set_option maxHeartbeats 4000000 in
set_option maxRecDepth 100000 in
theorem ww_c (x : S48) (A : Option Addr) (c : Nat) (w : World) (hb : BytesI x.f3) (hl : x.f3.length ≤ 1000) (hc : x.f3.length ≤ c) (hC : Kd.C (Kd.int .u8) w A x.f3.length x.f3) :
    Calls Tryd.prog 25 #[.agg #[.bool x.f0, .bool x.f1, .bool x.f2, .slice A x.f3.length c]] w fun e w' => e = .returned (.string (wordsB x)) ∧ Below w.heap.size w w' := by
  have hq := fun W (hb2 : Below w.heap.size w W) => quote2_c x.f3 hb hl A c W (Kd.C_below hC hb2) hc
  have hz : (⟨(quoteL x.f3).toArray⟩ : ByteArray).size ≤ 5000 := by have := quoteL_len x.f3; rw [arr_size]; omega
  obtain ⟨q, hqd⟩ : ∃ q : ByteArray, ⟨(quoteL x.f3).toArray⟩ = q := ⟨_, rfl⟩
  have hwd : wordsB x = (if x.f0 then wTick else noB) ++ (if x.f1 then wExt else noB) ++ (if x.f2 then wSoft else noB) ++ (if x.f3.length = 0 then noB else wInput ++ q) := by rw [← hqd]; rfl
  rw [hwd]
  rw [hqd] at hz
  simp only [hqd] at hq
  obtain ⟨f0, f1, f2, f3⟩ := x
  dsimp only at hq ⊢
  obtain ⟨n, hn⟩ : ∃ n, f3.length = n := ⟨_, rfl⟩
  simp only [hn] at hq ⊢
  have HQ := Lib.hid hq
  clear hq hwd hqd hC hb hl hc
  by_cases h0 : n = 0
  · subst h0
    cases f0 <;> cases f1 <;> cases f2
    all_goals
      go_enter Tryd.func25, Tryd.ntmps25
      go_wp2
      go_ret
      exact ⟨rfl, ((Below.refl _ _).alloc (Nat.le_refl _) _)⟩
  · have p0 : decide ((0 : Int) < (n : Int)) = true := decide_eq_true (by omega)
    have p1 : decide (0 < n) = true := decide_eq_true (by omega)
    have z1 : ∀ k, k ≤ 1000 → ((k + q.size ≤ 9223372036854775807) = True) := fun k hk => eq_true (by omega)
    have z0 := z1 7 (by decide)
    have z2 := z1 11 (by decide)
    have z3 := z1 12 (by decide)
    have z4 := z1 16 (by decide)
    have z5 := z1 17 (by decide)
    have z6 := z1 21 (by decide)
    clear z1
    have y1 : ∀ k, k ≤ 1000 → ((9223372036854775807 < k + q.size) = False) := fun k hk => eq_false (by omega)
    have y0 := y1 7 (by decide)
    have y2 := y1 11 (by decide)
    have y3 := y1 12 (by decide)
    have y4 := y1 16 (by decide)
    have y5 := y1 17 (by decide)
    have y6 := y1 21 (by decide)
    clear y1
    rw [if_neg h0]
    clear h0
    cases f0 <;> cases f1 <;> cases f2
    all_goals
      go_enter Tryd.func25, Tryd.ntmps25
      go_wp2_with (go_at_call 50; refine (HQ.out _ ((Below.refl _ _).alloc (Nat.le_refl _) _)).mono ?_; rintro e w2 ⟨rfl, hd⟩)
      go_ret
      refine ⟨?_, ((Below.refl _ _).alloc (Nat.le_refl _) _).trans (hd.mono ((Below.refl _ w).alloc (Nat.le_refl _) (Obj.cells _ _)).size)⟩
      rw [← ByteArray.append_assoc]
      rfl
end Go.Proofs.YtbmnifnahbehbaaDoor

/- The document's lines of a deck, as plain lists: their text, their number, their lengths. -/
set_option linter.unusedVariables false
namespace Go.Proofs.YtbmnifnahbehbaaDoor
open Go.RowKit Go.Lib Go.Shelf Go.Proofs.YtbmnifnahbehbaaDoorW.PrintWords Go.Proofs.YtbmnifnahbehbaaDoorW.PrintMore Go.Proofs.YtbmnifnahbehbaaDoorW.PrintLast
open PPr
def wAnvil : ByteArray := ⟨#[97, 110, 118, 105, 108, 32, 49]⟩
def wRam : ByteArray := ⟨#[114, 97, 109, 32]⟩
/-- The lines of a deck whose Cpu is proper. -/
def dLn (ram : Int) (c : Cp) (mt : Int) (ps : List S46) (ws : List S48) : List ByteArray :=
  [wAnvil] ++ [wRam ++ itoaB ram] ++ mtL mt ++ cpuLn c ++ ps.flatMap partL ++ runs (ws.map wordsB)
theorem txt_single (s : ByteArray) : txt [s] = lnT s := by
  unfold txt
  simp
theorem dLn_txt (ram : Int) (c : Cp) (mt : Int) (ps : List S46) (ws : List S48) : txt (dLn ram c mt ps ws) = deckT ram c mt ps ws := by
  unfold dLn deckT
  simp only [txt_append, txt_single, cpuLn_txt]
  have e : (headW ++ itoaB ram ++ nlB).data.toList = lnT wAnvil ++ lnT (wRam ++ itoaB ram) := by
    unfold lnT
    simp only [ByteArray.data_append, Array.toList_append]
    rfl
  rw [e]
  simp only [List.append_assoc]
/-- Every line is short. -/
def Small (L : List ByteArray) : Prop := ∀ s ∈ L, s.size ≤ 1000
theorem Small.app {L M : List ByteArray} (h : Small L) (k : Small M) : Small (L ++ M) := fun s hs => by
  rcases List.mem_append.1 hs with h1 | h1
  · exact h s h1
  · exact k s h1
theorem Small.nil : Small [] := fun s hs => by cases hs
theorem Small.one {s : ByteArray} (h : s.size ≤ 1000) : Small [s] := fun t ht => by rw [List.mem_singleton.1 ht]; exact h
theorem txt_le {L : List ByteArray} (h : Small L) : (txt L).length ≤ 1001 * L.length := by
  induction L with
  | nil => exact Nat.zero_le _
  | cons s r ih =>
    have h1 := ih (fun t ht => h t (List.mem_cons_of_mem _ ht))
    have h2 := h s (List.mem_cons_self ..)
    rw [txt_cons, List.length_append, List.length_cons]
    have h3 : (lnT s).length = s.size + 1 := by unfold lnT; rw [List.length_append, ← Lib.size_eq]; rfl
    omega
theorem jn_small {xs : List ByteArray} (h : (lineL xs).length ≤ 1000) : (jn xs).size ≤ 1000 := by
  have : (lnT (jn xs)).length = (jn xs).size + 1 := by unfold lnT; rw [List.length_append, ← Lib.size_eq]; rfl
  rw [lnT_jn] at this
  omega
theorem regW_small {c : Cp} (ho : CpuOk c) : ∀ k, k ≤ 32 → Small ((regW c k).map jn)
  | 0, _ => Small.nil
  | k + 1, hk => by
    rw [regW, List.map_append]
    refine (regW_small ho k (by omega)).app ?_
    split
    · exact Small.nil
    · exact Small.one (jn_small (len_reg (by omega) (ho.x k (by omega))))
theorem csrW_small {c z : Cp} (ho : CpuOk c) : ∀ k, k ≤ 12 → Small ((csrW c z k).map jn)
  | 0, _ => Small.nil
  | k + 1, hk => by
    rw [csrW, List.map_append]
    refine (csrW_small ho k (by omega)).app ?_
    split
    · exact Small.nil
    · exact Small.one (jn_small (len_csr (by omega) (ho.m k (by omega))))
theorem pmpW_small {c : Cp} (ho : CpuOk c) : ∀ k, k ≤ 16 → Small ((pmpW c k).map jn)
  | 0, _ => Small.nil
  | k + 1, hk => by
    rw [pmpW, List.map_append]
    refine (pmpW_small ho k (by omega)).app ?_
    split
    · exact Small.nil
    · exact Small.one (jn_small (len_pmp (by omega) (ho.p k (by omega)).1 (ho.p k (by omega)).2))
theorem cpuLn_small {c : Cp} (ho : CpuOk c) : Small (cpuLn c) := by
  unfold cpuLn
  refine (((((( Small.one (jn_small (len_pc ho.pc))).app (Small.one (jn_small (len_mode _)))).app ?_).app (regW_small ho 32 (by omega))).app (csrW_small ho 12 (by omega))).app (pmpW_small ho 16 (by omega))).app ?_
  · split
    · exact Small.nil
    · exact Small.one (jn_small len_wait)
  · split
    · exact Small.nil
    · exact Small.one (jn_small (len_res ho.rs.1 ho.rs.2))
theorem mtL_small {v : Int} (h : Ok64 v) : Small (mtL v) := by
  unfold mtL
  split
  · exact Small.nil
  · have h2 := hexB_size h
    have h1 : wMt.size = 6 := rfl
    exact Small.one (by rw [ByteArray.size_append]; omega)
theorem mtL_len (v : Int) : (mtL v).length ≤ 1 := by
  unfold mtL
  split
  · exact Nat.zero_le _
  · exact Nat.le_refl _
theorem partW_size {s : S46} (h : PtOk s) : (partW s).size ≤ 1000 := by
  have h1 := hexB_size h.a
  have h2 := dec_len 5 s.f1.toNat (by have := h.z; omega)
  have h3 := flag_size s.f2
  have h4 := arr_size (Lib.decDigits s.f1.toNat)
  have h5 : wPart.size = 5 := rfl
  have h7 : spB.size = 1 := rfl
  unfold partW
  rw [ByteArray.size_append, ByteArray.size_append, ByteArray.size_append, ByteArray.size_append, ByteArray.size_append]
  omega
theorem dataL_small : ∀ (n : Nat) (l : List Int), l.length ≤ n → Small (dataL l) ∧ (dataL l).length ≤ n
  | 0, l, h => by
    have : l = [] := List.eq_nil_of_length_eq_zero (by omega)
    rw [this, dataL_nil]
    exact ⟨Small.nil, Nat.le_refl _⟩
  | n + 1, l, h => by
    by_cases h0 : l.length = 0
    · have : l = [] := List.eq_nil_of_length_eq_zero h0
      rw [this, dataL_nil]
      exact ⟨Small.nil, Nat.zero_le _⟩
    · rw [dataL_cons h0]
      obtain ⟨h1, h2⟩ := dataL_small n (l.drop 32) (by rw [List.length_drop]; omega)
      refine ⟨fun s hs => ?_, by rw [List.length_cons]; omega⟩
      rcases List.mem_cons.1 hs with rfl | h3
      · unfold dataW
        have e1 : wData.size = 5 := rfl
        have e2 := arr_size (twos (l.take 32))
        rw [twos_len, List.length_take] at e2
        rw [ByteArray.size_append]
        omega
      · exact h1 s h3
theorem partL_small {s : S46} (h : PtOk s) : Small (partL s) ∧ (partL s).length ≤ 65537 := by
  obtain ⟨h1, h2⟩ := dataL_small _ s.f3 (Nat.le_refl _)
  unfold partL
  refine ⟨fun t ht => ?_, by rw [List.length_cons]; have := h.n; omega⟩
  rcases List.mem_cons.1 ht with rfl | h3
  · exact partW_size h
  · exact h1 t h3
theorem parts_small {ps : List S46} (h : ∀ s ∈ ps, PtOk s) : Small (ps.flatMap partL) := fun t ht => by
  obtain ⟨s, hs, h1⟩ := List.mem_flatMap.1 ht
  exact (partL_small (h s hs)).1 t h1
theorem stepL_size {s : ByteArray} {n : Nat} (h : s.size ≤ 300) (hn : n < 1000000) : (stepL s n).size ≤ 1000 := by
  unfold stepL
  have h1 : wStep.size = 4 := rfl
  have h2 : wSteps.size = 6 := rfl
  have h3 := itoa_size n hn
  split
  · rw [ByteArray.size_append]; omega
  · rw [ByteArray.size_append, ByteArray.size_append]; omega
theorem runs_small : ∀ (k : Nat) (xs : List ByteArray), xs.length ≤ k → k ≤ 4000 → (∀ s ∈ xs, s.size ≤ 300) → Small (runs xs) ∧ (runs xs).length ≤ k
  | 0, xs, h, _, _ => by
    have : xs = [] := List.eq_nil_of_length_eq_zero (by omega)
    rw [this, runs_nil]
    exact ⟨Small.nil, Nat.le_refl _⟩
  | k + 1, [], h, _, _ => by
    rw [runs_nil]
    exact ⟨Small.nil, Nat.zero_le _⟩
  | k + 1, s :: r, h, hk, hs => by
    have hr := runN_le s r
    rw [List.length_cons] at h
    obtain ⟨h1, h2⟩ := runs_small k (r.drop (runN s r)) (by rw [List.length_drop]; omega) (by omega) (fun t ht => hs t (List.mem_cons_of_mem _ (List.mem_of_mem_drop ht)))
    rw [runs_cons]
    refine ⟨fun t ht => ?_, by rw [List.length_cons]; omega⟩
    rcases List.mem_cons.1 ht with rfl | h3
    · exact stepL_size (hs s (List.mem_cons_self ..)) (by omega)
    · exact h1 t h3
theorem words_small {ws : List S48} (h : ∀ x ∈ ws, BytesI x.f3 ∧ x.f3.length ≤ 64) (hl : ws.length ≤ 4000) : Small (runs (ws.map wordsB)) :=
  (runs_small _ _ (Nat.le_refl _) (by rw [List.length_map]; exact hl) (fun s hs => by
    obtain ⟨x, hx, rfl⟩ := List.mem_map.1 hs
    exact words_size x (h x hx).2)).1
theorem itoaR {ram : Int} (hr : 0 ≤ ram ∧ ram < 1000000) : (wRam ++ itoaB ram).size ≤ 1000 := by
  have h1 := itoaZ ram hr.1 hr.2
  have h2 : wRam.size = 4 := rfl
  rw [ByteArray.size_append]
  omega
theorem dLn_small {ram : Int} {c : Cp} {mt : Int} {ps : List S46} {ws : List S48} (hr : 0 ≤ ram ∧ ram < 1000000) (hpt : ∀ s ∈ ps, PtOk s) (hwt : ∀ x ∈ ws, BytesI x.f3 ∧ x.f3.length ≤ 64) (hl : ws.length ≤ 4000) (hmt : Ok64 mt) (hcp : CpuOk c) : Small (dLn ram c mt ps ws) := by
  unfold dLn
  exact (((((Small.one (s := wAnvil) (by decide)).app (Small.one (itoaR hr))).app (mtL_small hmt)).app (cpuLn_small hcp)).app (parts_small hpt)).app (words_small hwt hl)
theorem cpuS_33 (c : Cp) : cpuS c 33 = 0 ∨ cpuS c 33 = 3 := by
  have e : cpuS c 33 = modeS (c 33) := rfl
  rw [e]
  unfold modeS
  split
  · exact .inr rfl
  · exact .inl rfl
theorem cpuS_1 (c : Cp) : cpuS c 1 = 0 := rfl
/-- The text's length, line by line. -/
theorem txt_take {L : List ByteArray} {i : Nat} (h : i < L.length) : (txt (L.take (i + 1))).length = (txt (L.take i)).length + L[i].size + 1 := by
  have e : L.take (i + 1) = L.take i ++ [L[i]] := by rw [List.take_add_one, List.getElem?_eq_getElem h]; rfl
  rw [e, txt_append, txt_single, List.length_append]
  have h3 : (lnT L[i]).length = L[i].size + 1 := by unfold lnT; rw [List.length_append, ← Lib.size_eq]; rfl
  omega
theorem txt_mono (L : List ByteArray) (i : Nat) : (txt (L.take i)).length ≤ (txt L).length := by
  conv => rhs; rw [← List.take_append_drop i L, txt_append, List.length_append]
  omega
end Go.Proofs.YtbmnifnahbehbaaDoor
