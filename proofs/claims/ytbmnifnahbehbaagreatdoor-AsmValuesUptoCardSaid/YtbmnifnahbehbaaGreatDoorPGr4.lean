/- The document's escape, two hex digits. -/
import Derived.Test.YtbmnifnahbehbaaGreatDoorPGr3
import Derived.Test.YtbmnifnahbehbaaGreatDoorPAvMb
import Derived.Stop.FmtQuoteTie
import Derived.Lib.OthersKept
import Derived.Test.YtbmnifnahbehbaaGreatDoorPGr2
set_option linter.unusedVariables false
set_option linter.unusedSimpArgs false
namespace Go.Proofs.YtbmnifnahbehbaaGreatDoor
open Go.RowKit Go.Lib Go.Proofs.YtbmnifnahbehbaaGreatDoorW.PrintWords Go.Proofs.YtbmnifnahbehbaaGreatDoorW.PrintMore Go.Proofs.YtbmnifnahbehbaaGreatDoorW.PrintLast
open AvP
set_option maxHeartbeats 8000000 in
set_option maxRecDepth 100000 in
theorem escapeX_c {w : World} {i m k : Nat} {s : ByteArray} {V Y : Int} (hs : s.size ≤ 100000) (h1 : i + 1 < s.size) (h2 : i + 2 < s.size) (h3 : i + 3 < s.size) (hc : (s[i + 1]'h1).toNat = 120) (hm : (s[i + 2]'h2).toNat = m) (hk : (s[i + 3]'h3).toNat = k)
    (hok : 0 ≤ hxI m ∧ 0 ≤ hxI k → V = 16 * hxI m + hxI k ∧ Y = 0) (hno : hxI m < 0 ∨ hxI k < 0 → Y ≠ 0) :
    Calls Tryz.prog 75 #[.string s, .int .i64 (i : Int)] w (EscD w (if Y = 0 then some (oneB V, V, i + 4) else none)) := by
  have hm256 : m < 256 := by rw [← hm]; exact (s[i + 2]'h2).toNat_lt
  have hk256 : k < 256 := by rw [← hk]; exact (s[i + 3]'h3).toNat_lt
  have rm := hxI_r m hm256
  have rk := hxI_r k hk256
  have cM := fun W => hex_c m hm256 W
  have cK := fun W => hex_c k hk256 W
  obtain ⟨J, hJ⟩ : ∃ J, hxI m = J := ⟨_, rfl⟩
  obtain ⟨L, hL⟩ : ∃ L, hxI k = L := ⟨_, rfl⟩
  rw [hJ] at rm cM hok hno
  rw [hL] at rk cK hok hno
  have CMK := Lib.hid (show ∀ (x : Int) (W : World), x = (m : Int) ∨ x = (k : Int) → Calls Tryz.prog 74 #[.int .u8 x] W fun e w' => e = .returned (.int .i64 (if x = (m : Int) then J else L)) ∧ w' = W from fun x W h => by
    by_cases hx : x = (m : Int)
    · rw [if_pos hx, hx]; exact cM W
    · rw [if_neg hx, h.resolve_left hx]; exact cK W)
  have f1 : (if (k : Int) = (m : Int) then J else L) = L := by
    by_cases hx : k = m
    · rw [if_pos (by rw [hx]), ← hJ, ← hL, hx]
    · rw [if_neg (by omega)]
  have f2 : (if k = m then J else L) = L := by
    by_cases hx : k = m
    · rw [if_pos hx, ← hJ, ← hL, hx]
    · rw [if_neg hx]
  have rm1 := rm.1
  have rm2 := rm.2.1
  have rk1 := rk.1
  have rk2 := rk.2.1
  have hc' : ((s[i + 1]'h1).toNat : Int) = 120 := by rw [hc]; rfl
  have hm' : ((s[i + 2]'h2).toNat : Int) = (m : Int) := by rw [hm]
  have hk' : ((s[i + 3]'h3).toNat : Int) = (k : Int) := by rw [hk]
  clear hc hm hk rm rk cM cK hm256 hk256 hJ hL
  obtain ⟨i1, hi1⟩ : ∃ x, x = i + 1 := ⟨_, rfl⟩
  obtain ⟨i2, hi2⟩ : ∃ x, x = i + 2 := ⟨_, rfl⟩
  obtain ⟨i3, hi3⟩ : ∃ x, x = i + 3 := ⟨_, rfl⟩
  obtain ⟨i4, hi4⟩ : ∃ x, x = i + 4 := ⟨_, rfl⟩
  have w1 : IntKind.i64.wrap ((i : Int) + 1) = (i1 : Int) := by rw [IntKind.wrap_i64]; omega
  have w2 : IntKind.i64.wrap ((i : Int) + 2) = (i2 : Int) := by rw [IntKind.wrap_i64]; omega
  have w3 : IntKind.i64.wrap ((i : Int) + 3) = (i3 : Int) := by rw [IntKind.wrap_i64]; omega
  have w4 : IntKind.i64.wrap ((i : Int) + 4) = (i4 : Int) := by rw [IntKind.wrap_i64]; omega
  revert h1 h2 h3 hc' hm' hk'
  rw [← hi1, ← hi2, ← hi3, ← hi4]
  intro h1 h2 h3 hc' hm' hk'
  have hlt : ¬ (s.size : Int) ≤ (i1 : Int) := by omega
  have hd : decide ((s.size : Int) ≤ (i1 : Int)) = false := decide_eq_false hlt
  have hlt3 : (i3 : Int) < (s.size : Int) := by omega
  have hd3 : decide ((i3 : Int) < (s.size : Int)) = true := decide_eq_true hlt3
  clear hi1 hi2 hi3 hi4 hs hlt hlt3
  by_cases hj : 0 ≤ J
  · by_cases hl : 0 ≤ L
    · obtain ⟨rfl, rfl⟩ := hok ⟨hj, hl⟩
      rw [if_pos rfl]
      obtain ⟨V, hV⟩ : ∃ V, 16 * J + L = V := ⟨_, rfl⟩
      have wM : IntKind.i64.wrap (16 * J) = 16 * J := by rw [IntKind.wrap_i64]; omega
      have wV : IntKind.i64.wrap (16 * J + L) = V := by rw [IntKind.wrap_i64]; omega
      have HO := fun W => Lib.hid (one_r V (i4 : Int) W (by omega) (by omega))
      have dj : decide (0 ≤ J) = true := decide_eq_true hj
      have dl : decide (0 ≤ L) = true := decide_eq_true hl
      rw [hV]
      clear hok hno hV
      go_enter Tryz.func75, Tryz.ntmps75
      go_wp2_with (first
        | (go_at_call 74; refine (CMK.out _ _ (by first | exact .inl rfl | exact .inr rfl)).mono ?_; rintro e w' ⟨rfl, rfl⟩)
        | (go_at_call 82; refine (HO _).out.mono ?_; rintro e w' ⟨rfl, hb'⟩; have ha := blk_below (blk_new w zI) hb'; have HS := Lib.hid (And.intro ha (((Below.refl _ w).alloc (Nat.le_refl _) zI).trans (hb'.mono ((Below.refl _ w).alloc (Nat.le_refl _) zI).size))); have b0 := blk_cell ha 0; have b1 := blk_cell ha 1; have b2 := blk_cell ha 2; have z0 := blk_frozen ha 0; have z1 := blk_frozen ha 1; have z2 := blk_frozen ha 2; clear hb' ha))
      refine bodyPost_ret (results_ct rfl _ _ w.heap.size 160 #[.int .u64 V, .string (oneB V), .int .i64 i4] (0, 0) _ rfl (blk_put (blk_put (blk_put HS.out.1 0 _ rfl) 1 _ rfl) 2 _ rfl) Tryz.underlying160 rfl (by kernel_rfl)) rfl ?_
      exact ⟨rfl, Below.setCell (Below.setCell (Below.setCell HS.out.2 (p := ⟨w.heap.size, 0, none⟩) (Nat.le_refl _) _) (p := ⟨w.heap.size, 1, none⟩) (Nat.le_refl _) _) (p := ⟨w.heap.size, 2, none⟩) (Nat.le_refl _) _⟩
    · rw [if_neg (hno (.inr (by omega)))]
      have dj : decide (0 ≤ J) = true := decide_eq_true hj
      have dl : decide (0 ≤ L) = false := decide_eq_false hl
      clear hok hno
      go_enter Tryz.func75, Tryz.ntmps75
      go_wp2_with (first
        | (go_at_call 74; refine (CMK.out _ _ (by first | exact .inl rfl | exact .inr rfl)).mono ?_; rintro e w' ⟨rfl, rfl⟩))
      refine bodyPost_ret (results_ct rfl _ _ w.heap.size 160 #[.int .u64 0, .string ⟨#[]⟩, .int .i64 0] (0, 0) _ rfl (blk_new w _) Tryz.underlying160 rfl (by kernel_rfl)) rfl ?_
      exact ⟨⟨_, _, _, rfl⟩, (Below.refl _ w).alloc (Nat.le_refl _) _⟩
  · rw [if_neg (hno (.inl (by omega)))]
    have dj : decide (0 ≤ J) = false := decide_eq_false hj
    clear hok hno
    go_enter Tryz.func75, Tryz.ntmps75
    go_wp2_with (first
      | (go_at_call 74; refine (CMK.out _ _ (by first | exact .inl rfl | exact .inr rfl)).mono ?_; rintro e w' ⟨rfl, rfl⟩))
    refine bodyPost_ret (results_ct rfl _ _ w.heap.size 160 #[.int .u64 0, .string ⟨#[]⟩, .int .i64 0] (0, 0) _ rfl (blk_new w _) Tryz.underlying160 rfl (by kernel_rfl)) rfl ?_
    exact ⟨⟨_, _, _, rfl⟩, (Below.refl _ w).alloc (Nat.le_refl _) _⟩
theorem ext2 (s : ByteArray) (i : Nat) (h2 : i + 2 < s.size) (h3 : i + 3 < s.size) : (s.extract (i + 2) (i + 4)).data.toList = [s[i + 2]'h2, s[i + 3]'h3] := by
  rw [data_ext s (i + 2) (i + 4) (by omega) (by omega)]
  have e2 : s.data.toList.length = s.size := (Lib.size_eq s).symm
  rw [List.drop_eq_getElem_cons (by omega), List.drop_eq_getElem_cons (by omega), show i + 4 - (i + 2) = 2 by omega]
  simp [ByteArray.getElem_eq_getElem_data]
/-- The document's escape does as the specification says. -/
theorem escape_c {w : World} {i : Nat} {s : ByteArray} (hs : s.size ≤ 100000) (hi : i < s.size) :
    Calls Tryz.prog 75 #[.string s, .int .i64 (i : Int)] w (EscD w (escS s i)) := by
  unfold escS
  by_cases h1 : s.size ≤ i + 1
  · rw [if_pos h1]
    exact escapeA_c hs h1 hi
  · rw [if_neg h1]
    have h1' : i + 1 < s.size := by omega
    have hc := by_at s (i + 1) h1'
    have hc256 : by_ s (i + 1) < 256 := by rw [← hc]; exact (s[i + 1]'h1').toNat_lt
    rcases esc_some _ hc256 with ⟨b, he, hb⟩ | ⟨he, hn⟩
    · rw [he]
      exact escapeB_c hs h1' hc hb
    · rw [he]
      dsimp only
      by_cases hx : by_ s (i + 1) ≠ 120 ∨ s.size < i + 4
      · rw [if_pos hx]
        exact escapeC_c hs h1' hc hn (by omega)
      · rw [if_neg hx]
        have h2 : i + 2 < s.size := by omega
        have h3 : i + 3 < s.size := by omega
        rw [ext2 s i h2 h3]
        exact escapeX_c hs h1' h2 h3 (hc.trans (by omega)) rfl rfl (fun h => by rw [val2_ok _ _ h.1 h.2]; exact ⟨rfl, rfl⟩) (fun h => val2_no _ _ h)
end Go.Proofs.YtbmnifnahbehbaaGreatDoor

/- The document's item: the two ends that need no decoding (the rest: session 8). -/
set_option linter.unusedVariables false
set_option linter.unusedSimpArgs false
namespace Go.Proofs.YtbmnifnahbehbaaGreatDoor
open Go.RowKit Go.Lib Go.Proofs.YtbmnifnahbehbaaGreatDoorW.PrintWords Go.Proofs.YtbmnifnahbehbaaGreatDoorW.PrintMore Go.Proofs.YtbmnifnahbehbaaGreatDoorW.PrintLast
open AvP
set_option maxHeartbeats 8000000 in
set_option maxRecDepth 100000 in
theorem itemN_c {w : World} {i c q : Nat} {s : ByteArray} (hi : i < s.size) (hc : (s[i]'hi).toNat = c) (h : c = q ∨ c ≠ q ∧ c = 10) :
    Calls Tryz.prog 67 #[.string s, .int .i64 (i : Int), .int .u8 (q : Int)] w (EscD w none) := by
  have hc' : ((s[i]'hi).toNat : Int) = (c : Int) := by rw [hc]
  have hge : ¬ (s.size : Int) ≤ (i : Int) := by omega
  have hd : decide ((s.size : Int) ≤ (i : Int)) = false := decide_eq_false hge
  clear hc hge
  rcases h with rfl | ⟨h, rfl⟩
  · go_enter Tryz.func67, Tryz.ntmps67
    go_wp2
    refine bodyPost_ret (results_ct rfl _ _ w.heap.size 160 #[.int .u64 0, .string ⟨#[]⟩, .int .i64 0] (0, 0) _ rfl (blk_new w _) Tryz.underlying160 rfl (by kernel_rfl)) rfl ?_
    exact ⟨⟨_, _, _, rfl⟩, (Below.refl _ w).alloc (Nat.le_refl _) _⟩
  · have e1 : ((10 : Int) == (q : Int)) = false := by rw [beq_eq_false_iff_ne]; omega
    have e2 : (((10 : Nat) : Int) == (q : Int)) = false := by rw [beq_eq_false_iff_ne]; omega
    clear h
    go_enter Tryz.func67, Tryz.ntmps67
    go_wp2
    refine bodyPost_ret (results_ct rfl _ _ w.heap.size 160 #[.int .u64 0, .string ⟨#[]⟩, .int .i64 0] (0, 0) _ rfl (blk_new w _) Tryz.underlying160 rfl (by kernel_rfl)) rfl ?_
    exact ⟨⟨_, _, _, rfl⟩, (Below.refl _ w).alloc (Nat.le_refl _) _⟩
set_option maxHeartbeats 8000000 in
set_option maxRecDepth 100000 in
theorem itemE_c {w : World} {i q : Nat} {s : ByteArray} (hs : s.size ≤ 100000) (hi : i < s.size) (hc : (s[i]'hi).toNat = 92) (hq : q = 39 ∨ q = 34) :
    Calls Tryz.prog 67 #[.string s, .int .i64 (i : Int), .int .u8 (q : Int)] w (EscD w (escS s i)) := by
  have hc' : ((s[i]'hi).toNat : Int) = 92 := by rw [hc]; rfl
  have hge : ¬ (s.size : Int) ≤ (i : Int) := by omega
  have hd : decide ((s.size : Int) ≤ (i : Int)) = false := decide_eq_false hge
  have CE := fun W => Lib.hid (escape_c (w := W) hs hi)
  obtain ⟨R, hR⟩ : ∃ R, escS s i = R := ⟨_, rfl⟩
  rw [hR] at CE ⊢
  clear hc hge hR hs
  rcases hq with rfl | rfl
  all_goals
    match R, CE with
    | some (b, v, n), CE =>
      have CE' := fun W => Lib.hid (show Calls Tryz.prog 75 #[.string s, .int .i64 (i : Int)] W fun e w' => e = .returned (.tuple #[.agg #[.int .u64 v, .string b, .int .i64 (n : Int)], .bool true]) ∧ Below W.heap.size W w' from (CE W).out)
      clear CE
      go_enter Tryz.func67, Tryz.ntmps67
      go_wp2_with (first | (go_at_call 75; refine (CE' _).out.mono ?_; rintro e w' ⟨HE, hb'⟩; subst HE; have ha := blk_below (blk_new w zI) hb'; have HS := Lib.hid (And.intro ha (((Below.refl _ w).alloc (Nat.le_refl _) zI).trans (hb'.mono ((Below.refl _ w).alloc (Nat.le_refl _) zI).size))); have b0 := blk_cell ha 0; have b1 := blk_cell ha 1; have b2 := blk_cell ha 2; have z0 := blk_frozen ha 0; have z1 := blk_frozen ha 1; have z2 := blk_frozen ha 2; clear hb' ha))
      refine bodyPost_ret (results_ct rfl _ _ w.heap.size 160 #[.int .u64 v, .string b, .int .i64 n] (0, 0) _ rfl (blk_put (blk_put (blk_put HS.out.1 0 _ rfl) 1 _ rfl) 2 _ rfl) Tryz.underlying160 rfl (by kernel_rfl)) rfl ?_
      exact ⟨rfl, Below.setCell (Below.setCell (Below.setCell HS.out.2 (p := ⟨w.heap.size, 0, none⟩) (Nat.le_refl _) _) (p := ⟨w.heap.size, 1, none⟩) (Nat.le_refl _) _) (p := ⟨w.heap.size, 2, none⟩) (Nat.le_refl _) _⟩
    | none, CE =>
      have CE' := fun W => Lib.hid (show Calls Tryz.prog 75 #[.string s, .int .i64 (i : Int)] W fun e w' => (∃ v b n, e = .returned (.tuple #[.agg #[.int .u64 v, .string b, .int .i64 n], .bool false])) ∧ Below W.heap.size W w' from (CE W).out)
      clear CE
      go_enter Tryz.func67, Tryz.ntmps67
      go_wp2_with (first | (go_at_call 75; refine (CE' _).out.mono ?_; rintro e w' ⟨⟨ev, eb, en, HE⟩, hb'⟩; subst HE; have ha := blk_below (blk_new w zI) hb'; have HS := Lib.hid (And.intro ha (((Below.refl _ w).alloc (Nat.le_refl _) zI).trans (hb'.mono ((Below.refl _ w).alloc (Nat.le_refl _) zI).size))); have b0 := blk_cell ha 0; have b1 := blk_cell ha 1; have b2 := blk_cell ha 2; have z0 := blk_frozen ha 0; have z1 := blk_frozen ha 1; have z2 := blk_frozen ha 2; clear hb' ha))
      refine bodyPost_ret (results_ct rfl _ _ w.heap.size 160 #[.int .u64 ev, .string eb, .int .i64 en] (0, 0) _ rfl (blk_put (blk_put (blk_put HS.out.1 0 _ rfl) 1 _ rfl) 2 _ rfl) Tryz.underlying160 rfl (by kernel_rfl)) rfl ?_
      exact ⟨⟨ev, eb, en, rfl⟩, Below.setCell (Below.setCell (Below.setCell HS.out.2 (p := ⟨w.heap.size, 0, none⟩) (Nat.le_refl _) _) (p := ⟨w.heap.size, 1, none⟩) (Nat.le_refl _) _) (p := ⟨w.heap.size, 2, none⟩) (Nat.le_refl _) _⟩
end Go.Proofs.YtbmnifnahbehbaaGreatDoor

/- The document's item, decoded. -/
set_option linter.unusedVariables false
set_option linter.unusedSimpArgs false
namespace Go.Proofs.YtbmnifnahbehbaaGreatDoor
open Go.RowKit Go.Lib Go.Proofs.YtbmnifnahbehbaaGreatDoorW.PrintWords Go.Proofs.YtbmnifnahbehbaaGreatDoorW.PrintMore Go.Proofs.YtbmnifnahbehbaaGreatDoorW.PrintLast
open AvP
set_option maxHeartbeats 8000000 in
set_option maxRecDepth 100000 in
theorem itemB39_c {w : World} {i c R K : Nat} {s : ByteArray} (hi : i < s.size) (hc : (s[i]'hi).toNat = c) (n1 : c ≠ 39) (n2 : c ≠ 10) (n3 : c ≠ 92)
    (hD : Calls Tryz.prog 42 #[.string (s.extract i s.size)] (w.alloc zI) fun e w' => e = .returned (.tuple #[.int .i32 (R : Int), .int .i64 (K : Int)]) ∧ Below (w.alloc zI).heap.size (w.alloc zI) w') (hR : R = 65533) (hK : K = 1) :
    Calls Tryz.prog 67 #[.string s, .int .i64 (i : Int), .int .u8 39] w (EscD w none) := by
  have hc' : ((s[i]'hi).toNat : Int) = (c : Int) := by rw [hc]
  have hge : ¬ (s.size : Int) ≤ (i : Int) := by omega
  have hd : decide ((s.size : Int) ≤ (i : Int)) = false := decide_eq_false hge
  have e1 : ((c : Int) == 39) = false := by rw [beq_eq_false_iff_ne]; omega
  have e2 : ((c : Int) == 10) = false := by rw [beq_eq_false_iff_ne]; omega
  have e3 : ((c : Int) == 92) = false := by rw [beq_eq_false_iff_ne]; omega
  have hi' : i ≤ s.size := by omega
  subst hR hK
  have HD := Lib.hid hD
  clear hc hge n1 n2 n3 hD
  go_enter Tryz.func67, Tryz.ntmps67
  go_wp2_with (first | (go_at_call 42; refine HD.out.mono ?_; rintro e w' ⟨rfl, hb'⟩; have ha := blk_below (blk_new w zI) hb'; have HS := Lib.hid (And.intro ha (((Below.refl _ w).alloc (Nat.le_refl _) zI).trans (hb'.mono ((Below.refl _ w).alloc (Nat.le_refl _) zI).size))); have b0 := blk_cell ha 0; have b1 := blk_cell ha 1; have b2 := blk_cell ha 2; have z0 := blk_frozen ha 0; have z1 := blk_frozen ha 1; have z2 := blk_frozen ha 2; clear hb' ha))
  refine bodyPost_ret (results_ct rfl _ _ w.heap.size 160 #[.int .u64 0, .string ⟨#[]⟩, .int .i64 0] (0, 0) _ rfl (blk_put (blk_put (blk_put HS.out.1 0 _ rfl) 1 _ rfl) 2 _ rfl) Tryz.underlying160 rfl (by kernel_rfl)) rfl ?_
  exact ⟨⟨_, _, _, rfl⟩, Below.setCell (Below.setCell (Below.setCell HS.out.2 (p := ⟨w.heap.size, 0, none⟩) (Nat.le_refl _) _) (p := ⟨w.heap.size, 1, none⟩) (Nat.le_refl _) _) (p := ⟨w.heap.size, 2, none⟩) (Nat.le_refl _) _⟩
set_option maxHeartbeats 8000000 in
set_option maxRecDepth 100000 in
theorem itemG39_c {w : World} {i c R K : Nat} {s : ByteArray} (hi : i < s.size) (hc : (s[i]'hi).toNat = c) (n1 : c ≠ 39) (n2 : c ≠ 10) (n3 : c ≠ 92)
    (hD : Calls Tryz.prog 42 #[.string (s.extract i s.size)] (w.alloc zI) fun e w' => e = .returned (.tuple #[.int .i32 (R : Int), .int .i64 (K : Int)]) ∧ Below (w.alloc zI).heap.size (w.alloc zI) w') (hs : s.size ≤ 100000) (hK1 : 1 ≤ K) (hK : i + K ≤ s.size) (hR : R ≤ 2147483647) (hA : ¬ (R = 65533 ∧ K = 1)) :
    Calls Tryz.prog 67 #[.string s, .int .i64 (i : Int), .int .u8 39] w (EscD w (some (s.extract i (i + K), (R : Int), i + K))) := by
  have hc' : ((s[i]'hi).toNat : Int) = (c : Int) := by rw [hc]
  have hge : ¬ (s.size : Int) ≤ (i : Int) := by omega
  have hd : decide ((s.size : Int) ≤ (i : Int)) = false := decide_eq_false hge
  have e1 : ((c : Int) == 39) = false := by rw [beq_eq_false_iff_ne]; omega
  have e2 : ((c : Int) == 10) = false := by rw [beq_eq_false_iff_ne]; omega
  have e3 : ((c : Int) == 92) = false := by rw [beq_eq_false_iff_ne]; omega
  have hi' : i ≤ s.size := by omega
  have wR : IntKind.u64.wrap (R : Int) = (R : Int) := by rw [IntKind.wrap_u64]; omega
  obtain ⟨iK, hiK⟩ : ∃ x, i + K = x := ⟨_, rfl⟩
  have wK : IntKind.i64.wrap ((i : Int) + (K : Int)) = (iK : Int) := by rw [IntKind.wrap_i64]; omega
  have k1 : i ≤ iK := by omega
  have k2 : iK ≤ s.size := by omega
  rw [hiK]
  have HD := Lib.hid hD
  have hr : ((R : Int) == 65533) = false ∨ ((R : Int) == 65533) = true ∧ decide ((K : Int) < 2) = false ∧ ¬ (K : Int) < 2 := by
    by_cases h : R = 65533
    · exact .inr ⟨by rw [h]; rfl, decide_eq_false (by omega), by omega⟩
    · exact .inl (by rw [beq_eq_false_iff_ne]; omega)
  clear hc hge n1 n2 n3 hD hs hR hiK hK hK1 hA
  rcases hr with g1 | ⟨g1, g2, g3⟩
  · go_enter Tryz.func67, Tryz.ntmps67
    go_wp2_with (first | (go_at_call 42; refine HD.out.mono ?_; rintro e w' ⟨rfl, hb'⟩; have ha := blk_below (blk_new w zI) hb'; have HS := Lib.hid (And.intro ha (((Below.refl _ w).alloc (Nat.le_refl _) zI).trans (hb'.mono ((Below.refl _ w).alloc (Nat.le_refl _) zI).size))); have b0 := blk_cell ha 0; have b1 := blk_cell ha 1; have b2 := blk_cell ha 2; have z0 := blk_frozen ha 0; have z1 := blk_frozen ha 1; have z2 := blk_frozen ha 2; clear hb' ha))
    refine bodyPost_ret (results_ct rfl _ _ w.heap.size 160 #[.int .u64 R, .string (s.extract i iK), .int .i64 iK] (0, 0) _ rfl (blk_put (blk_put (blk_put HS.out.1 0 _ rfl) 1 _ rfl) 2 _ rfl) Tryz.underlying160 rfl (by kernel_rfl)) rfl ?_
    exact ⟨rfl, Below.setCell (Below.setCell (Below.setCell HS.out.2 (p := ⟨w.heap.size, 0, none⟩) (Nat.le_refl _) _) (p := ⟨w.heap.size, 1, none⟩) (Nat.le_refl _) _) (p := ⟨w.heap.size, 2, none⟩) (Nat.le_refl _) _⟩
  · go_enter Tryz.func67, Tryz.ntmps67
    go_wp2_with (first | (go_at_call 42; refine HD.out.mono ?_; rintro e w' ⟨rfl, hb'⟩; have ha := blk_below (blk_new w zI) hb'; have HS := Lib.hid (And.intro ha (((Below.refl _ w).alloc (Nat.le_refl _) zI).trans (hb'.mono ((Below.refl _ w).alloc (Nat.le_refl _) zI).size))); have b0 := blk_cell ha 0; have b1 := blk_cell ha 1; have b2 := blk_cell ha 2; have z0 := blk_frozen ha 0; have z1 := blk_frozen ha 1; have z2 := blk_frozen ha 2; clear hb' ha))
    refine bodyPost_ret (results_ct rfl _ _ w.heap.size 160 #[.int .u64 R, .string (s.extract i iK), .int .i64 iK] (0, 0) _ rfl (blk_put (blk_put (blk_put HS.out.1 0 _ rfl) 1 _ rfl) 2 _ rfl) Tryz.underlying160 rfl (by kernel_rfl)) rfl ?_
    exact ⟨rfl, Below.setCell (Below.setCell (Below.setCell HS.out.2 (p := ⟨w.heap.size, 0, none⟩) (Nat.le_refl _) _) (p := ⟨w.heap.size, 1, none⟩) (Nat.le_refl _) _) (p := ⟨w.heap.size, 2, none⟩) (Nat.le_refl _) _⟩
set_option maxHeartbeats 8000000 in
set_option maxRecDepth 100000 in
theorem itemB34_c {w : World} {i c R K : Nat} {s : ByteArray} (hi : i < s.size) (hc : (s[i]'hi).toNat = c) (n1 : c ≠ 34) (n2 : c ≠ 10) (n3 : c ≠ 92)
    (hD : Calls Tryz.prog 42 #[.string (s.extract i s.size)] (w.alloc zI) fun e w' => e = .returned (.tuple #[.int .i32 (R : Int), .int .i64 (K : Int)]) ∧ Below (w.alloc zI).heap.size (w.alloc zI) w') (hR : R = 65533) (hK : K = 1) :
    Calls Tryz.prog 67 #[.string s, .int .i64 (i : Int), .int .u8 34] w (EscD w none) := by
  have hc' : ((s[i]'hi).toNat : Int) = (c : Int) := by rw [hc]
  have hge : ¬ (s.size : Int) ≤ (i : Int) := by omega
  have hd : decide ((s.size : Int) ≤ (i : Int)) = false := decide_eq_false hge
  have e1 : ((c : Int) == 34) = false := by rw [beq_eq_false_iff_ne]; omega
  have e2 : ((c : Int) == 10) = false := by rw [beq_eq_false_iff_ne]; omega
  have e3 : ((c : Int) == 92) = false := by rw [beq_eq_false_iff_ne]; omega
  have hi' : i ≤ s.size := by omega
  subst hR hK
  have HD := Lib.hid hD
  clear hc hge n1 n2 n3 hD
  go_enter Tryz.func67, Tryz.ntmps67
  go_wp2_with (first | (go_at_call 42; refine HD.out.mono ?_; rintro e w' ⟨rfl, hb'⟩; have ha := blk_below (blk_new w zI) hb'; have HS := Lib.hid (And.intro ha (((Below.refl _ w).alloc (Nat.le_refl _) zI).trans (hb'.mono ((Below.refl _ w).alloc (Nat.le_refl _) zI).size))); have b0 := blk_cell ha 0; have b1 := blk_cell ha 1; have b2 := blk_cell ha 2; have z0 := blk_frozen ha 0; have z1 := blk_frozen ha 1; have z2 := blk_frozen ha 2; clear hb' ha))
  refine bodyPost_ret (results_ct rfl _ _ w.heap.size 160 #[.int .u64 0, .string ⟨#[]⟩, .int .i64 0] (0, 0) _ rfl (blk_put (blk_put (blk_put HS.out.1 0 _ rfl) 1 _ rfl) 2 _ rfl) Tryz.underlying160 rfl (by kernel_rfl)) rfl ?_
  exact ⟨⟨_, _, _, rfl⟩, Below.setCell (Below.setCell (Below.setCell HS.out.2 (p := ⟨w.heap.size, 0, none⟩) (Nat.le_refl _) _) (p := ⟨w.heap.size, 1, none⟩) (Nat.le_refl _) _) (p := ⟨w.heap.size, 2, none⟩) (Nat.le_refl _) _⟩
set_option maxHeartbeats 8000000 in
set_option maxRecDepth 100000 in
theorem itemG34_c {w : World} {i c R K : Nat} {s : ByteArray} (hi : i < s.size) (hc : (s[i]'hi).toNat = c) (n1 : c ≠ 34) (n2 : c ≠ 10) (n3 : c ≠ 92)
    (hD : Calls Tryz.prog 42 #[.string (s.extract i s.size)] (w.alloc zI) fun e w' => e = .returned (.tuple #[.int .i32 (R : Int), .int .i64 (K : Int)]) ∧ Below (w.alloc zI).heap.size (w.alloc zI) w') (hs : s.size ≤ 100000) (hK1 : 1 ≤ K) (hK : i + K ≤ s.size) (hR : R ≤ 2147483647) (hA : ¬ (R = 65533 ∧ K = 1)) :
    Calls Tryz.prog 67 #[.string s, .int .i64 (i : Int), .int .u8 34] w (EscD w (some (s.extract i (i + K), (R : Int), i + K))) := by
  have hc' : ((s[i]'hi).toNat : Int) = (c : Int) := by rw [hc]
  have hge : ¬ (s.size : Int) ≤ (i : Int) := by omega
  have hd : decide ((s.size : Int) ≤ (i : Int)) = false := decide_eq_false hge
  have e1 : ((c : Int) == 34) = false := by rw [beq_eq_false_iff_ne]; omega
  have e2 : ((c : Int) == 10) = false := by rw [beq_eq_false_iff_ne]; omega
  have e3 : ((c : Int) == 92) = false := by rw [beq_eq_false_iff_ne]; omega
  have hi' : i ≤ s.size := by omega
  have wR : IntKind.u64.wrap (R : Int) = (R : Int) := by rw [IntKind.wrap_u64]; omega
  obtain ⟨iK, hiK⟩ : ∃ x, i + K = x := ⟨_, rfl⟩
  have wK : IntKind.i64.wrap ((i : Int) + (K : Int)) = (iK : Int) := by rw [IntKind.wrap_i64]; omega
  have k1 : i ≤ iK := by omega
  have k2 : iK ≤ s.size := by omega
  rw [hiK]
  have HD := Lib.hid hD
  have hr : ((R : Int) == 65533) = false ∨ ((R : Int) == 65533) = true ∧ decide ((K : Int) < 2) = false ∧ ¬ (K : Int) < 2 := by
    by_cases h : R = 65533
    · exact .inr ⟨by rw [h]; rfl, decide_eq_false (by omega), by omega⟩
    · exact .inl (by rw [beq_eq_false_iff_ne]; omega)
  clear hc hge n1 n2 n3 hD hs hR hiK hK hK1 hA
  rcases hr with g1 | ⟨g1, g2, g3⟩
  · go_enter Tryz.func67, Tryz.ntmps67
    go_wp2_with (first | (go_at_call 42; refine HD.out.mono ?_; rintro e w' ⟨rfl, hb'⟩; have ha := blk_below (blk_new w zI) hb'; have HS := Lib.hid (And.intro ha (((Below.refl _ w).alloc (Nat.le_refl _) zI).trans (hb'.mono ((Below.refl _ w).alloc (Nat.le_refl _) zI).size))); have b0 := blk_cell ha 0; have b1 := blk_cell ha 1; have b2 := blk_cell ha 2; have z0 := blk_frozen ha 0; have z1 := blk_frozen ha 1; have z2 := blk_frozen ha 2; clear hb' ha))
    refine bodyPost_ret (results_ct rfl _ _ w.heap.size 160 #[.int .u64 R, .string (s.extract i iK), .int .i64 iK] (0, 0) _ rfl (blk_put (blk_put (blk_put HS.out.1 0 _ rfl) 1 _ rfl) 2 _ rfl) Tryz.underlying160 rfl (by kernel_rfl)) rfl ?_
    exact ⟨rfl, Below.setCell (Below.setCell (Below.setCell HS.out.2 (p := ⟨w.heap.size, 0, none⟩) (Nat.le_refl _) _) (p := ⟨w.heap.size, 1, none⟩) (Nat.le_refl _) _) (p := ⟨w.heap.size, 2, none⟩) (Nat.le_refl _) _⟩
  · go_enter Tryz.func67, Tryz.ntmps67
    go_wp2_with (first | (go_at_call 42; refine HD.out.mono ?_; rintro e w' ⟨rfl, hb'⟩; have ha := blk_below (blk_new w zI) hb'; have HS := Lib.hid (And.intro ha (((Below.refl _ w).alloc (Nat.le_refl _) zI).trans (hb'.mono ((Below.refl _ w).alloc (Nat.le_refl _) zI).size))); have b0 := blk_cell ha 0; have b1 := blk_cell ha 1; have b2 := blk_cell ha 2; have z0 := blk_frozen ha 0; have z1 := blk_frozen ha 1; have z2 := blk_frozen ha 2; clear hb' ha))
    refine bodyPost_ret (results_ct rfl _ _ w.heap.size 160 #[.int .u64 R, .string (s.extract i iK), .int .i64 iK] (0, 0) _ rfl (blk_put (blk_put (blk_put HS.out.1 0 _ rfl) 1 _ rfl) 2 _ rfl) Tryz.underlying160 rfl (by kernel_rfl)) rfl ?_
    exact ⟨rfl, Below.setCell (Below.setCell (Below.setCell HS.out.2 (p := ⟨w.heap.size, 0, none⟩) (Nat.le_refl _) _) (p := ⟨w.heap.size, 1, none⟩) (Nat.le_refl _) _) (p := ⟨w.heap.size, 2, none⟩) (Nat.le_refl _) _⟩
end Go.Proofs.YtbmnifnahbehbaaGreatDoor

/- asm.cutter.name. -/
set_option linter.unusedVariables false
set_option linter.unusedSimpArgs false
namespace Go.Proofs.YtbmnifnahbehbaaGreatDoor
open Go.RowKit Go.Lib Go.Proofs.YtbmnifnahbehbaaGreatDoorW.PrintWords Go.Proofs.YtbmnifnahbehbaaGreatDoorW.PrintMore Go.Proofs.YtbmnifnahbehbaaGreatDoorW.PrintLast
open AvP
/-- A rune that may stand in a name. -/
def okR (first : Bool) (c : Nat) : Bool := isLetterU (c : Int) || decide (c = 95) || decide (c = 46) || (!first && (decide (c = 36) || (decide (48 ≤ c) && decide (c ≤ 57))))
/-- May the rune at j stand in the name that begins at i? -/
def goesR (s : ByteArray) (i j : Nat) : Bool := !(decide ((Utf8.decode s j).1 = 65533) && decide ((Utf8.decode s j).2 = 1)) && okR (decide (j = i)) (Utf8.decode s j).1
/-- The name's end, and how many runes it has. -/
def nameGo (s : ByteArray) (i : Nat) : Nat → Nat → Nat → Nat × Nat
  | 0, j, r => (j, r)
  | f + 1, j, r => if j < s.size then (if goesR s i j = true then nameGo s i f (j + (Utf8.decode s j).2) (r + 1) else (j, r)) else (j, r)
/-- The name at i, or its fault. -/
def nameS (s : ByteArray) (i : Nat) : Except (Int × Int) Tok :=
  let E := nameGo s i (s.size + 1) i 0
  if E.1 = i then .error ((i : Int), 80) else if 40 < E.2 then .error ((i : Int), 5) else .ok ⟨0, (i : Int), (E.1 : Int), s.extract i E.1, 0, false⟩
theorem dec_in (s : ByteArray) (i p : Nat) : Utf8.decode (s.extract i s.size) p = Utf8.decode s (i + p) := by
  rw [← Go.Extern.FmtText.decode_extract s (i + p), ← Go.Extern.FmtText.decode_extract (s.extract i s.size) p, Go.Extern.FmtText.extract_extract]
theorem dec_go (s : ByteArray) (j : Nat) (h : j < s.size) : Lib.decodeGo (s.extract j s.size) = Utf8.decode s j := by
  unfold Lib.decodeGo
  rw [if_neg (by rw [ByteArray.size_extract]; omega), Go.Extern.FmtText.decode_extract]
theorem dec_w (s : ByteArray) (j : Nat) (h : j < s.size) : 1 ≤ (Utf8.decode s j).2 ∧ j + (Utf8.decode s j).2 ≤ s.size := by
  refine ⟨Lib.decode_width_pos s j h, ?_⟩
  rw [← dec_go s j h]
  have := Lib.decodeGo_le_size (s.extract j s.size)
  have hs : (s.extract j s.size).size = s.size - j := by rw [ByteArray.size_extract]; omega
  omega
theorem CSt.iter {w W : World} {g i ib p : Nat} {s t : ByteArray} {l : List Tok} (h : CSt w g s i l W) (hb : w.heap.size ≤ ib) (hi : W.heap[ib]? = some (.stringIter t p)) (p' : Nat) : CSt w g s i l (W.iterAt ib t p') := by
  obtain ⟨A, cp, h1, h2⟩ := h.x
  have hgi : g ≠ ib := fun e => by subst e; rw [h1] at hi; cases hi
  have hbi := Lib.below_iterAt (Below.refl ib W) (Nat.le_refl _) t p'
  refine ⟨Lib.below_iterAt h.b hb t p', h.g0, A, cp, (Lib.iterAt_other W ib g t p' hgi).trans h1, ?_⟩
  refine Kd.R_mono (Kd.R_step (Kd.R_bound h2) (fun k hk hlt => ?_)) (fun k hk => hk.1)
  obtain ⟨_, _, _, q, _, cells, hc⟩ := hk
  exact Lib.iterAt_other W ib k t p' (fun e => by subst e; rw [hc] at hi; cases hi)
theorem isL_65533 : isLetterU ((65533 : Nat) : Int) = false := by decide +kernel
set_option maxHeartbeats 8000000 in
set_option maxRecDepth 100000 in
theorem name_c {w W : World} {g i : Nat} {s : ByteArray} {l : List Tok} (h : CSt w g s i l W) (hG : Glob w) (hi : i < s.size) (hs : s.size ≤ 100000) (hl : l.length ≤ 99999) :
    Calls Tryz.prog 23 #[.pointer (some ⟨g, 0, none⟩)] W (PartEnd w g s l (nameS s i)) := by
  obtain ⟨R, hR⟩ : ∃ R, nameS s i = R := ⟨_, rfl⟩
  rw [hR]
  have HR := Lib.hid hR
  have H := Lib.hid (h.below (below_drew (Below.refl _ _)))
  have HH := Lib.hid (And.intro hG (And.intro hi (And.intro hs hl)))
  have c0 := h.c0
  have c1 := h.c1
  have hi' : i ≤ s.size := by omega
  obtain ⟨t, ht⟩ : ∃ t, s.extract i s.size = t := ⟨_, rfl⟩
  have hts : t.size = s.size - i := by rw [← ht, ByteArray.size_extract]; omega
  have HT := Lib.hid (And.intro ht hts)
  have hbi : Below W.heap.size W (W.drew.iter t 0) := (below_drew (Below.refl W.heap.size W)).alloc (Nat.le_refl _) _
  have hCi := h.below hbi
  have d0 := hCi.c0
  have d1 := hCi.c1
  have hit0 := World.iter_heap W.drew t 0
  have HC0 := Lib.hid (And.intro hCi hit0)
  have hgl := World.block_lt_of_cell? _ _ c0
  have HGL := Lib.hid hgl
  have HHW := Lib.hid h.b.size
  clear hR h hG hl hts hCi hit0 hgl
  go_enter Tryz.func23, Tryz.ntmps23
  go_wp2
  go_region_held2 (fun w' => w'.cell? ⟨g, 0, none⟩ = some (.string s) ∧ w'.cell? ⟨g, 1, none⟩ = some (.int .i64 (i : Int))) (first | exact ⟨c0, c1⟩ | exact ⟨d0, d1⟩ | go_keep) (fail)
  obtain ⟨w2, hw2⟩ : ∃ q, W.drew.iter t 0 = q := ⟨_, rfl⟩
  rw [hw2] at HC0 hbi ⊢
  obtain ⟨ib, hib⟩ : ∃ q, W.drew.heap.size = q := ⟨_, rfl⟩
  have hgib : g < ib := by rw [← hib]; exact HGL.out
  have hib2 : W.heap.size = ib := hib
  have HC1 : Hid (CSt w g s i l w2 ∧ w2.heap[ib]? = some (.stringIter t 0)) := Lib.hid (by rw [← hib]; exact HC0.out)
  clear HC0 hw2 c0 c1 d0 d1 hbi hib
  rw [hib2]
  have HGI := Lib.hid hgib
  have HIB : Hid (w.heap.size ≤ ib) := Lib.hid (by have := HC1.out.1.b.size; have := HHW.out; omega)
  clear hib2 hgib
  go_wp2
  go_loopg [3, 4] (s.size + 1) (fun gm v3 v4 wx => ∃ (n r : Nat), .int .i64 (n : Int) = v3 ∧ .int .i64 (r : Int) = v4 ∧ i + n ≤ s.size ∧ r ≤ n ∧ Hid (s.size + 1 ≤ gm + n) ∧ Hid (CSt w g s i l wx) ∧ wx.heap[ib]? = some (.stringIter t n) ∧ Hid (nameGo s i gm (i + n) r = nameGo s i (s.size + 1) i 0))
  case atStart => exact ⟨0, 0, rfl, rfl, by omega, Nat.le_refl _, Lib.hid (by omega), Lib.hid HC1.out.1, HC1.out.2, Lib.hid rfl⟩
  case round =>
    obtain ⟨n, r, rfl, rfl, hn, hrn, HI, HX, hit, HN⟩ := hrel
    obtain ⟨gm, rfl⟩ : ∃ z, gk = z + 1 := ⟨gk - 1, by have := HI.out; omega⟩
    have hN := HN.out
    rw [nameGo] at hN
    by_cases hps : n < t.size
    · have hj : i + n < s.size := by have := HT.out.2; omega
      rw [if_pos hj] at hN
      have hnx : ∀ ty, (Instr.next (.pointer (some ⟨ib, 0, none⟩)) true ty).run Tryz.prog wr = _ := fun ty => Lib.run_next_any_at wr ib t n ty hit hps
      have hdec : Utf8.decode t n = Utf8.decode s (i + n) := by rw [← HT.out.1]; exact dec_in s i n
      have hRle := decode_le s (i + n)
      obtain ⟨hK1, hK2⟩ := dec_w s (i + n) hj
      have hdg := dec_go s (i + n) hj
      rw [hdec] at hnx
      have hgo : goesR s i (i + n) = (!(decide ((Utf8.decode s (i + n)).1 = 65533) && decide ((Utf8.decode s (i + n)).2 = 1)) && okR (decide (n = 0)) (Utf8.decode s (i + n)).1) := by
        unfold goesR
        rw [show decide (i + n = i) = decide (n = 0) by congr 1; simp]
      rw [hgo] at hN
      obtain ⟨RR, hRR⟩ : ∃ q, (Utf8.decode s (i + n)).1 = q := ⟨_, rfl⟩
      obtain ⟨K, hK⟩ : ∃ q, (Utf8.decode s (i + n)).2 = q := ⟨_, rfl⟩
      rw [hRR, hK] at hnx hN
      rw [hRR] at hRle
      rw [hK] at hK1 hK2
      have hdgo := fun (W' : World) (hg : Glob W') => dec_c (s.extract (i + n) s.size) W' hg
      rw [hdg, hRR, hK] at hdgo
      have hit2 := Lib.iterAt_heap wr ib t n (n + K) hit
      have hbi : Below ib wr (wr.iterAt ib t (n + K)) := Lib.below_iterAt (Below.refl _ _) (Nat.le_refl _) t (n + K)
      have hLT : ∀ W', Glob W' → Calls Tryz.prog 43 #[.int .i32 (RR : Int)] W' fun e w' => e = .returned (.bool (isLetterU (RR : Int))) ∧ Below W'.heap.size W' w' := fun W' hg => letter_c (RR : Int) W' (by omega) (by omega) hg
      obtain ⟨wv, hwv⟩ : ∃ q, wr.iterAt ib t (n + K) = q := ⟨_, rfl⟩
      have hC3 := HX.out.iter HIB.out hit (n + K)
      rw [hwv] at hnx hit2 hC3
      obtain ⟨j, hj2⟩ : ∃ j, i + n = j := ⟨_, rfl⟩
      have wj : IntKind.i64.wrap ((i : Int) + (n : Int)) = (j : Int) := by rw [IntKind.wrap_i64]; omega
      have kj : j ≤ s.size := by omega
      rw [hj2] at hdgo
      have HDG := Lib.hid hdgo
      have HC3 := Lib.hid (hC3.below (below_drew (Below.refl _ _)))
      have HI3 := Lib.hid hit2
      have HHJ := Lib.hid hj2
      have hNN := HN.out
      have HNK := Lib.hid (And.intro hK1 (And.intro hK2 hgo))
      have hGv := Glob.step HH.out.1 HC3.out.b
      have HGv := Lib.hid hGv
      have c0 := hC3.c0
      have c1 := hC3.c1
      have hLTh := Lib.hid hLT
      clear hwv hdgo hC3 hj2 hLT hGv hdec hdg hgo hRR hK hit2 hbi hK1 hK2 hNN hit HX
      go_upto_region 5 with (fail)
      go_wp2
      go_region_held2 (fun w' => w'.cell? ⟨g, 0, none⟩ = some (.string s) ∧ w'.cell? ⟨g, 1, none⟩ = some (.int .i64 (i : Int))) (first | exact ⟨c0, c1⟩ | exact ⟨HC5.out.c0, HC5.out.c1⟩ | go_keep) (first
        | (go_at_call 42; refine (HDG.out _ HGv.out).mono ?_; rintro E w5 ⟨rfl, hb5⟩; have HC5 := Lib.hid (HC3.out.below hb5); have HI5 := Lib.hid (blk_below (show wv.drew.heap[ib]? = some (.stringIter t (n + K)) from HI3.out) hb5); clear hb5))
      have HGB := Lib.hid (Glob.step HH.out.1 HC5.out.b)
      clear c0 c1 wj kj
      cases hlt : isLetterU (RR : Int) with
      | true =>
        have h65 : RR ≠ 65533 := fun e => by rw [e, isL_65533] at hlt; cases hlt
        have HLT : Hid (∀ W', Glob W' → Calls Tryz.prog 43 #[.int .i32 (RR : Int)] W' fun e w' => e = .returned (.bool true) ∧ Below W'.heap.size W' w') := Lib.hid (fun W' hg => hlt ▸ hLTh.out W' hg)
        clear hLTh
        have a65 : ((RR : Int) == 65533) = false := by rw [beq_eq_false_iff_ne]; omega
        have hbool : (!(decide (RR = 65533) && decide (K = 1)) && okR (decide (n = 0)) RR) = true := by unfold okR; rw [hlt]; simp; omega
        clear h65 hlt
        rw [hbool] at hN
        rw [if_pos rfl] at hN
        have HN2 := Lib.hid hN
        have e1 : IntKind.i64.wrap ((n : Int) + (K : Int)) = ((n + K : Nat) : Int) := by rw [IntKind.wrap_i64]; have := HNK.out.2.1; omega
        have e2 : IntKind.i64.wrap ((r : Int) + 1) = ((r + 1 : Nat) : Int) := by rw [IntKind.wrap_i64]; omega
        clear hN hbool
        go_wp2_with (first
          | (go_at_call 43; refine (HLT.out _ HGB.out).mono ?_; rintro E w7 ⟨rfl, hb7⟩; have HE := Lib.hid (HC5.out.below hb7); have H7 := Lib.hid (blk_below HI5.out hb7); clear hb7))
        go_roundg gm
        case measure => omega
        case rel => exact ⟨n + K, r + 1, rfl, rfl, by have := HNK.out.2.1; omega, by have := HNK.out.1; omega, Lib.hid (by have := HI.out; have := HNK.out.1; omega), HE, H7.out, Lib.hid (by rw [← HN2.out, Nat.add_assoc])⟩
      | false =>
        have HLT : Hid (∀ W', Glob W' → Calls Tryz.prog 43 #[.int .i32 (RR : Int)] W' fun e w' => e = .returned (.bool false) ∧ Below W'.heap.size W' w') := Lib.hid (fun W' hg => hlt ▸ hLTh.out W' hg)
        clear hLTh
        have hcs : (RR = 95 ∨ RR = 46 ∨ (0 < n ∧ RR = 36) ∨ (0 < n ∧ 48 ≤ RR ∧ RR ≤ 57)) ∨ (RR = 65533 ∧ K = 1) ∨ (RR ≠ 95 ∧ RR ≠ 46 ∧ ((n = 0 ∧ RR ≠ 65533) ∨ (n = 0 ∧ RR = 65533 ∧ K ≠ 1) ∨ (0 < n ∧ RR ≠ 36 ∧ RR < 48) ∨ (0 < n ∧ 57 < RR ∧ RR ≠ 65533) ∨ (0 < n ∧ RR = 65533 ∧ K ≠ 1))) := by omega
        rcases hcs with (h | h | ⟨h0, h⟩ | ⟨h0, h, h1⟩) | ⟨h, h1⟩ | ⟨h95, h46, (⟨h0, h65⟩ | ⟨h0, h65, hk⟩ | ⟨h0, h36, h48⟩ | ⟨h0, h57, h65⟩ | ⟨h0, h65, hk⟩)⟩
        · have a65 : ((RR : Int) == 65533) = false := by rw [beq_eq_false_iff_ne]; omega
          have a95 : ((RR : Int) == 95) = true := by rw [beq_iff_eq]; omega
          have hbool : (!(decide (RR = 65533) && decide (K = 1)) && okR (decide (n = 0)) RR) = true := by unfold okR; rw [hlt]; simp; omega
          clear h hlt
          rw [hbool] at hN
          rw [if_pos rfl] at hN
          have HN2 := Lib.hid hN
          have e1 : IntKind.i64.wrap ((n : Int) + (K : Int)) = ((n + K : Nat) : Int) := by rw [IntKind.wrap_i64]; have := HNK.out.2.1; omega
          have e2 : IntKind.i64.wrap ((r : Int) + 1) = ((r + 1 : Nat) : Int) := by rw [IntKind.wrap_i64]; omega
          clear hN hbool
          go_wp2_with (first
            | (go_at_call 43; refine (HLT.out _ HGB.out).mono ?_; rintro E w7 ⟨rfl, hb7⟩; have HE := Lib.hid (HC5.out.below hb7); have H7 := Lib.hid (blk_below HI5.out hb7); clear hb7))
          go_roundg gm
          case measure => omega
          case rel => exact ⟨n + K, r + 1, rfl, rfl, by have := HNK.out.2.1; omega, by have := HNK.out.1; omega, Lib.hid (by have := HI.out; have := HNK.out.1; omega), HE, H7.out, Lib.hid (by rw [← HN2.out, Nat.add_assoc])⟩
        · have a65 : ((RR : Int) == 65533) = false := by rw [beq_eq_false_iff_ne]; omega
          have a95 : ((RR : Int) == 95) = false := by rw [beq_eq_false_iff_ne]; omega
          have a46 : ((RR : Int) == 46) = true := by rw [beq_iff_eq]; omega
          have hbool : (!(decide (RR = 65533) && decide (K = 1)) && okR (decide (n = 0)) RR) = true := by unfold okR; rw [hlt]; simp; omega
          clear h hlt
          rw [hbool] at hN
          rw [if_pos rfl] at hN
          have HN2 := Lib.hid hN
          have e1 : IntKind.i64.wrap ((n : Int) + (K : Int)) = ((n + K : Nat) : Int) := by rw [IntKind.wrap_i64]; have := HNK.out.2.1; omega
          have e2 : IntKind.i64.wrap ((r : Int) + 1) = ((r + 1 : Nat) : Int) := by rw [IntKind.wrap_i64]; omega
          clear hN hbool
          go_wp2_with (first
            | (go_at_call 43; refine (HLT.out _ HGB.out).mono ?_; rintro E w7 ⟨rfl, hb7⟩; have HE := Lib.hid (HC5.out.below hb7); have H7 := Lib.hid (blk_below HI5.out hb7); clear hb7))
          go_roundg gm
          case measure => omega
          case rel => exact ⟨n + K, r + 1, rfl, rfl, by have := HNK.out.2.1; omega, by have := HNK.out.1; omega, Lib.hid (by have := HI.out; have := HNK.out.1; omega), HE, H7.out, Lib.hid (by rw [← HN2.out, Nat.add_assoc])⟩
        · have a65 : ((RR : Int) == 65533) = false := by rw [beq_eq_false_iff_ne]; omega
          have a95 : ((RR : Int) == 95) = false := by rw [beq_eq_false_iff_ne]; omega
          have a46 : ((RR : Int) == 46) = false := by rw [beq_eq_false_iff_ne]; omega
          have a36 : ((RR : Int) == 36) = true := by rw [beq_iff_eq]; omega
          have n0 : ((n : Int) == 0) = false := by rw [beq_eq_false_iff_ne]; omega
          have k48 : (RR : Int) < 48 := by omega
          have hbool : (!(decide (RR = 65533) && decide (K = 1)) && okR (decide (n = 0)) RR) = true := by unfold okR; rw [hlt]; simp; omega
          clear h h0 hlt
          rw [hbool] at hN
          rw [if_pos rfl] at hN
          have HN2 := Lib.hid hN
          have e1 : IntKind.i64.wrap ((n : Int) + (K : Int)) = ((n + K : Nat) : Int) := by rw [IntKind.wrap_i64]; have := HNK.out.2.1; omega
          have e2 : IntKind.i64.wrap ((r : Int) + 1) = ((r + 1 : Nat) : Int) := by rw [IntKind.wrap_i64]; omega
          clear hN hbool
          go_wp2_with (first
            | (go_at_call 43; refine (HLT.out _ HGB.out).mono ?_; rintro E w7 ⟨rfl, hb7⟩; have HE := Lib.hid (HC5.out.below hb7); have H7 := Lib.hid (blk_below HI5.out hb7); clear hb7))
          go_roundg gm
          case measure => omega
          case rel => exact ⟨n + K, r + 1, rfl, rfl, by have := HNK.out.2.1; omega, by have := HNK.out.1; omega, Lib.hid (by have := HI.out; have := HNK.out.1; omega), HE, H7.out, Lib.hid (by rw [← HN2.out, Nat.add_assoc])⟩
        · have a65 : ((RR : Int) == 65533) = false := by rw [beq_eq_false_iff_ne]; omega
          have a95 : ((RR : Int) == 95) = false := by rw [beq_eq_false_iff_ne]; omega
          have a46 : ((RR : Int) == 46) = false := by rw [beq_eq_false_iff_ne]; omega
          have a36 : ((RR : Int) == 36) = false := by rw [beq_eq_false_iff_ne]; omega
          have n0 : ((n : Int) == 0) = false := by rw [beq_eq_false_iff_ne]; omega
          have k48 : (48 : Int) ≤ (RR : Int) := by omega
          have k57 : (RR : Int) ≤ 57 := by omega
          have hbool : (!(decide (RR = 65533) && decide (K = 1)) && okR (decide (n = 0)) RR) = true := by unfold okR; rw [hlt]; simp; omega
          clear h h1 h0 hlt
          rw [hbool] at hN
          rw [if_pos rfl] at hN
          have HN2 := Lib.hid hN
          have e1 : IntKind.i64.wrap ((n : Int) + (K : Int)) = ((n + K : Nat) : Int) := by rw [IntKind.wrap_i64]; have := HNK.out.2.1; omega
          have e2 : IntKind.i64.wrap ((r : Int) + 1) = ((r + 1 : Nat) : Int) := by rw [IntKind.wrap_i64]; omega
          clear hN hbool
          go_wp2_with (first
            | (go_at_call 43; refine (HLT.out _ HGB.out).mono ?_; rintro E w7 ⟨rfl, hb7⟩; have HE := Lib.hid (HC5.out.below hb7); have H7 := Lib.hid (blk_below HI5.out hb7); clear hb7))
          go_roundg gm
          case measure => omega
          case rel => exact ⟨n + K, r + 1, rfl, rfl, by have := HNK.out.2.1; omega, by have := HNK.out.1; omega, Lib.hid (by have := HI.out; have := HNK.out.1; omega), HE, H7.out, Lib.hid (by rw [← HN2.out, Nat.add_assoc])⟩
        · have a65 : ((RR : Int) == 65533) = true := by rw [beq_iff_eq]; omega
          have aK : ((K : Int) == 1) = true := by rw [beq_iff_eq]; omega
          have a95 : ((RR : Int) == 95) = false := by rw [beq_eq_false_iff_ne]; omega
          have a46 : ((RR : Int) == 46) = false := by rw [beq_eq_false_iff_ne]; omega
          have hbool : (!(decide (RR = 65533) && decide (K = 1)) && okR (decide (n = 0)) RR) = false := by unfold okR; rw [hlt]; simp; omega
          clear h h1 hlt
          rw [hbool] at hN
          rw [if_neg (by decide)] at hN
          have hE := hN.symm
          clear hN hbool
          go_upto_region 11 with (first
            | (go_at_call 43; refine (HLT.out _ HGB.out).mono ?_; rintro E w7 ⟨rfl, hb7⟩; have HE := Lib.hid (HC5.out.below hb7); have H7 := Lib.hid (blk_below HI5.out hb7); clear hb7))
          have hRR2 : R = if i + n = i then .error ((i : Int), 80) else if 40 < r then .error ((i : Int), 5) else .ok ⟨0, (i : Int), ((i + n : Nat) : Int), s.extract i (i + n), 0, false⟩ := by
            rw [← HR.out]
            unfold nameS
            rw [hE]
          clear hE
          have c1 := HE.out.c1
          have hgq := World.block_lt_of_cell? _ _ c1
          by_cases hn0 : n = 0
          · subst hn0
            rw [if_pos (by omega)] at hRR2
            have HRR := Lib.hid hRR2
            clear hRR2
            go_wp2_with (first
              | (go_at_call 8; refine (fault_c (i : Int) 80 g _ hgq).mono ?_; rintro E wf ⟨v, rfl, hf, hd⟩; have HF := Lib.hid (And.intro hf hd); clear hf hd))
            go_ret
            rw [HRR.out]
            exact ⟨_, rfl, HF.out.1, HE.out.b.trans (HF.out.2.mono HE.out.b.size)⟩
          · rw [if_neg (by omega)] at hRR2
            have n0' : ((n : Int) == 0) = false := by rw [beq_eq_false_iff_ne]; omega
            by_cases hr40 : 40 < r
            · rw [if_pos hr40] at hRR2
              have r40 : (40 : Int) < (r : Int) := by omega
              have HRR := Lib.hid hRR2
              clear hRR2 hn0
              go_wp2_with (first
                | (go_at_call 8; refine (fault_c (i : Int) 5 g _ hgq).mono ?_; rintro E wf ⟨v, rfl, hf, hd⟩; have HF := Lib.hid (And.intro hf hd); clear hf hd))
              go_ret
              rw [HRR.out]
              exact ⟨_, rfl, HF.out.1, HE.out.b.trans (HF.out.2.mono HE.out.b.size)⟩
            · rw [if_neg hr40] at hRR2
              have r40 : ((40 : Int) < (r : Int)) = False := eq_false (by omega)
              have r41 : (40 < r) = False := eq_false hr40
              have HRR := Lib.hid hRR2
              have hpu := push_c (k := 0) (n := n) HE.out hn hs (by have := HH.out.2.2.2; omega)
              have HPU := Lib.hid hpu
              clear hRR2 hn0 hr40 hpu hgq c1
              go_wp2_with (first
                | (go_at_call 21; refine HPU.out.mono ?_; rintro E wf ⟨rfl, hc⟩; have HF := Lib.hid hc; clear hc))
              go_ret
              rw [HRR.out]
              exact ⟨rfl, HF.out⟩
        · have a65 : ((RR : Int) == 65533) = false := by rw [beq_eq_false_iff_ne]; omega
          have a95 : ((RR : Int) == 95) = false := by rw [beq_eq_false_iff_ne]; omega
          have a46 : ((RR : Int) == 46) = false := by rw [beq_eq_false_iff_ne]; omega
          have n0 : ((n : Int) == 0) = true := by rw [beq_iff_eq]; omega
          have hbool : (!(decide (RR = 65533) && decide (K = 1)) && okR (decide (n = 0)) RR) = false := by unfold okR; rw [hlt]; simp; omega
          clear h95 h46 h65 hlt
          rw [hbool] at hN
          rw [if_neg (by decide)] at hN
          have hE := hN.symm
          clear hN hbool
          go_upto_region 11 with (first
            | (go_at_call 43; refine (HLT.out _ HGB.out).mono ?_; rintro E w7 ⟨rfl, hb7⟩; have HE := Lib.hid (HC5.out.below hb7); have H7 := Lib.hid (blk_below HI5.out hb7); clear hb7))
          have hRR2 : R = if i + n = i then .error ((i : Int), 80) else if 40 < r then .error ((i : Int), 5) else .ok ⟨0, (i : Int), ((i + n : Nat) : Int), s.extract i (i + n), 0, false⟩ := by
            rw [← HR.out]
            unfold nameS
            rw [hE]
          clear hE
          have c1 := HE.out.c1
          have hgq := World.block_lt_of_cell? _ _ c1
          have hn0 : n = 0 := by omega
          subst hn0
          rw [if_pos (by omega)] at hRR2
          have HRR := Lib.hid hRR2
          clear hRR2
          go_wp2_with (first
            | (go_at_call 8; refine (fault_c (i : Int) 80 g _ hgq).mono ?_; rintro E wf ⟨v, rfl, hf, hd⟩; have HF := Lib.hid (And.intro hf hd); clear hf hd))
          go_ret
          rw [HRR.out]
          exact ⟨_, rfl, HF.out.1, HE.out.b.trans (HF.out.2.mono HE.out.b.size)⟩
        · have a65 : ((RR : Int) == 65533) = true := by rw [beq_iff_eq]; omega
          have aK : ((K : Int) == 1) = false := by rw [beq_eq_false_iff_ne]; omega
          have a95 : ((RR : Int) == 95) = false := by rw [beq_eq_false_iff_ne]; omega
          have a46 : ((RR : Int) == 46) = false := by rw [beq_eq_false_iff_ne]; omega
          have n0 : ((n : Int) == 0) = true := by rw [beq_iff_eq]; omega
          have hbool : (!(decide (RR = 65533) && decide (K = 1)) && okR (decide (n = 0)) RR) = false := by unfold okR; rw [hlt]; simp; omega
          clear h95 h46 h65 hk hlt
          rw [hbool] at hN
          rw [if_neg (by decide)] at hN
          have hE := hN.symm
          clear hN hbool
          go_upto_region 11 with (first
            | (go_at_call 43; refine (HLT.out _ HGB.out).mono ?_; rintro E w7 ⟨rfl, hb7⟩; have HE := Lib.hid (HC5.out.below hb7); have H7 := Lib.hid (blk_below HI5.out hb7); clear hb7))
          have hRR2 : R = if i + n = i then .error ((i : Int), 80) else if 40 < r then .error ((i : Int), 5) else .ok ⟨0, (i : Int), ((i + n : Nat) : Int), s.extract i (i + n), 0, false⟩ := by
            rw [← HR.out]
            unfold nameS
            rw [hE]
          clear hE
          have c1 := HE.out.c1
          have hgq := World.block_lt_of_cell? _ _ c1
          have hn0 : n = 0 := by omega
          subst hn0
          rw [if_pos (by omega)] at hRR2
          have HRR := Lib.hid hRR2
          clear hRR2
          go_wp2_with (first
            | (go_at_call 8; refine (fault_c (i : Int) 80 g _ hgq).mono ?_; rintro E wf ⟨v, rfl, hf, hd⟩; have HF := Lib.hid (And.intro hf hd); clear hf hd))
          go_ret
          rw [HRR.out]
          exact ⟨_, rfl, HF.out.1, HE.out.b.trans (HF.out.2.mono HE.out.b.size)⟩
        · have a65 : ((RR : Int) == 65533) = false := by rw [beq_eq_false_iff_ne]; omega
          have a95 : ((RR : Int) == 95) = false := by rw [beq_eq_false_iff_ne]; omega
          have a46 : ((RR : Int) == 46) = false := by rw [beq_eq_false_iff_ne]; omega
          have n0 : ((n : Int) == 0) = false := by rw [beq_eq_false_iff_ne]; omega
          have a36 : ((RR : Int) == 36) = false := by rw [beq_eq_false_iff_ne]; omega
          have k48 : (RR : Int) < 48 := by omega
          have hbool : (!(decide (RR = 65533) && decide (K = 1)) && okR (decide (n = 0)) RR) = false := by unfold okR; rw [hlt]; simp; omega
          clear h95 h46 h36 h48 hlt
          rw [hbool] at hN
          rw [if_neg (by decide)] at hN
          have hE := hN.symm
          clear hN hbool
          go_upto_region 11 with (first
            | (go_at_call 43; refine (HLT.out _ HGB.out).mono ?_; rintro E w7 ⟨rfl, hb7⟩; have HE := Lib.hid (HC5.out.below hb7); have H7 := Lib.hid (blk_below HI5.out hb7); clear hb7))
          have hRR2 : R = if i + n = i then .error ((i : Int), 80) else if 40 < r then .error ((i : Int), 5) else .ok ⟨0, (i : Int), ((i + n : Nat) : Int), s.extract i (i + n), 0, false⟩ := by
            rw [← HR.out]
            unfold nameS
            rw [hE]
          clear hE
          have c1 := HE.out.c1
          have hgq := World.block_lt_of_cell? _ _ c1
          have hn0 : ¬ n = 0 := by omega
          rw [if_neg (by omega)] at hRR2
          have n0' : ((n : Int) == 0) = false := by rw [beq_eq_false_iff_ne]; omega
          by_cases hr40 : 40 < r
          · rw [if_pos hr40] at hRR2
            have r40 : (40 : Int) < (r : Int) := by omega
            have HRR := Lib.hid hRR2
            clear hRR2 hn0
            go_wp2_with (first
              | (go_at_call 8; refine (fault_c (i : Int) 5 g _ hgq).mono ?_; rintro E wf ⟨v, rfl, hf, hd⟩; have HF := Lib.hid (And.intro hf hd); clear hf hd))
            go_ret
            rw [HRR.out]
            exact ⟨_, rfl, HF.out.1, HE.out.b.trans (HF.out.2.mono HE.out.b.size)⟩
          · rw [if_neg hr40] at hRR2
            have r40 : ((40 : Int) < (r : Int)) = False := eq_false (by omega)
            have r41 : (40 < r) = False := eq_false hr40
            have HRR := Lib.hid hRR2
            have hpu := push_c (k := 0) (n := n) HE.out hn hs (by have := HH.out.2.2.2; omega)
            have HPU := Lib.hid hpu
            clear hRR2 hn0 hr40 hpu hgq c1
            go_wp2_with (first
              | (go_at_call 21; refine HPU.out.mono ?_; rintro E wf ⟨rfl, hc⟩; have HF := Lib.hid hc; clear hc))
            go_ret
            rw [HRR.out]
            exact ⟨rfl, HF.out⟩
        · have a65 : ((RR : Int) == 65533) = false := by rw [beq_eq_false_iff_ne]; omega
          have a95 : ((RR : Int) == 95) = false := by rw [beq_eq_false_iff_ne]; omega
          have a46 : ((RR : Int) == 46) = false := by rw [beq_eq_false_iff_ne]; omega
          have n0 : ((n : Int) == 0) = false := by rw [beq_eq_false_iff_ne]; omega
          have a36 : ((RR : Int) == 36) = false := by rw [beq_eq_false_iff_ne]; omega
          have k48 : (48 : Int) ≤ (RR : Int) := by omega
          have k57 : (57 : Int) < (RR : Int) := by omega
          have z57 : decide ((RR : Int) ≤ 57) = false := by (rw [decide_eq_false_iff_not]; omega)
          have hbool : (!(decide (RR = 65533) && decide (K = 1)) && okR (decide (n = 0)) RR) = false := by unfold okR; rw [hlt]; simp; omega
          clear h95 h46 h57 h65 hlt
          rw [hbool] at hN
          rw [if_neg (by decide)] at hN
          have hE := hN.symm
          clear hN hbool
          go_upto_region 11 with (first
            | (go_at_call 43; refine (HLT.out _ HGB.out).mono ?_; rintro E w7 ⟨rfl, hb7⟩; have HE := Lib.hid (HC5.out.below hb7); have H7 := Lib.hid (blk_below HI5.out hb7); clear hb7))
          have hRR2 : R = if i + n = i then .error ((i : Int), 80) else if 40 < r then .error ((i : Int), 5) else .ok ⟨0, (i : Int), ((i + n : Nat) : Int), s.extract i (i + n), 0, false⟩ := by
            rw [← HR.out]
            unfold nameS
            rw [hE]
          clear hE
          have c1 := HE.out.c1
          have hgq := World.block_lt_of_cell? _ _ c1
          have hn0 : ¬ n = 0 := by omega
          rw [if_neg (by omega)] at hRR2
          have n0' : ((n : Int) == 0) = false := by rw [beq_eq_false_iff_ne]; omega
          by_cases hr40 : 40 < r
          · rw [if_pos hr40] at hRR2
            have r40 : (40 : Int) < (r : Int) := by omega
            have HRR := Lib.hid hRR2
            clear hRR2 hn0
            go_wp2_with (first
              | (go_at_call 8; refine (fault_c (i : Int) 5 g _ hgq).mono ?_; rintro E wf ⟨v, rfl, hf, hd⟩; have HF := Lib.hid (And.intro hf hd); clear hf hd))
            go_ret
            rw [HRR.out]
            exact ⟨_, rfl, HF.out.1, HE.out.b.trans (HF.out.2.mono HE.out.b.size)⟩
          · rw [if_neg hr40] at hRR2
            have r40 : ((40 : Int) < (r : Int)) = False := eq_false (by omega)
            have r41 : (40 < r) = False := eq_false hr40
            have HRR := Lib.hid hRR2
            have hpu := push_c (k := 0) (n := n) HE.out hn hs (by have := HH.out.2.2.2; omega)
            have HPU := Lib.hid hpu
            clear hRR2 hn0 hr40 hpu hgq c1
            go_wp2_with (first
              | (go_at_call 21; refine HPU.out.mono ?_; rintro E wf ⟨rfl, hc⟩; have HF := Lib.hid hc; clear hc))
            go_ret
            rw [HRR.out]
            exact ⟨rfl, HF.out⟩
        · have a65 : ((RR : Int) == 65533) = true := by rw [beq_iff_eq]; omega
          have aK : ((K : Int) == 1) = false := by rw [beq_eq_false_iff_ne]; omega
          have a95 : ((RR : Int) == 95) = false := by rw [beq_eq_false_iff_ne]; omega
          have a46 : ((RR : Int) == 46) = false := by rw [beq_eq_false_iff_ne]; omega
          have n0 : ((n : Int) == 0) = false := by rw [beq_eq_false_iff_ne]; omega
          have a36 : ((RR : Int) == 36) = false := by rw [beq_eq_false_iff_ne]; omega
          have k48 : (48 : Int) ≤ (RR : Int) := by omega
          have k57 : (57 : Int) < (RR : Int) := by omega
          have z57 : decide ((RR : Int) ≤ 57) = false := by (rw [decide_eq_false_iff_not]; omega)
          have hbool : (!(decide (RR = 65533) && decide (K = 1)) && okR (decide (n = 0)) RR) = false := by unfold okR; rw [hlt]; simp; omega
          clear h95 h46 h65 hk hlt
          rw [hbool] at hN
          rw [if_neg (by decide)] at hN
          have hE := hN.symm
          clear hN hbool
          go_upto_region 11 with (first
            | (go_at_call 43; refine (HLT.out _ HGB.out).mono ?_; rintro E w7 ⟨rfl, hb7⟩; have HE := Lib.hid (HC5.out.below hb7); have H7 := Lib.hid (blk_below HI5.out hb7); clear hb7))
          have hRR2 : R = if i + n = i then .error ((i : Int), 80) else if 40 < r then .error ((i : Int), 5) else .ok ⟨0, (i : Int), ((i + n : Nat) : Int), s.extract i (i + n), 0, false⟩ := by
            rw [← HR.out]
            unfold nameS
            rw [hE]
          clear hE
          have c1 := HE.out.c1
          have hgq := World.block_lt_of_cell? _ _ c1
          have hn0 : ¬ n = 0 := by omega
          rw [if_neg (by omega)] at hRR2
          have n0' : ((n : Int) == 0) = false := by rw [beq_eq_false_iff_ne]; omega
          by_cases hr40 : 40 < r
          · rw [if_pos hr40] at hRR2
            have r40 : (40 : Int) < (r : Int) := by omega
            have HRR := Lib.hid hRR2
            clear hRR2 hn0
            go_wp2_with (first
              | (go_at_call 8; refine (fault_c (i : Int) 5 g _ hgq).mono ?_; rintro E wf ⟨v, rfl, hf, hd⟩; have HF := Lib.hid (And.intro hf hd); clear hf hd))
            go_ret
            rw [HRR.out]
            exact ⟨_, rfl, HF.out.1, HE.out.b.trans (HF.out.2.mono HE.out.b.size)⟩
          · rw [if_neg hr40] at hRR2
            have r40 : ((40 : Int) < (r : Int)) = False := eq_false (by omega)
            have r41 : (40 < r) = False := eq_false hr40
            have HRR := Lib.hid hRR2
            have hpu := push_c (k := 0) (n := n) HE.out hn hs (by have := HH.out.2.2.2; omega)
            have HPU := Lib.hid hpu
            clear hRR2 hn0 hr40 hpu hgq c1
            go_wp2_with (first
              | (go_at_call 21; refine HPU.out.mono ?_; rintro E wf ⟨rfl, hc⟩; have HF := Lib.hid hc; clear hc))
            go_ret
            rw [HRR.out]
            exact ⟨rfl, HF.out⟩

    · have hnx : ∀ ty, (Instr.next (.pointer (some ⟨ib, 0, none⟩)) true ty).run Tryz.prog wr = _ := fun ty => Lib.run_next_end_at wr ib t n ty hit hps
      have hj : ¬ i + n < s.size := by have := HT.out.2; omega
      rw [if_neg hj] at hN
      have hE := hN.symm
      have HE := HX
      clear hN hj
      go_upto_region 11 with (fail)
      have hRR2 : R = if i + n = i then .error ((i : Int), 80) else if 40 < r then .error ((i : Int), 5) else .ok ⟨0, (i : Int), ((i + n : Nat) : Int), s.extract i (i + n), 0, false⟩ := by
        rw [← HR.out]
        unfold nameS
        rw [hE]
      clear hE
      have c1 := HE.out.c1
      have hgq := World.block_lt_of_cell? _ _ c1
      by_cases hn0 : n = 0
      · subst hn0
        rw [if_pos (by omega)] at hRR2
        have HRR := Lib.hid hRR2
        clear hRR2
        go_wp2_with (first
          | (go_at_call 8; refine (fault_c (i : Int) 80 g _ hgq).mono ?_; rintro E wf ⟨v, rfl, hf, hd⟩; have HF := Lib.hid (And.intro hf hd); clear hf hd))
        go_ret
        rw [HRR.out]
        exact ⟨_, rfl, HF.out.1, HE.out.b.trans (HF.out.2.mono HE.out.b.size)⟩
      · rw [if_neg (by omega)] at hRR2
        have n0' : ((n : Int) == 0) = false := by rw [beq_eq_false_iff_ne]; omega
        by_cases hr40 : 40 < r
        · rw [if_pos hr40] at hRR2
          have r40 : (40 : Int) < (r : Int) := by omega
          have HRR := Lib.hid hRR2
          clear hRR2 hn0
          go_wp2_with (first
            | (go_at_call 8; refine (fault_c (i : Int) 5 g _ hgq).mono ?_; rintro E wf ⟨v, rfl, hf, hd⟩; have HF := Lib.hid (And.intro hf hd); clear hf hd))
          go_ret
          rw [HRR.out]
          exact ⟨_, rfl, HF.out.1, HE.out.b.trans (HF.out.2.mono HE.out.b.size)⟩
        · rw [if_neg hr40] at hRR2
          have r40 : ((40 : Int) < (r : Int)) = False := eq_false (by omega)
          have r41 : (40 < r) = False := eq_false hr40
          have HRR := Lib.hid hRR2
          have hpu := push_c (k := 0) (n := n) HE.out hn hs (by have := HH.out.2.2.2; omega)
          have HPU := Lib.hid hpu
          clear hRR2 hn0 hr40 hpu hgq c1
          go_wp2_with (first
            | (go_at_call 21; refine HPU.out.mono ?_; rintro E wf ⟨rfl, hc⟩; have HF := Lib.hid hc; clear hc))
          go_ret
          rw [HRR.out]
          exact ⟨rfl, HF.out⟩
end Go.Proofs.YtbmnifnahbehbaaGreatDoor

/- The document's item: as asm's. -/
set_option linter.unusedVariables false
set_option linter.unusedSimpArgs false
namespace Go.Proofs.YtbmnifnahbehbaaGreatDoor
open Go.RowKit Go.Lib Go.Proofs.YtbmnifnahbehbaaGreatDoorW.PrintWords Go.Proofs.YtbmnifnahbehbaaGreatDoorW.PrintMore Go.Proofs.YtbmnifnahbehbaaGreatDoorW.PrintLast
open AvP
/-- The item at i; none behind the end. -/
def itemD (s : ByteArray) (i q : Nat) : Option (ByteArray × Int × Nat) := if i < s.size then itemS s i (q : Int) else none
set_option maxHeartbeats 8000000 in
set_option maxRecDepth 100000 in
theorem item0_c {w : World} {i q : Nat} {s : ByteArray} (h : s.size ≤ i) : Calls Tryz.prog 67 #[.string s, .int .i64 (i : Int), .int .u8 (q : Int)] w (EscD w none) := by
  have hle : (s.size : Int) ≤ (i : Int) := by omega
  have hd : decide ((s.size : Int) ≤ (i : Int)) = true := decide_eq_true hle
  clear h
  go_enter Tryz.func67, Tryz.ntmps67
  go_wp2
  refine bodyPost_ret (results_ct rfl _ _ w.heap.size 160 #[.int .u64 0, .string ⟨#[]⟩, .int .i64 0] (0, 0) _ rfl (blk_new w _) Tryz.underlying160 rfl (by kernel_rfl)) rfl ?_
  exact ⟨⟨_, _, _, rfl⟩, (Below.refl _ w).alloc (Nat.le_refl _) _⟩
theorem itemS_asc {s : ByteArray} {i c : Nat} {q : Int} (hi : i < s.size) (hc : by_ s i = c) (h : c < 128) : Lib.decodeGo (s.extract i s.size) = (c, 1) := by
  have hb := by_at s i hi
  rw [dec_go s i hi, decode_ascii s i hi (by omega), hb, hc]
theorem itemS_hi {s : ByteArray} {i c : Nat} (hi : i < s.size) (hc : by_ s i = c) (h : 128 ≤ c) : 128 ≤ (Lib.decodeGo (s.extract i s.size)).1 := by
  have hb := by_at s i hi
  rw [dec_go s i hi]
  exact (decode_high s i hi (by omega)).1
theorem item67_c {w : World} {i q : Nat} {s : ByteArray} (hG : Glob w) (hs : s.size ≤ 100000) (hq : q = 39 ∨ q = 34) :
    Calls Tryz.prog 67 #[.string s, .int .i64 (i : Int), .int .u8 (q : Int)] w (EscD w (itemD s i q)) := by
  unfold itemD
  by_cases hi : i < s.size
  · rw [if_pos hi]
    have hb := by_at s i hi
    obtain ⟨c, hc⟩ : ∃ c, by_ s i = c := ⟨_, rfl⟩
    rw [hc] at hb
    by_cases h1 : c = q ∨ c = 10
    · have hd := itemS_asc (q := (q : Int)) hi hc (by omega)
      have : itemS s i (q : Int) = none := by
        unfold itemS
        dsimp only
        rw [hd, if_pos]
        dsimp only
        omega
      rw [this]
      exact itemN_c hi hb (by omega)
    · by_cases h2 : c = 92
      · have hd := itemS_asc (q := (q : Int)) hi hc (by omega)
        have : itemS s i (q : Int) = escS s i := by
          unfold itemS escS
          dsimp only
          rw [hd, if_neg (by dsimp only; omega), if_neg (by dsimp only; omega)]
          rfl
        rw [this]
        exact itemE_c hs hi (hb.trans h2) hq
      · obtain ⟨R, hR⟩ : ∃ R, (Lib.decodeGo (s.extract i s.size)).1 = R := ⟨_, rfl⟩
        obtain ⟨K, hK⟩ : ∃ K, (Lib.decodeGo (s.extract i s.size)).2 = K := ⟨_, rfl⟩
        have hw := dec_w s i hi
        rw [← dec_go s i hi, hK] at hw
        have hRle : R ≤ 2147483647 := by rw [← hR, dec_go s i hi]; exact decode_le _ _
        have hRn : (R : Int) ≠ (q : Int) ∧ R ≠ 10 ∧ R ≠ 92 := by
          by_cases hl : c < 128
          · have hd := itemS_asc (q := (q : Int)) hi hc hl
            rw [hd] at hR
            dsimp only at hR
            omega
          · have := itemS_hi hi hc (by omega)
            rw [hR] at this
            omega
        have hI : itemS s i (q : Int) = if R = 65533 ∧ K = 1 then none else some (s.extract i (i + K), (R : Int), i + K) := by
          unfold itemS
          dsimp only
          rw [hR, hK]
          by_cases hA : R = 65533 ∧ K = 1
          · rw [if_pos (.inl hA), if_pos hA]
          · rw [if_neg (by omega), if_neg hA, if_pos hRn.2.2]
        have hD := dec_c (s.extract i s.size) (w.alloc zI) (Glob.step hG ((Below.refl _ w).alloc (Nat.le_refl _) zI))
        rw [hR, hK] at hD
        rw [hI]
        rcases hq with rfl | rfl
        · by_cases hA : R = 65533 ∧ K = 1
          · rw [if_pos hA]
            exact itemB39_c hi hb (by omega) (by omega) h2 hD hA.1 hA.2
          · rw [if_neg hA]
            exact itemG39_c hi hb (by omega) (by omega) h2 hD hs hw.1 hw.2 hRle hA
        · by_cases hA : R = 65533 ∧ K = 1
          · rw [if_pos hA]
            exact itemB34_c hi hb (by omega) (by omega) h2 hD hA.1 hA.2
          · rw [if_neg hA]
            exact itemG34_c hi hb (by omega) (by omega) h2 hD hs hw.1 hw.2 hRle hA
  · rw [if_neg hi]
    exact item0_c (by omega)
end Go.Proofs.YtbmnifnahbehbaaGreatDoor

/- asm.parser.sum, if operand and sum do with less fuel as pA says. -/
set_option linter.unusedVariables false
set_option linter.unusedSimpArgs false
namespace Go.Proofs.YtbmnifnahbehbaaGreatDoor
open Go.RowKit Go.Lib Go.Proofs.YtbmnifnahbehbaaGreatDoorW.PrintWords Go.Proofs.YtbmnifnahbehbaaGreatDoorW.PrintMore Go.Proofs.YtbmnifnahbehbaaGreatDoorW.PrintLast
open AvP
/-- What an answer means. -/
def Ans (w W : World) (g n cp d : Nat) (A : Option Addr) : Res → Ending → World → Prop
  | .ok (e, j), E, w' => ∃ p, E = .returned (.tuple #[.pointer p, .pointer none]) ∧ TreeIs w' g e (.pointer p) ∧ PSt w g A n cp j d w' ∧ KG g W w' ∧ j ≤ n
  | .error (a, y), E, w' => ∃ p v j d', E = .returned (.tuple #[.pointer p, v]) ∧ FaultIs w' g v a y ∧ PSt w g A n cp j d' w' ∧ KG g W w'
/-- operand and sum do as pA says with fuel f. -/
def Does (w : World) (g n cp : Nat) (A : Option Addr) (l : List Tok) (f : Nat) : Prop :=
  ∀ (i d : Nat) (W : World) (r : Res), PSt w g A n cp i d W → d ≤ 30 → i ≤ n →
    (pA l f (.op i d) = some r → Calls Tryz.prog 44 #[.pointer (some ⟨g, 0, none⟩)] W (Ans w W g n cp d A r)) ∧
    (∀ k, k ≤ 6 → pA l f (.lv k i d) = some r → Calls Tryz.prog 24 #[.pointer (some ⟨g, 0, none⟩), .int .i64 (((k + 1 : Nat) : Int))] W (Ans w W g n cp d A r))
/-- The loop's state. -/
def Loo (w W : World) (g n cp d : Nat) (A : Option Addr) (l : List Tok) (k : Nat) (r : Res) (f : Nat) (u v : Value) (wx : World) : Prop :=
  (v = .pointer none ∧ ∃ e i, TreeIs wx g e u ∧ PSt w g A n cp i d wx ∧ KG g W wx ∧ i ≤ n ∧ pA l f (.lp k e i d) = some r) ∨
  (∃ a y j d', r = .error (a, y) ∧ FaultIs wx g v a y ∧ PSt w g A n cp j d' wx ∧ KG g W wx)
set_option maxHeartbeats 4000000 in
set_option maxRecDepth 100000 in
theorem sum_c {w W : World} {g n cp i d k f : Nat} {A : Option Addr} {l : List Tok} {r : Res} (hl : Kd.C k49 w A n l) (hn : n ≤ 1000000000) (hD : ∀ m, m ≤ f → Does w g n cp A l m)
    (h : PSt w g A n cp i d W) (hd : d ≤ 30) (hi : i ≤ n) (hk : k ≤ 6) (hr : pA l (f + 1) (.lv k i d) = some r) :
    Calls Tryz.prog 24 #[.pointer (some ⟨g, 0, none⟩), .int .i64 (((k + 1 : Nat) : Int))] W (Ans w W g n cp d A r) := by
  obtain ⟨K, hK⟩ : ∃ K : Int, ((k + 1 : Nat) : Int) = K := ⟨_, rfl⟩
  rw [hK]
  have HK := Lib.hid hK
  have HH := Lib.hid (And.intro hl (And.intro hn (And.intro hD (And.intro hd (And.intro hi (And.intro hk hr))))))
  rw [pA] at hr
  cases ho : pA l f (.op i d) with
  | none => rw [ho] at hr; cases hr
  | some r1 =>
    rw [ho] at hr
    have hc := ((hD f (Nat.le_refl _)) i d W r1 h hd hi).1 ho
    have h0 : ∀ E w', Ans w W g n cp d A r1 E w' → ∃ p v, E = .returned (.tuple #[.pointer p, v]) ∧ Loo w W g n cp d A l k r f (.pointer p) v w' := by
      intro E w' hA
      match r1, hA, hr with
      | .ok (e, j), ⟨v, e1, t1, p1, k1, j1⟩, hr => exact ⟨v, _, e1, .inl ⟨rfl, e, j, t1, p1, k1, j1, hr⟩⟩
      | .error (a, y), ⟨u, v, j, d', e1, f1, p1, k1⟩, hr => exact ⟨u, v, e1, .inr ⟨a, y, j, d', (Option.some.inj hr).symm, f1, p1, k1⟩⟩
    have HC := Lib.hid hc
    have H0 := Lib.hid h0
    have HP := Lib.hid h
    clear hK hr ho hD hl hn hd hi hk hc h0 h
    go_enter Tryz.func24, Tryz.ntmps24
    go_wp2_with (first | (go_at_call 44; refine HC.out.mono ?_; rintro E w1 hA; obtain ⟨u1, v1, rfl, hL⟩ := H0.out _ _ hA; have HL := Lib.hid hL; clear hA hL))
    go_loopg [6, 7] f (fun gm v6 v7 wx => ∃ (p : Option Addr) (v : Value), .pointer p = v6 ∧ v = v7 ∧ gm ≤ f ∧ Hid (Loo w W g n cp d A l k r gm (.pointer p) v wx))
    case atStart => exact ⟨_, _, rfl, rfl, Nat.le_refl _, HL⟩
    case round =>
      obtain ⟨u, v, rfl, rfl, hgf, HL⟩ := hrel
      rcases HL.out with ⟨rfl, e, i', T, P, G, hi', hr⟩ | ⟨a, y, j, d', rfl, F, P, G⟩
      · match gk, hr with
        | gm + 1, hr =>
        by_cases h1 : i' < n
        · obtain ⟨hl, hn, hD, hd, hi, hk, hr0⟩ := HH.out
          obtain ⟨t, ht⟩ : ∃ t, l[i']? = some t := ⟨_, List.getElem?_eq_getElem (by rw [hl.1]; exact h1)⟩
          obtain ⟨ad, rfl, _⟩ := tok_at (Kd.C_below hl P.b) ht
          have hrd : ∀ W', Below wr.heap.size wr W' → Rd g n cp i' d ad t W' := fun W' hb => by obtain ⟨ad', e1, h1⟩ := rd_of P hl ht hb; cases e1; exact h1
          have HG := Lib.hid hrd
          rw [pA, ht] at hr
          dsimp only at hr
          have c0 := P.c0
          have c1 := P.c1
          have c2 := P.c2
          have q1 : decide ((i' : Int) < (n : Int)) = true := by simp [h1]
          have q2 : (0 : Int) ≤ (i' : Int) := by omega
          have q3 : (i' : Int) < (n : Int) := by omega
          have HR := Lib.hid hr
          have H1 := Lib.hid (And.intro T (And.intro P (And.intro G (And.intro hi' ht))))
          have n0 : wr.heap.size ≠ g := Nat.ne_of_gt (blk_lt P.x)
          clear hrd hr T P G hi' ht hl hn hD hd hi hk hr0 HL h1
          go_wp2
          go_quiet (fail)
          go_wp2
          have hB := pw_below_drewN (Below.refl wr.heap.size wr) nq
          obtain ⟨wq, hwq⟩ : ∃ x, wr.drewN nq = x := ⟨_, rfl⟩
          rw [hwq] at hB ⊢
          clear hwq
          clear c0 c1 c2
          have hO := blk_new wq (Obj.cells #[.int .i64 0, .int .i64 0, .int .i64 0, .string ⟨#[]⟩, .int .u64 0, .bool false] 49)
          have hB1 : Below wr.heap.size wr wq.drew := below_drew hB
          have hB2 := hB.alloc hB.size (Obj.cells #[.int .i64 0, .int .i64 0, .int .i64 0, .string ⟨#[]⟩, .int .u64 0, .bool false] 49)
          have hB3 : Below wr.heap.size wr (wq.alloc (Obj.cells #[.int .i64 0, .int .i64 0, .int .i64 0, .string ⟨#[]⟩, .int .u64 0, .bool false] 49)).drew := below_drew hB2
          obtain ⟨a0, a1, a2, a3, a4, a5, a6, a7⟩ := HG.out _ hB
          obtain ⟨b0, b1, b2, b3, b4, b5, b6, b7⟩ := HG.out _ hB1
          obtain ⟨d0, d1, d2, d3, d4, d5, d6, d7⟩ := HG.out _ hB2
          obtain ⟨e0, e1, e2, e3, e4, e5, e6, e7⟩ := HG.out _ hB3
          have z0 : (wq.alloc (Obj.cells #[.int .i64 0, .int .i64 0, .int .i64 0, .string ⟨#[]⟩, .int .u64 0, .bool false] 49)).cell? ⟨wq.heap.size, 0, none⟩ = some (.int .i64 0) := blk_cell hO 0
          have z1 : (wq.alloc (Obj.cells #[.int .i64 0, .int .i64 0, .int .i64 0, .string ⟨#[]⟩, .int .u64 0, .bool false] 49)).cell? ⟨wq.heap.size, 1, none⟩ = some (.int .i64 0) := blk_cell hO 1
          have z2 : (wq.alloc (Obj.cells #[.int .i64 0, .int .i64 0, .int .i64 0, .string ⟨#[]⟩, .int .u64 0, .bool false] 49)).cell? ⟨wq.heap.size, 2, none⟩ = some (.int .i64 0) := blk_cell hO 2
          have z3 : (wq.alloc (Obj.cells #[.int .i64 0, .int .i64 0, .int .i64 0, .string ⟨#[]⟩, .int .u64 0, .bool false] 49)).cell? ⟨wq.heap.size, 3, none⟩ = some (.string ⟨#[]⟩) := blk_cell hO 3
          have z4 : (wq.alloc (Obj.cells #[.int .i64 0, .int .i64 0, .int .i64 0, .string ⟨#[]⟩, .int .u64 0, .bool false] 49)).cell? ⟨wq.heap.size, 4, none⟩ = some (.int .u64 0) := blk_cell hO 4
          have z5 : (wq.alloc (Obj.cells #[.int .i64 0, .int .i64 0, .int .i64 0, .string ⟨#[]⟩, .int .u64 0, .bool false] 49)).cell? ⟨wq.heap.size, 5, none⟩ = some (.bool false) := blk_cell hO 5
          have fr : ∀ j, (wq.alloc (Obj.cells #[.int .i64 0, .int .i64 0, .int .i64 0, .string ⟨#[]⟩, .int .u64 0, .bool false] 49)).frozen? ⟨wq.heap.size, j, none⟩ = false := fun j => blk_frozen hO j
          go_region
          obtain ⟨w2, hw2⟩ : ∃ x, (wq.alloc (Obj.cells #[.int .i64 t.k, .int .i64 t.a, .int .i64 t.e, .string t.t, .int .u64 t.v, .bool t.d] 49)).drew = x := ⟨_, rfl⟩
          have hX : TBox w2 wq.heap.size t := by rw [← hw2]; exact blk_drew (blk_new wq _)
          have hB4 : Below wr.heap.size wr w2 := by rw [← hw2]; exact below_drew (hB.alloc hB.size _)
          have hge := hB.size
          rw [hw2]
          obtain ⟨gb, hgb⟩ : ∃ x, wq.heap.size = x := ⟨_, rfl⟩
          rw [hgb] at hX hge ⊢
          have y0 : w2.cell? ⟨gb, 0, none⟩ = some (.int .i64 t.k) := blk_cell hX 0
          have y3 : w2.cell? ⟨gb, 3, none⟩ = some (.string t.t) := blk_cell hX 3
          have HX := Lib.hid (And.intro hX (And.intro hB4 hge))
          clear hw2 hgb hX hB4 hge z0 z1 z2 z3 z4 z5 fr hO hB hB1 hB2 hB3 a0 a1 a2 a3 a4 a5 a6 a7 b0 b1 b2 b3 b4 b5 b6 b7 d0 d1 d2 d3 d4 d5 d6 d7 e0 e1 e2 e3 e4 e5 e6 e7
          clear q1 q2 q3 n0
          by_cases hk6 : t.k = 6
          · have x0 : (t.k == 6) = true := by simp [hk6]
            have hst : str t = strB t.t := by rw [str_eq, if_pos hk6]
            have HK6 := Lib.hid hst
            clear hk6 hst
            go_wp2
            go_region_held2 (fun w' => w'.cell? ⟨gb, 3, none⟩ = some (.string t.t)) (first | exact y3 | go_keep) (first
              | (go_at_call 45; refine (strength_c _).mono ?_; rintro E w5 ⟨rfl, hs, hd⟩; have lk : (Instr.lookup 124 (.map (some w2.heap.size)) (.string t.t) false).run Tryz.prog w5 = .ok (.int .i64 ((strB t.t : Nat) : Int)) w5 := str_look hs t.t; have y3 := (hd.cell (World.block_lt_of_cell? _ _ y3)).trans y3; have HD := Lib.hid ((below_drew (Below.refl w2.heap.size w2)).trans hd); clear hs hd))
            clear lk y0 y3 x0
            obtain ⟨T, P, G, hi', ht⟩ := H1.out
            obtain ⟨hX, hB4, hge⟩ := HX.out
            have hd5 : Below w2.heap.size w2 w5 := HD.out
            have hr := HR.out
            have hst := HK6.out
            have h6 := str_le t
            rw [hst] at hr h6
            obtain ⟨S, hS⟩ : ∃ S, strB t.t = S := ⟨_, rfl⟩
            rw [hS] at hr h6 hst ⊢
            have hB5 : Below wr.heap.size wr w5 := hB4.trans (hd5.mono hB4.size)
            have hX5 : TBox w5 gb t := blk_below hX hd5
            have P5 := P.below hB5
            have G5 := G.trans (KG.of_below hB5)
            have T5 := TreeIs.kg (KG.of_below hB5) T
            have hgg : gb ≠ g := by have := blk_lt P.x; omega
            clear hS HD HX H1 HL HR HK6 hX hB4 hd5 hB5 T P G hge
            by_cases hSk : S ≤ k
            · have q4 : decide ((S : Int) < K) = true := by have := HK.out; simp; omega
              rw [if_pos hSk] at hr
              have HZ := Lib.hid (And.intro hr (And.intro T5 (And.intro P5 (And.intro G5 hi'))))
              clear hr T5 P5 G5 hi' ht hX5 hSk hgg hst h6
              go_wp2
              go_ret2
              obtain ⟨hr, T5, P5, G5, hi'⟩ := HZ.out
              cases hr
              exact ⟨_, rfl, T5, P5, G5, hi'⟩
            · have q4 : decide ((S : Int) < K) = false := by have := HK.out; simp; omega
              rw [if_neg hSk] at hr
              obtain ⟨hl, hn, hD, hd, hi, hk, hr0⟩ := HH.out
              cases ho : pA l gm (.lv S (i' + 1) d) with
              | none => rw [ho] at hr; cases hr
              | some r2 =>
                rw [ho] at hr
                have hilt : i' < n := by rw [← hl.1]; exact (List.getElem?_eq_some_iff.1 ht).1
                have p1 := P5.c1
                have f1 : w5.frozen? ⟨g, 1, none⟩ = false := blk_frozen P5.x 1
                have P6 : PSt w g (some ad) n cp (i' + 1) d (w5.setCell ⟨g, 1, none⟩ (.int .i64 ((i' : Int) + 1))) := P5.set1 (i' + 1)
                have G6 := G5.set 1 (.int .i64 ((i' : Int) + 1))
                have K6 : KG g w5 (w5.setCell ⟨g, 1, none⟩ (.int .i64 ((i' : Int) + 1))) := (KG.refl g w5).set 1 _
                have T6 := TreeIs.kg K6 T5
                have X6 : TBox (w5.setCell ⟨g, 1, none⟩ (.int .i64 ((i' : Int) + 1))) gb t := (K6.k gb (blk_lt hX5) hgg).trans hX5
                have e1 : IntKind.i64.wrap ((i' : Int) + 1) = (i' : Int) + 1 := by rw [IntKind.wrap_i64]; omega
                have e2 : IntKind.i64.wrap ((S : Int) + 1) = (S : Int) + 1 := by rw [IntKind.wrap_i64]; omega
                have hc : Calls Tryz.prog 24 #[.pointer (some ⟨g, 0, none⟩), .int .i64 ((S : Int) + 1)] (w5.setCell ⟨g, 1, none⟩ (.int .i64 ((i' : Int) + 1))) (Ans w (w5.setCell ⟨g, 1, none⟩ (.int .i64 ((i' : Int) + 1))) g n cp d (some ad) r2) := ((hD gm (by omega)) (i' + 1) d _ r2 P6 hd (by omega)).2 S h6 ho
                have hz : ∀ E w7, Ans w (w5.setCell ⟨g, 1, none⟩ (.int .i64 ((i' : Int) + 1))) g n cp d (some ad) r2 E w7 → ∃ u2 v2, E = .returned (.tuple #[.pointer u2, v2]) ∧ TBox w7 gb t ∧ ∀ w8, w8.heap[w7.heap.size]? = some (.cells (nodeA t (.pointer u) (.pointer u2)) 87 (0, 0)) → Below w7.heap.size w7 w8 → Loo w W g n cp d (some ad) l k r gm (.pointer (some ⟨w7.heap.size, 0, none⟩)) v2 w8 := by
                  intro E w7 hA
                  match r2, hA, hr with
                  | .ok (er, j), ⟨v2, a1, a2, a3, a4, a5⟩, hr =>
                    refine ⟨v2, _, a1, (a4.k gb (blk_lt X6) hgg).trans X6, fun w8 h8 hb8 => .inl ⟨rfl, .bin t e er, j, ?_, a3.below hb8, (G6.trans a4).trans (KG.of_below hb8), a5, hr⟩⟩
                    exact ⟨_, _, _, rfl, by have := blk_lt a3.x; omega, h8, TreeIs.kg (a4.trans (KG.of_below hb8)) T6, TreeIs.kg (KG.of_below hb8) a2⟩
                  | .error (a, y), ⟨u2, v2, j, d', a1, a2, a3, a4⟩, hr =>
                    refine ⟨u2, v2, a1, (a4.k gb (blk_lt X6) hgg).trans X6, fun w8 h8 hb8 => .inr ⟨a, y, j, d', (Option.some.inj hr).symm, a2.kg (KG.of_below hb8), a3.below hb8, (G6.trans a4).trans (KG.of_below hb8)⟩⟩
                have HC := Lib.hid hc
                have HZ := Lib.hid hz
                clear hr T5 P5 G5 hi' ht hX5 hSk hgg hst h6 hl hn hD hd hi hk hr0 ho hilt P6 G6 K6 T6 X6 hc hz
                go_upto_region 11 with (first
                  | (go_at_call 24; refine HC.out.mono ?_; rintro E w7 hA; obtain ⟨u2, v2, rfl, hx7, hz7⟩ := HZ.out _ _ hA; have HX7 := Lib.hid hx7; have HZ7 := Lib.hid hz7; clear hA hx7 hz7))
                have y0 : w7.cell? ⟨gb, 0, none⟩ = some (.int .i64 t.k) := blk_cell HX7.out 0
                have y1 : w7.cell? ⟨gb, 1, none⟩ = some (.int .i64 t.a) := blk_cell HX7.out 1
                have y2 : w7.cell? ⟨gb, 2, none⟩ = some (.int .i64 t.e) := blk_cell HX7.out 2
                have y3 : w7.cell? ⟨gb, 3, none⟩ = some (.string t.t) := blk_cell HX7.out 3
                have y4 : w7.cell? ⟨gb, 4, none⟩ = some (.int .u64 t.v) := blk_cell HX7.out 4
                have y5 : w7.cell? ⟨gb, 5, none⟩ = some (.bool t.d) := blk_cell HX7.out 5
                clear p1 f1 e1 e2 q4
                go_wp2
                go_roundg gm
                case measure => omega
                case rel =>
                  exact ⟨_, _, rfl, rfl, by omega, Lib.hid (HZ7.out _ (blk_new w7 _) ((Below.refl _ w7).alloc (Nat.le_refl _) _))⟩
          · obtain ⟨T, P, G, hi', ht⟩ := H1.out
            obtain ⟨hX, hB4, hge⟩ := HX.out
            have x0 : (t.k == 6) = false := by simp [hk6]
            have q4 : decide ((0 : Int) < K) = true := by have := HK.out; simp; omega
            have hr := HR.out
            rw [str_eq, if_neg hk6, if_pos (Nat.zero_le _)] at hr
            have HZ := Lib.hid (And.intro hr (And.intro (TreeIs.kg (KG.of_below hB4) T) (And.intro (P.below hB4) (And.intro (G.trans (KG.of_below hB4)) hi'))))
            clear hk6 T P G hi' ht hX hB4 hge hr y3
            go_wp2
            go_ret2
            obtain ⟨hr, T5, P5, G5, hi'⟩ := HZ.out
            cases hr
            exact ⟨_, rfl, T5, P5, G5, hi'⟩
        · have c0 := P.c0
          have c1 := P.c1
          have c2 := P.c2
          have q1 : decide ((i' : Int) < (n : Int)) = false := by simp; omega
          have q2 : (i' < n) = False := eq_false h1
          have hln := HH.out.1.1
          have ht : l[i']? = none := List.getElem?_eq_none (by omega)
          rw [pA, ht] at hr
          have HZ := Lib.hid (And.intro hr (And.intro T (And.intro P (And.intro G hi'))))
          clear hr T P G hi' ht hln h1 HL
          go_wp2
          go_quiet (fail)
          have hB := pw_below_drewN (Below.refl wr.heap.size wr) nq
          have HB := Lib.hid hB
          clear hB c0 c1 c2
          go_wp2
          go_ret2
          obtain ⟨hr, T5, P5, G5, hi'⟩ := HZ.out
          cases hr
          exact ⟨_, rfl, TreeIs.kg (KG.of_below HB.out) T5, P5.below HB.out, G5.trans (KG.of_below HB.out), hi'⟩
      · obtain ⟨b, rfl, hb1, hb2⟩ := F
        have HZ := Lib.hid (And.intro hb1 (And.intro hb2 (And.intro P G)))
        clear hb1 hb2 P G HL
        go_wp2
        go_quiet (fail)
        have hB := pw_below_drewN (Below.refl wr.heap.size wr) nq
        have HB := Lib.hid hB
        clear hB
        go_wp2
        go_ret2
        obtain ⟨hb1, hb2, P, G⟩ := HZ.out
        exact ⟨_, _, j, d', rfl, ⟨b, rfl, hb1, blk_below hb2 HB.out⟩, P.below HB.out, G.trans (KG.of_below HB.out)⟩
end Go.Proofs.YtbmnifnahbehbaaGreatDoor

/- asm.parser.operand, if operand and sum do with less fuel as pA says. -/
set_option linter.unusedVariables false
set_option linter.unusedSimpArgs false
namespace Go.Proofs.YtbmnifnahbehbaaGreatDoor
open Go.RowKit Go.Lib Go.Proofs.YtbmnifnahbehbaaGreatDoorW.PrintWords Go.Proofs.YtbmnifnahbehbaaGreatDoorW.PrintMore Go.Proofs.YtbmnifnahbehbaaGreatDoorW.PrintLast
open AvP
theorem ans_shape {w W : World} {g n cp d : Nat} {A : Option Addr} {r : Res} {E : Ending} {w' : World} (h : Ans w W g n cp d A r E w') : ∃ p v, E = .returned (.tuple #[.pointer p, v]) ∧ Ans w W g n cp d A r (.returned (.tuple #[.pointer p, v])) w' := by
  match r, h with
  | .ok (e, j), ⟨p, e1, h1⟩ => exact ⟨p, _, e1, p, rfl, h1⟩
  | .error (a, y), ⟨p, v, j, d', e1, h1⟩ => exact ⟨p, v, e1, p, v, j, d', rfl, h1⟩
theorem tb_cells {w : World} {g : Nat} {t : Tok} (h : TBox w g t) : w.cell? ⟨g, 0, none⟩ = some (.int .i64 t.k) ∧ w.cell? ⟨g, 1, none⟩ = some (.int .i64 t.a) ∧ w.cell? ⟨g, 2, none⟩ = some (.int .i64 t.e) ∧ w.cell? ⟨g, 3, none⟩ = some (.string t.t) ∧ w.cell? ⟨g, 4, none⟩ = some (.int .u64 t.v) ∧ w.cell? ⟨g, 5, none⟩ = some (.bool t.d) :=
  ⟨blk_cell h 0, blk_cell h 1, blk_cell h 2, blk_cell h 3, blk_cell h 4, blk_cell h 5⟩
set_option maxHeartbeats 4000000 in
set_option maxRecDepth 100000 in
theorem op_c {w W : World} {g n cp i d f : Nat} {A : Option Addr} {l : List Tok} {r : Res} (hl : Kd.C k49 w A n l) (hn : n ≤ 1000000000) (hD : ∀ m, m ≤ f → Does w g n cp A l m)
    (h : PSt w g A n cp i d W) (hd : d ≤ 30) (hi : i ≤ n) (hr : pA l (f + 1) (.op i d) = some r) :
    Calls Tryz.prog 44 #[.pointer (some ⟨g, 0, none⟩)] W (Ans w W g n cp d A r) := by
  have c0 := h.c0
  have c1 := h.c1
  have c2 := h.c2
  have P := h
  have hln := hl.1
  have HH := Lib.hid (And.intro hl (And.intro hn (And.intro hD (And.intro hd hi))))
  by_cases h1 : i < n
  · obtain ⟨t, ht⟩ : ∃ t, l[i]? = some t := ⟨_, List.getElem?_eq_getElem (by rw [hln]; exact h1)⟩
    obtain ⟨ad, rfl, _⟩ := tok_at (Kd.C_below hl P.b) ht
    have hrd : ∀ W', Below W.heap.size W W' → Rd g n cp i d ad t W' := fun W' hb => by obtain ⟨ad', e1, h1⟩ := rd_of P hl ht hb; cases e1; exact h1
    have HG := Lib.hid hrd
    rw [pA, ht] at hr
    dsimp only at hr
    have q1 : decide ((i : Int) ≥ (n : Int)) = false := by simp; omega
    have q2 : (n ≤ i) = False := eq_false (by omega)
    have q3 : (0 : Int) ≤ (i : Int) := by omega
    have q4 : (i : Int) < (n : Int) := by omega
    have HR := Lib.hid hr
    have H1 := Lib.hid (And.intro P ht)
    clear hr hrd P h ht hl hn hD hd hi h1 hln
    go_enter Tryz.func44, Tryz.ntmps44
    go_wp2
    go_quiet (fail)
    go_wp2
    have hB := pw_below_drewN (Below.refl W.heap.size W) nq
    obtain ⟨wq, hwq⟩ : ∃ x, W.drewN nq = x := ⟨_, rfl⟩
    rw [hwq] at hB ⊢
    clear hwq
    clear c0 c1 c2 q1
    have hO := blk_new wq (Obj.cells #[.int .i64 0, .int .i64 0, .int .i64 0, .string ⟨#[]⟩, .int .u64 0, .bool false] 49)
    have hB1 : Below W.heap.size W wq.drew := below_drew hB
    have hB2 := hB.alloc hB.size (Obj.cells #[.int .i64 0, .int .i64 0, .int .i64 0, .string ⟨#[]⟩, .int .u64 0, .bool false] 49)
    have hB3 : Below W.heap.size W (wq.alloc (Obj.cells #[.int .i64 0, .int .i64 0, .int .i64 0, .string ⟨#[]⟩, .int .u64 0, .bool false] 49)).drew := below_drew hB2
    obtain ⟨a0, a1, a2, a3, a4, a5, a6, a7⟩ := HG.out _ hB
    obtain ⟨b0, b1, b2, b3, b4, b5, b6, b7⟩ := HG.out _ hB1
    obtain ⟨d0, d1, d2, d3, d4, d5, d6, d7⟩ := HG.out _ hB2
    obtain ⟨e0, e1, e2, e3, e4, e5, e6, e7⟩ := HG.out _ hB3
    have z0 : (wq.alloc (Obj.cells #[.int .i64 0, .int .i64 0, .int .i64 0, .string ⟨#[]⟩, .int .u64 0, .bool false] 49)).cell? ⟨wq.heap.size, 0, none⟩ = some (.int .i64 0) := blk_cell hO 0
    have z1 : (wq.alloc (Obj.cells #[.int .i64 0, .int .i64 0, .int .i64 0, .string ⟨#[]⟩, .int .u64 0, .bool false] 49)).cell? ⟨wq.heap.size, 1, none⟩ = some (.int .i64 0) := blk_cell hO 1
    have z2 : (wq.alloc (Obj.cells #[.int .i64 0, .int .i64 0, .int .i64 0, .string ⟨#[]⟩, .int .u64 0, .bool false] 49)).cell? ⟨wq.heap.size, 2, none⟩ = some (.int .i64 0) := blk_cell hO 2
    have z3 : (wq.alloc (Obj.cells #[.int .i64 0, .int .i64 0, .int .i64 0, .string ⟨#[]⟩, .int .u64 0, .bool false] 49)).cell? ⟨wq.heap.size, 3, none⟩ = some (.string ⟨#[]⟩) := blk_cell hO 3
    have z4 : (wq.alloc (Obj.cells #[.int .i64 0, .int .i64 0, .int .i64 0, .string ⟨#[]⟩, .int .u64 0, .bool false] 49)).cell? ⟨wq.heap.size, 4, none⟩ = some (.int .u64 0) := blk_cell hO 4
    have z5 : (wq.alloc (Obj.cells #[.int .i64 0, .int .i64 0, .int .i64 0, .string ⟨#[]⟩, .int .u64 0, .bool false] 49)).cell? ⟨wq.heap.size, 5, none⟩ = some (.bool false) := blk_cell hO 5
    have fr : ∀ j, (wq.alloc (Obj.cells #[.int .i64 0, .int .i64 0, .int .i64 0, .string ⟨#[]⟩, .int .u64 0, .bool false] 49)).frozen? ⟨wq.heap.size, j, none⟩ = false := fun j => blk_frozen hO j
    go_region
    obtain ⟨w2, hw2⟩ : ∃ x, (wq.alloc (Obj.cells #[.int .i64 t.k, .int .i64 t.a, .int .i64 t.e, .string t.t, .int .u64 t.v, .bool t.d] 49)).drew = x := ⟨_, rfl⟩
    have hX : TBox w2 wq.heap.size t := by rw [← hw2]; exact blk_drew (blk_new wq _)
    have hB4 : Below W.heap.size W w2 := by rw [← hw2]; exact below_drew (hB.alloc hB.size _)
    have hge := hB.size
    rw [hw2]
    obtain ⟨gb, hgb⟩ : ∃ x, wq.heap.size = x := ⟨_, rfl⟩
    rw [hgb] at hX hge ⊢
    have y0 : w2.cell? ⟨gb, 0, none⟩ = some (.int .i64 t.k) := blk_cell hX 0
    have y3 : w2.cell? ⟨gb, 3, none⟩ = some (.string t.t) := blk_cell hX 3
    have HX := Lib.hid (And.intro hX (And.intro hB4 hge))
    clear hw2 hgb hX hB4 hge z0 z1 z2 z3 z4 z5 fr hO hB hB1 hB2 hB3 a0 a1 a2 a3 a4 a5 a6 a7 b0 b1 b2 b3 b4 b5 b6 b7 d0 d1 d2 d3 d4 d5 d6 d7 e0 e1 e2 e3 e4 e5 e6 e7
    have HT := Lib.hid HX.out.1
    have HB := Lib.hid HX.out.2.1
    have hgg : gb ≠ g := by have := blk_lt H1.out.1.x; have := HX.out.2.2; omega
    have HGG := Lib.hid hgg
    clear hgg HX y0 y3
    obtain ⟨y0, y1, y2, y3, y4, y5⟩ := tb_cells HT.out
    by_cases hs : sign t = true
    · have hsg : isM t ⟨#[45]⟩ = true ∨ isM t ⟨#[45]⟩ = false ∧ isM t ⟨#[43]⟩ = true ∨ isM t ⟨#[45]⟩ = false ∧ isM t ⟨#[43]⟩ = false ∧ isM t ⟨#[126]⟩ = true := by
        unfold sign at hs
        cases hh : isM t ⟨#[45]⟩ <;> cases hh2 : isM t ⟨#[43]⟩ <;> cases hh3 : isM t ⟨#[126]⟩ <;> simp_all
      have hr := HR.out
      rw [if_pos hs] at hr
      clear HR hs
      obtain ⟨hl, hn, hD, hd, hi⟩ := HH.out
      obtain ⟨P, ht⟩ := H1.out
      have hi1 : i + 1 ≤ n := by rw [← hl.1]; exact (List.getElem?_eq_some_iff.1 ht).1
      cases hq : pA l f (.op (i + 1) d) with
      | none => rw [hq] at hr; cases hr
      | some r2 =>
        rw [hq] at hr
        have hc := fun (W6 : World) (P6 : PSt w g (some ad) n cp (i + 1) d W6) => ((hD f (Nat.le_refl _)) (i + 1) d W6 r2 P6 hd hi1).1 hq
        have hz : ∀ W6 E w7, KG g W W6 → TBox W6 gb t → Ans w W6 g n cp d (some ad) r2 E w7 → ∃ p2 v2, E = .returned (.tuple #[.pointer p2, v2]) ∧ TBox w7 gb t ∧ ∀ w8, w8.heap[w7.heap.size]? = some (.cells (nodeA t (.pointer p2) (.pointer none)) 87 (0, 0)) → Below w7.heap.size w7 w8 → Ans w W g n cp d (some ad) r (.returned (.tuple #[.pointer (some ⟨w7.heap.size, 0, none⟩), v2])) w8 := by
          intro W6 E w7 G6 X6 hA
          match r2, hA, hr with
          | .ok (er, j), ⟨v2, a1, a2, a3, a4, a5⟩, hr =>
            obtain rfl := (Option.some.inj hr).symm
            refine ⟨v2, _, a1, (a4.k gb (blk_lt X6) HGG.out).trans X6, fun w8 h8 hb8 => ⟨_, rfl, ⟨_, _, rfl, ?_, h8, TreeIs.kg (KG.of_below hb8) a2⟩, a3.below hb8, (G6.trans a4).trans (KG.of_below hb8), a5⟩⟩
            have := blk_lt a3.x
            omega
          | .error (a, y), ⟨u2, v2, j, d', a1, a2, a3, a4⟩, hr =>
            obtain rfl := (Option.some.inj hr).symm
            exact ⟨u2, v2, a1, (a4.k gb (blk_lt X6) HGG.out).trans X6, fun w8 h8 hb8 => ⟨_, _, j, d', rfl, a2.kg (KG.of_below hb8), a3.below hb8, (G6.trans a4).trans (KG.of_below hb8)⟩⟩
        have HC := Lib.hid hc
        have HZ := Lib.hid hz
        have HP := Lib.hid P
        have e1 : IntKind.i64.wrap ((i : Int) + 1) = (i : Int) + 1 := by rw [IntKind.wrap_i64]; omega
        clear hr hl hn hD hd hi P ht hi1 hq hc hz
        rcases hsg with hs1 | ⟨hs1, hs2⟩ | ⟨hs1, hs2, hs3⟩
        all_goals
          go_upto_region 5 with (first
            | (go_at_call 64; refine (is_c t _ _).mono ?_; rintro E wi ⟨rfl, hd⟩; have hb := HB.out.trans (hd.mono HB.out.size); have hx : TBox wi gb t := blk_below HT.out hd; clear hd HB HT y0 y1 y2 y3 y4 y5; have HB := Lib.hid hb; have HT := Lib.hid hx; obtain ⟨y0, y1, y2, y3, y4, y5⟩ := tb_cells hx; clear hb hx))
          have P5 := HP.out.below HB.out
          have p1 := P5.c1
          have f1 : wi.frozen? ⟨g, 1, none⟩ = false := blk_frozen P5.x 1
          have P6 : PSt w g (some ad) n cp (i + 1) d (wi.setCell ⟨g, 1, none⟩ (.int .i64 ((i : Int) + 1))) := P5.set1 (i + 1)
          have G6 := (KG.of_below (g := g) HB.out).set 1 (.int .i64 ((i : Int) + 1))
          have K6 : KG g wi (wi.setCell ⟨g, 1, none⟩ (.int .i64 ((i : Int) + 1))) := (KG.refl g wi).set 1 _
          have X6 : TBox (wi.setCell ⟨g, 1, none⟩ (.int .i64 ((i : Int) + 1))) gb t := (K6.k gb (blk_lt HT.out) HGG.out).trans HT.out
          have HQ := Lib.hid (And.intro P6 (And.intro G6 X6))
          clear P5 P6 G6 K6 X6 HT
          go_upto_region 7 with (first
            | (go_at_call 44; refine (HC.out _ HQ.out.1).mono ?_; rintro E w7 hA; obtain ⟨p2, v2, rfl, hx7, hz7⟩ := HZ.out _ _ _ HQ.out.2.1 HQ.out.2.2 hA; have HX7 := Lib.hid hx7; have HZ7 := Lib.hid hz7; clear hA hx7 hz7))
          clear y0 y1 y2 y3 y4 y5 p1 f1
          obtain ⟨y0, y1, y2, y3, y4, y5⟩ := tb_cells HX7.out
          go_wp2
          go_ret2
          exact HZ7.out _ (blk_new w7 _) ((Below.refl _ w7).alloc (Nat.le_refl _) _)
    · have hs1 : isM t ⟨#[45]⟩ = false := by unfold sign at hs; cases hh : isM t ⟨#[45]⟩ <;> simp_all
      have hs2 : isM t ⟨#[43]⟩ = false := by unfold sign at hs; cases hh : isM t ⟨#[43]⟩ <;> simp_all
      have hs3 : isM t ⟨#[126]⟩ = false := by unfold sign at hs; cases hh : isM t ⟨#[126]⟩ <;> simp_all
      have hr := HR.out
      rw [if_neg hs] at hr
      clear HR hs
      by_cases ho : isM t ⟨#[40]⟩ = true
      · rw [if_pos ho] at hr
        obtain ⟨hl, hn, hD, hd, hi⟩ := HH.out
        obtain ⟨P, ht⟩ := H1.out
        have hi1 : i + 1 ≤ n := by rw [← hl.1]; exact (List.getElem?_eq_some_iff.1 ht).1
        have HR := Lib.hid hr
        have HP := Lib.hid (And.intro P (And.intro ht hi1))
        have HQ := Lib.hid (And.intro hl (And.intro hn (And.intro hD (And.intro hd hi))))
        have e0 : IntKind.i64.wrap ((d : Int) + 1) = (d : Int) + 1 := by rw [IntKind.wrap_i64]; omega
        have e1 : IntKind.i64.wrap ((i : Int) + 1) = (i : Int) + 1 := by rw [IntKind.wrap_i64]; omega
        clear hr hl hn hD hd hi P ht hi1
        go_upto_region 9 with (first
          | (go_at_call 64; refine (is_c t _ _).mono ?_; rintro E wi ⟨rfl, hd⟩; have hb := HB.out.trans (hd.mono HB.out.size); have hx : TBox wi gb t := blk_below HT.out hd; clear hd HB HT y0 y1 y2 y3 y4 y5; have HB := Lib.hid hb; have HT := Lib.hid hx; obtain ⟨y0, y1, y2, y3, y4, y5⟩ := tb_cells hx; clear hb hx))
        have P5 := HP.out.1.below HB.out
        have p3 := P5.c3
        have f3 : wi.frozen? ⟨g, 3, none⟩ = false := blk_frozen P5.x 3
        have P6 : PSt w g (some ad) n cp i (d + 1) (wi.setCell ⟨g, 3, none⟩ (.int .i64 ((d : Int) + 1))) := P5.set3 (d + 1)
        have G6 := (KG.of_below (g := g) HB.out).set 3 (.int .i64 ((d : Int) + 1))
        have hd := HQ.out.2.2.2.1
        by_cases hd30 : 30 ≤ d
        · have hr := HR.out
          rw [if_pos hd30] at hr
          have q5 : decide ((d : Int) + 1 > 30) = true := by simp; omega
          have HZ := Lib.hid (And.intro (Option.some.inj hr).symm (And.intro P6 G6))
          have hf0 := fun W' => fault_c t.a 6 g W'
          have hs0 := blk_lt P6.x
          have HS0 := Lib.hid hs0
          have K6 : KG g wi (wi.setCell ⟨g, 3, none⟩ (.int .i64 ((d : Int) + 1))) := (KG.refl g wi).set 3 _
          have X6 : TBox (wi.setCell ⟨g, 3, none⟩ (.int .i64 ((d : Int) + 1))) gb t := (K6.k gb (blk_lt HT.out) HGG.out).trans HT.out
          obtain ⟨z0, z1, z2, z3, z4, z5⟩ := tb_cells X6
          have z6 : (wi.setCell ⟨g, 3, none⟩ (.int .i64 ((d : Int) + 1))).cell? ⟨g, 3, none⟩ = some (.int .i64 ((d : Int) + 1)) := P6.c3
          clear hd hd30 hr HR P5 P6 G6 K6 X6 hs0 hf0
          go_wp2_with (first
            | (go_at_call 8; refine (fault_c t.a 6 g _ HS0.out).mono ?_; rintro E wf ⟨vf, rfl, hf, hb⟩; have HF := Lib.hid (And.intro hf hb); clear hf hb))
          go_ret2
          obtain ⟨hr, P6, G6⟩ := HZ.out
          obtain ⟨hf, hb⟩ := HF.out
          cases hr
          exact ⟨none, _, i, d + 1, rfl, hf, P6.below hb, G6.trans (KG.of_below hb)⟩
        · have hr := HR.out
          rw [if_neg hd30] at hr
          have q5 : decide ((d : Int) + 1 > 30) = false := by simp; omega
          have z1 : (wi.setCell ⟨g, 3, none⟩ (.int .i64 ((d : Int) + 1))).cell? ⟨g, 1, none⟩ = some (.int .i64 (i : Int)) := P6.c1
          have z3 : (wi.setCell ⟨g, 3, none⟩ (.int .i64 ((d : Int) + 1))).cell? ⟨g, 3, none⟩ = some (.int .i64 ((d : Int) + 1)) := P6.c3
          have g1 : (wi.setCell ⟨g, 3, none⟩ (.int .i64 ((d : Int) + 1))).frozen? ⟨g, 1, none⟩ = false := blk_frozen P6.x 1
          have P7 : PSt w g (some ad) n cp (i + 1) (d + 1) ((wi.setCell ⟨g, 3, none⟩ (.int .i64 ((d : Int) + 1))).setCell ⟨g, 1, none⟩ (.int .i64 ((i : Int) + 1))) := P6.set1 (i + 1)
          have G7 := G6.set 1 (.int .i64 ((i : Int) + 1))
          cases hq : pA l f (.lv 0 (i + 1) (d + 1)) with
          | none => rw [hq] at hr; cases hr
          | some r2 =>
            rw [hq] at hr
            have hc : Calls Tryz.prog 24 #[.pointer (some ⟨g, 0, none⟩), .int .i64 1] ((wi.setCell ⟨g, 3, none⟩ (.int .i64 ((d : Int) + 1))).setCell ⟨g, 1, none⟩ (.int .i64 ((i : Int) + 1))) (Ans w ((wi.setCell ⟨g, 3, none⟩ (.int .i64 ((d : Int) + 1))).setCell ⟨g, 1, none⟩ (.int .i64 ((i : Int) + 1))) g n cp (d + 1) (some ad) r2) := ((HQ.out.2.2.1 f (Nat.le_refl _)) (i + 1) (d + 1) _ r2 P7 (by omega) HP.out.2.2).2 0 (by omega) hq
            have HC := Lib.hid hc
            have HZ := Lib.hid (And.intro hr G7)
            have hd30' : d < 30 := by omega
            have HD := Lib.hid hd30'
            clear hc hr G7 P7 P6 G6 P5 hq hd hd30 hd30' HR
            go_upto_region 14 with (first
              | (go_at_call 24; refine HC.out.mono ?_; rintro E w7 hA; obtain ⟨p2, v2, rfl, hA⟩ := ans_shape hA; have HA := Lib.hid hA; clear hA))
            clear z1 z3 g1 p3 f3 q5
            match r2, HA, HZ with
            | .error (a, y), HA, HZ =>
              obtain ⟨p', v', j, d', ee, ⟨b, rfl, hb1, hb2⟩, P8, K8⟩ := HA.out
              cases ee
              have HY := Lib.hid (And.intro hb1 (And.intro hb2 (And.intro P8 K8)))
              clear hb1 hb2 P8 K8
              go_wp2
              go_ret2
              obtain ⟨hr, G7⟩ := HZ.out
              obtain ⟨hb1, hb2, P8, K8⟩ := HY.out
              obtain rfl := (Option.some.inj hr).symm
              exact ⟨none, _, j, d', rfl, ⟨b, rfl, hb1, hb2⟩, P8, G7.trans K8⟩
            | .ok (e, j), HA, HZ =>
              obtain ⟨p', ee, T8, P8, K8, hj⟩ := HA.out
              cases ee
              have hr := HZ.out.1
              have G8 := HZ.out.2.trans K8
              dsimp only [bindR] at hr
              have c0 := P8.c0
              have c1 := P8.c1
              have c2 := P8.c2
              obtain ⟨hl, hn, _⟩ := HQ.out
              have hC := fun (W' : World) (hb : Below w7.heap.size w7 W') => here_c (P8.below hb) hl (by omega : j ≤ 1000000000) hn
              have HCh := Lib.hid hC
              by_cases hjn : j < n
              · obtain ⟨t2, ht2⟩ : ∃ t2, l[j]? = some t2 := ⟨_, List.getElem?_eq_getElem (by rw [hl.1]; exact hjn)⟩
                have hcl : closes l j = isM t2 ⟨#[41]⟩ := by unfold closes; rw [ht2]
                rw [hcl] at hr
                have hrd : ∀ W', Below w7.heap.size w7 W' → W'.cell? ⟨g, 2, none⟩ = some (.int .i64 (n : Int)) ∧ Rd g n cp j (d + 1) ad t2 W' := fun W' hb => ⟨(P8.below hb).c2, by obtain ⟨ad', e1, h1⟩ := rd_of P8 hl ht2 hb; cases e1; exact h1⟩
                have HG7 := Lib.hid hrd
                have q1 : decide ((j : Int) ≥ (n : Int)) = false := by simp; omega
                have q6 : (n ≤ j) = False := eq_false (by omega)
                have q7 : (0 : Int) ≤ (j : Int) := by omega
                have q8 : (j : Int) < (n : Int) := by omega
                have hB7 : Below w7.heap.size w7 w7.drew := below_drew (Below.refl _ w7)
                have HB7 := Lib.hid hB7
                have HY := Lib.hid (And.intro T8 (And.intro P8 (And.intro G8 hj)))
                have HR8 := Lib.hid hr
                clear T8 P8 G8 K8 hj hr hC hl hn ht2 hcl hrd hB7 hjn c0 c1 c2
                go_wp2
                go_region_held2 (fun w' => w'.cell? ⟨g, 2, none⟩ = some (.int .i64 (n : Int)) ∧ w'.cell? ⟨g, 0, none⟩ = some (.slice (some ad) n cp) ∧ w'.cell? ⟨g, 1, none⟩ = some (.int .i64 (j : Int)) ∧ w'.cell? (ad.add (j * 6)) = some (.int .i64 t2.k) ∧ w'.cell? ⟨(ad.add (j * 6)).block, (ad.add (j * 6)).off + 1, none⟩ = some (.int .i64 t2.a) ∧ w'.cell? ⟨(ad.add (j * 6)).block, (ad.add (j * 6)).off + 2, none⟩ = some (.int .i64 t2.e) ∧ w'.cell? ⟨(ad.add (j * 6)).block, (ad.add (j * 6)).off + 3, none⟩ = some (.string t2.t) ∧ w'.cell? ⟨(ad.add (j * 6)).block, (ad.add (j * 6)).off + 4, none⟩ = some (.int .u64 t2.v) ∧ w'.cell? ⟨(ad.add (j * 6)).block, (ad.add (j * 6)).off + 5, none⟩ = some (.bool t2.d)) (first | exact HG7.out _ HB7.out | go_keep) (first
                  | (go_at_call 64; refine (is_c t2 _ _).mono ?_; rintro E wj ⟨rfl, hd⟩; have hb := HB7.out.trans (hd.mono HB7.out.size); clear hd HB7; have HB7 := Lib.hid hb; clear hb))
                clear y0 y1 y2 y3 y4 y5
                cases hbo : isM t2 ⟨#[41]⟩ with
                | true =>
                  have hr := HR8.out
                  rw [hbo, if_pos rfl] at hr
                  obtain ⟨T8, P8, G8, hj⟩ := HY.out
                  have P9 := P8.below HB7.out
                  have T9 := TreeIs.kg (KG.of_below (g := g) HB7.out) T8
                  have G9 := G8.trans (KG.of_below HB7.out)
                  have c1 := P9.c1
                  have f1 : wj.frozen? ⟨g, 1, none⟩ = false := blk_frozen P9.x 1
                  have PA : PSt w g (some ad) n cp (j + 1) (d + 1) (wj.setCell ⟨g, 1, none⟩ (.int .i64 ((j : Int) + 1))) := P9.set1 (j + 1)
                  have TA := TreeIs.kg ((KG.refl g wj).set 1 (.int .i64 ((j : Int) + 1))) T9
                  have GA := G9.set 1 (.int .i64 ((j : Int) + 1))
                  have c3 : (wj.setCell ⟨g, 1, none⟩ (.int .i64 ((j : Int) + 1))).cell? ⟨g, 3, none⟩ = some (.int .i64 ((d : Int) + 1)) := PA.c3
                  have f3 : (wj.setCell ⟨g, 1, none⟩ (.int .i64 ((j : Int) + 1))).frozen? ⟨g, 3, none⟩ = false := blk_frozen PA.x 3
                  have PB : PSt w g (some ad) n cp (j + 1) d ((wj.setCell ⟨g, 1, none⟩ (.int .i64 ((j : Int) + 1))).setCell ⟨g, 3, none⟩ (.int .i64 (d : Int))) := PA.set3 d
                  have TB := TreeIs.kg ((KG.refl g (wj.setCell ⟨g, 1, none⟩ (.int .i64 ((j : Int) + 1)))).set 3 (.int .i64 (d : Int))) TA
                  have GB := GA.set 3 (.int .i64 (d : Int))
                  have hn := HQ.out.2.1
                  have hdd := HD.out
                  have e3 : IntKind.i64.wrap ((j : Int) + 1) = (j : Int) + 1 := by rw [IntKind.wrap_i64]; omega
                  have e4 : IntKind.i64.wrap ((d : Int) + 1 - 1) = (d : Int) := by rw [IntKind.wrap_i64]; omega
                  have e5 : IntKind.i64.wrap (d : Int) = (d : Int) := by rw [IntKind.wrap_i64]; omega
                  have HW := Lib.hid (And.intro (Option.some.inj hr).symm (And.intro TB (And.intro PB (And.intro GB (show j + 1 ≤ n by omega)))))
                  clear hr T8 P8 G8 hj P9 T9 G9 PA TA GA PB TB GB hn hdd
                  go_wp2
                  go_ret2
                  obtain ⟨hr, TB, PB, GB, hj⟩ := HW.out
                  cases hr
                  exact ⟨_, rfl, TB, PB, GB, hj⟩
                | false =>
                  have hr := HR8.out
                  rw [hbo, if_neg (by decide)] at hr
                  go_wp2_with (first
                    | (go_at_call 25; refine (HCh.out _ HB7.out).mono ?_; rintro E wf ⟨vf, rfl, hf, hd⟩; have HF := Lib.hid (And.intro hf (HB7.out.trans (hd.mono HB7.out.size))); clear hf hd))
                  go_ret2
                  obtain ⟨T8, P8, G8, hj⟩ := HY.out
                  obtain ⟨hf, hd⟩ := HF.out
                  obtain rfl := (Option.some.inj hr).symm
                  exact ⟨none, _, j, d + 1, rfl, hf, P8.below hd, G8.trans (KG.of_below hd)⟩
              · have hcl : closes l j = false := by unfold closes; rw [List.getElem?_eq_none (by rw [hl.1]; omega)]
                rw [hcl, if_neg (by decide)] at hr
                have q1 : decide ((j : Int) ≥ (n : Int)) = true := by simp; omega
                have q6 : (n ≤ j) = True := eq_true (by omega)
                have HY := Lib.hid (And.intro (Option.some.inj hr).symm (And.intro P8 G8))
                clear T8 P8 G8 K8 hj hr hC hl hn hcl hjn
                go_wp2
                go_quiet (fail)
                have HB8 := Lib.hid (pw_below_drewN (Below.refl w7.heap.size w7) nq)
                go_wp2_with (first
                  | (go_at_call 25; refine (HCh.out _ HB8.out).mono ?_; rintro E wf ⟨vf, rfl, hf, hd⟩; have HF := Lib.hid (And.intro hf (HB8.out.trans (hd.mono HB8.out.size))); clear hf hd))
                go_ret2
                obtain ⟨hr, P8, G8⟩ := HY.out
                obtain ⟨hf, hd⟩ := HF.out
                cases hr
                exact ⟨none, _, j, d + 1, rfl, hf, P8.below hd, G8.trans (KG.of_below hd)⟩
      · have hs4 : isM t ⟨#[40]⟩ = false := by simpa using ho
        rw [if_neg ho] at hr
        clear ho
        have HR := Lib.hid hr
        clear hr
        go_upto_region 21 with (first
          | (go_at_call 64; refine (is_c t _ _).mono ?_; rintro E wi ⟨rfl, hd⟩; have hb := HB.out.trans (hd.mono HB.out.size); have hx : TBox wi gb t := blk_below HT.out hd; clear hd HB HT y0 y1 y2 y3 y4 y5; have HB := Lib.hid hb; have HT := Lib.hid hx; obtain ⟨y0, y1, y2, y3, y4, y5⟩ := tb_cells hx; clear hb hx))
        obtain ⟨hl, hn, hD, hd, hi⟩ := HH.out
        obtain ⟨P, ht⟩ := H1.out
        have P5 := P.below HB.out
        have hhere : here l i = t.a := by unfold here; rw [ht]
        have hC := fun (W' : World) (hb : Below W.heap.size W W') => here_c (P.below hb) hl (by omega : i ≤ 1000000000) hn
        rw [hhere] at hC
        by_cases hk : t.k = 6 ∨ t.k = 5
        · have hr := HR.out
          rw [if_pos hk] at hr
          have HZ := Lib.hid (And.intro (Option.some.inj hr).symm P)
          have HC := Lib.hid hC
          clear hl hn hD hd hi P ht P5 hhere hC hr HR
          have hx : (t.k == 6) = true ∨ (t.k == 6) = false ∧ (t.k == 5) = true := by
            rcases hk with hk | hk <;> simp [hk]
          clear hk
          rcases hx with x0 | ⟨x0, x1⟩
          all_goals
            go_wp2_with (first
              | (go_at_call 25; refine (HC.out _ HB.out).mono ?_; rintro E wf ⟨vf, rfl, hf, hd⟩; have HF := Lib.hid (And.intro hf (HB.out.trans (hd.mono HB.out.size))); clear hf hd))
            go_ret2
            obtain ⟨hr, P⟩ := HZ.out
            obtain ⟨hf, hd⟩ := HF.out
            cases hr
            exact ⟨none, _, i, d, rfl, hf, P.below hd, KG.of_below hd⟩
        · have hr := HR.out
          rw [if_neg hk] at hr
          have x0 : (t.k == 6) = false := by simp; exact fun h => hk (.inl h)
          have x1 : (t.k == 5) = false := by simp; exact fun h => hk (.inr h)
          have p1 := P5.c1
          have f1 : wi.frozen? ⟨g, 1, none⟩ = false := blk_frozen P5.x 1
          have e1 : IntKind.i64.wrap ((i : Int) + 1) = (i : Int) + 1 := by rw [IntKind.wrap_i64]; omega
          have P6 : PSt w g (some ad) n cp (i + 1) d (wi.setCell ⟨g, 1, none⟩ (.int .i64 ((i : Int) + 1))) := P5.set1 (i + 1)
          have G6 := (KG.of_below (g := g) HB.out).set 1 (.int .i64 ((i : Int) + 1))
          have K6 : KG g wi (wi.setCell ⟨g, 1, none⟩ (.int .i64 ((i : Int) + 1))) := (KG.refl g wi).set 1 _
          have X6 : TBox (wi.setCell ⟨g, 1, none⟩ (.int .i64 ((i : Int) + 1))) gb t := (K6.k gb (blk_lt HT.out) HGG.out).trans HT.out
          obtain ⟨z0, z1, z2, z3, z4, z5⟩ := tb_cells X6
          have hi1 : i + 1 ≤ n := by rw [← hl.1]; exact (List.getElem?_eq_some_iff.1 ht).1
          have HZ := Lib.hid (And.intro (Option.some.inj hr).symm (And.intro P6 (And.intro G6 hi1)))
          clear hk hr HR P6 G6 K6 X6 hl hn hD hd hi P ht P5 hhere hC hi1
          go_wp2
          go_ret2
          obtain ⟨hr, P6, G6, hi1⟩ := HZ.out
          cases hr
          have hb := (Below.refl _ (wi.setCell ⟨g, 1, none⟩ (.int .i64 ((i : Int) + 1)))).alloc (Nat.le_refl _) (.cells (nodeA t (.pointer none) (.pointer none)) 87)
          have hsz : (wi.setCell ⟨g, 1, none⟩ (.int .i64 ((i : Int) + 1))).heap.size = wi.heap.size := by simp
          have hnew := blk_new (wi.setCell ⟨g, 1, none⟩ (.int .i64 ((i : Int) + 1))) (.cells (nodeA t (.pointer none) (.pointer none)) 87)
          have hlt := blk_lt P6.x
          rw [hsz] at hnew hlt
          exact ⟨_, rfl, ⟨_, rfl, by omega, hnew⟩, P6.below hb, G6.trans (KG.of_below hb), hi1⟩
  · have ht : l[i]? = none := List.getElem?_eq_none (by omega)
    rw [pA, ht] at hr
    have q1 : decide ((i : Int) ≥ (n : Int)) = true := by simp; omega
    have q2 : (n ≤ i) = True := eq_true (by omega)
    have hC := fun (W' : World) (hb : Below W.heap.size W W') => here_c (P.below hb) hl (by omega : i ≤ 1000000000) hn
    have HC := Lib.hid hC
    have HZ := Lib.hid (And.intro (Option.some.inj hr).symm P)
    clear hC hr ht hl hn hD hd hi h1 hln P h
    go_enter Tryz.func44, Tryz.ntmps44
    go_wp2
    go_quiet (fail)
    have HB := Lib.hid (pw_below_drewN (Below.refl W.heap.size W) nq)
    go_wp2_with (first
      | (go_at_call 25; refine (HC.out _ HB.out).mono ?_; rintro E wf ⟨vf, rfl, hf, hd⟩; have HF := Lib.hid (And.intro hf (HB.out.trans (hd.mono HB.out.size))); clear hf hd))
    go_ret2
    obtain ⟨hr, P⟩ := HZ.out
    obtain ⟨hf, hd⟩ := HF.out
    cases hr
    exact ⟨none, _, i, d, rfl, hf, P.below hd, KG.of_below hd⟩
end Go.Proofs.YtbmnifnahbehbaaGreatDoor

/- asm.parse. -/
set_option linter.unusedVariables false
set_option linter.unusedSimpArgs false
namespace Go.Proofs.YtbmnifnahbehbaaGreatDoor
open Go.RowKit Go.Lib Go.Proofs.YtbmnifnahbehbaaGreatDoorW.PrintWords Go.Proofs.YtbmnifnahbehbaaGreatDoorW.PrintMore Go.Proofs.YtbmnifnahbehbaaGreatDoorW.PrintLast
open AvP
theorem does_all {w : World} {g n cp : Nat} {A : Option Addr} {l : List Tok} (hl : Kd.C k49 w A n l) (hn : n ≤ 1000000000) : ∀ f m, m ≤ f → Does w g n cp A l m
  | 0, m, hm, i, d, W, r, h, hd, hi => by
    obtain rfl : m = 0 := by omega
    exact ⟨fun hr => (by cases hr), fun k hk hr => (by cases hr)⟩
  | f + 1, m, hm, i, d, W, r, h, hd, hi => by
    by_cases hmf : m ≤ f
    · exact does_all hl hn f m hmf i d W r h hd hi
    · obtain rfl : m = f + 1 := by omega
      exact ⟨fun hr => op_c hl hn (does_all hl hn f) h hd hi hr, fun k hk hr => sum_c hl hn (does_all hl hn f) h hd hi hk hr⟩
/-- What parse answers. -/
def PAns (w : World) (g n : Nat) (l : List Tok) : Res → Ending → World → Prop
  | .ok (e, j), E, w' => Below w.heap.size w w' ∧ (j < n ∧ (∃ v, E = .returned (.tuple #[.pointer none, v]) ∧ FaultIs w' g v (here l j) 83) ∨ ¬ j < n ∧ ∃ p, E = .returned (.tuple #[.pointer p, .pointer none]) ∧ TreeIs w' g e (.pointer p))
  | .error (a, y), E, w' => Below w.heap.size w w' ∧ ∃ v, E = .returned (.tuple #[.pointer none, v]) ∧ FaultIs w' g v a y
set_option maxHeartbeats 4000000 in
set_option maxRecDepth 100000 in
theorem parse_c {w : World} {n cp i f : Nat} {A : Option Addr} {l : List Tok} {r : Res} (hl : Kd.C k49 w A n l) (hn : n ≤ 1000000000) (hi : i ≤ n) (hr : pA l f (.lv 0 i 0) = some r) :
    Calls Tryz.prog 10 #[.slice A n cp, .int .i64 (i : Int), .int .i64 (n : Int)] w (PAns w w.heap.size n l r) := by
  obtain ⟨W1, hW⟩ : ∃ W1, w.alloc (.cells #[.slice A n cp, .int .i64 (i : Int), .int .i64 (n : Int), .int .i64 0] 83) = W1 := ⟨_, rfl⟩
  have P : PSt w w.heap.size A n cp i 0 W1 := by
    rw [← hW]
    exact ⟨(Below.refl _ w).alloc (Nat.le_refl _) _, blk_new w _, Nat.le_refl _⟩
  have hc : Calls Tryz.prog 24 #[.pointer (some ⟨w.heap.size, 0, none⟩), .int .i64 1] W1 (Ans w W1 w.heap.size n cp 0 A r) := (does_all hl hn f f (Nat.le_refl _) i 0 W1 r P (by omega) hi).2 0 (by omega) hr
  rw [← hW] at hc
  obtain ⟨g, hg⟩ : ∃ g, w.heap.size = g := ⟨_, rfl⟩
  have HC := Lib.hid hc
  have HH := Lib.hid (And.intro hl hn)
  have HGE := Lib.hid hg
  clear hc P hW hl hn hi hr hg
  go_enter Tryz.func10, Tryz.ntmps10
  go_upto_region 3 with (first
    | (go_at_call 24; refine HC.out.mono ?_; rintro E w7 hA; obtain ⟨p2, v2, rfl, hA⟩ := ans_shape hA; have HA := Lib.hid hA; clear hA))
  obtain ⟨hl, hn⟩ := HH.out
  match r, HA with
  | .error (a, y), HA =>
    obtain ⟨p', v', j, d', ee, ⟨b, rfl, hb1, hb2⟩, P8, K8⟩ := HA.out
    cases ee
    have HY := Lib.hid (And.intro hb1 (And.intro hb2 P8.b))
    clear hb1 hb2 P8 K8 hl hn HA HC
    go_wp2
    go_ret2
    obtain ⟨hb1, hb2, hb⟩ := HY.out
    exact ⟨hb, _, rfl, b, rfl, hb1, hb2⟩
  | .ok (e, j), HA =>
    obtain ⟨p', ee, T8, P8, K8, hj⟩ := HA.out
    cases ee
    have c1 := P8.c1
    have hC := fun (W' : World) (hb : Below w7.heap.size w7 W') => here_c (P8.below hb) hl (by omega : j ≤ 1000000000) hn
    have HCh := Lib.hid hC
    by_cases hjn : j < n
    · have q1 : decide ((j : Int) < (n : Int)) = true := by simp [hjn]
      have q2 : (j < n) = True := eq_true hjn
      have HY := Lib.hid (And.intro hjn P8.b)
      clear T8 P8 K8 hl hn HA HC hC hj hjn
      go_upto_region 5 with (first
        | (go_at_call 25; refine (HCh.out _ (Below.refl _ _)).mono ?_; rintro E wf ⟨vf, rfl, hf, hd⟩; have HF := Lib.hid (And.intro hf hd); clear hf hd))
      obtain ⟨⟨b, rfl, hb1, hb2⟩, hd⟩ := HF.out
      have HZ := Lib.hid (And.intro hb1 (And.intro hb2 hd))
      clear hb1 hb2 hd HF
      go_wp2
      go_ret2
      obtain ⟨hb1, hb2, hd⟩ := HZ.out
      obtain ⟨hjn, hb⟩ := HY.out
      exact ⟨hb.trans (hd.mono hb.size), .inl ⟨hjn, _, rfl, b, rfl, hb1, hb2⟩⟩
    · have q1 : decide ((j : Int) < (n : Int)) = false := by simp; omega
      have q2 : (j < n) = False := eq_false hjn
      have HY := Lib.hid (And.intro hjn (And.intro P8.b T8))
      clear T8 P8 K8 hl hn HA HC hC hj hjn
      go_wp2
      go_ret2
      obtain ⟨hjn, hb, T8⟩ := HY.out
      exact ⟨hb, .inr ⟨hjn, _, rfl, T8⟩⟩
end Go.Proofs.YtbmnifnahbehbaaGreatDoor

/- asm.node.between: its ten marks (a divisor of 0 apart). -/
set_option linter.unusedVariables false
set_option linter.unusedSimpArgs false
namespace Go.Proofs.YtbmnifnahbehbaaGreatDoor
open Go.RowKit Go.Lib Go.Proofs.YtbmnifnahbehbaaGreatDoorW.PrintWords Go.Proofs.YtbmnifnahbehbaaGreatDoorW.PrintMore Go.Proofs.YtbmnifnahbehbaaGreatDoorW.PrintLast
open AvP
/-- A node's block. -/
def NB (W : World) (b : Nat) (t : Tok) (lv rv : Value) : Prop := W.heap[b]? = some (.cells (nodeA t lv rv) 87 (0, 0))
/-- What a mark makes of two numbers, the divisor not 0. -/
def btw (s : ByteArray) (x y : Int) : Int :=
  if s = ⟨#[124]⟩ then bits .or .u64 x y else if s = ⟨#[94]⟩ then bits .xor .u64 x y else if s = ⟨#[38]⟩ then bits .and .u64 x y
  else if s = ⟨#[60, 60]⟩ then IntKind.u64.wrap (x * 2 ^ min y.toNat 64) else if s = ⟨#[62, 62]⟩ then x / 2 ^ min y.toNat 64
  else if s = ⟨#[43]⟩ then IntKind.u64.wrap (x + y) else if s = ⟨#[45]⟩ then IntKind.u64.wrap (x - y) else if s = ⟨#[42]⟩ then IntKind.u64.wrap (x * y)
  else if s = ⟨#[47]⟩ then IntKind.u64.wrap (x.tdiv y) else x.tmod y
set_option maxHeartbeats 4000000 in
set_option maxRecDepth 100000 in
theorem between_c {W : World} {b : Nat} {t : Tok} {lv rv : Value} {x y : Int} (h : NB W b t lv rv) (s : ByteArray) (hs : t.t = s) (hm : s = ⟨#[124]⟩ ∨ s = ⟨#[94]⟩ ∨ s = ⟨#[38]⟩ ∨ s = ⟨#[60, 60]⟩ ∨ s = ⟨#[62, 62]⟩ ∨ s = ⟨#[43]⟩ ∨ s = ⟨#[45]⟩ ∨ s = ⟨#[42]⟩ ∨ s = ⟨#[47]⟩ ∨ s = ⟨#[37]⟩) (hy : y ≠ 0) (hy0 : 0 ≤ y) (hy1 : y < 18446744073709551616) :
    Calls Tryz.prog 26 #[.pointer (some ⟨b, 0, none⟩), .int .u64 x, .int .u64 y] W fun e w' => e = .returned (.tuple #[.int .u64 (btw s x y), .nilIface]) ∧ w' = W := by
  have c3 : W.cell? ⟨b, 3, none⟩ = some (.string s) := by rw [← hs]; exact blk_cell h 3
  have y0 : (y == 0) = false := by simp [hy]
  clear h hs
  go_enter Tryz.func26, Tryz.ntmps26
  obtain ⟨z, hz⟩ : ∃ z, btw s x y = z := ⟨_, rfl⟩
  rw [hz]
  have HZ := Lib.hid hz
  clear hz
  rcases hm with rfl | rfl | rfl | rfl | rfl | rfl | rfl | rfl | rfl | rfl
  all_goals
    go_wp2
    go_ret2
    rw [← HZ.out]
    exact ⟨rfl, rfl⟩
set_option maxHeartbeats 4000000 in
set_option maxRecDepth 100000 in
theorem between_0 {W : World} {b : Nat} {t : Tok} {lv rv : Value} {x : Int} (g : Nat) (h : NB W b t lv rv) (s : ByteArray) (hs : t.t = s) (hm : s = ⟨#[47]⟩ ∨ s = ⟨#[37]⟩) (hg : g < W.heap.size) :
    Calls Tryz.prog 26 #[.pointer (some ⟨b, 0, none⟩), .int .u64 x, .int .u64 0] W fun e w' => ∃ v, e = .returned (.tuple #[.int .u64 0, .iface 39 v]) ∧ FaultIs w' g v t.a 84 ∧ Below W.heap.size W w' := by
  have c3 : W.cell? ⟨b, 3, none⟩ = some (.string s) := by rw [← hs]; exact blk_cell h 3
  have c1 : W.cell? ⟨b, 1, none⟩ = some (.int .i64 t.a) := blk_cell h 1
  have HG := Lib.hid hg
  clear h hs hg
  go_enter Tryz.func26, Tryz.ntmps26
  rcases hm with rfl | rfl
  all_goals
    go_wp2_with (first
      | (go_at_call 8; refine (fault_c t.a 84 g _ HG.out).mono ?_; rintro E w2 ⟨v, rfl, hf, hd⟩; obtain ⟨fb, rfl, hf1, hf2⟩ := hf; have HF := Lib.hid (And.intro hf1 (And.intro hf2 hd)); clear hf1 hf2 hd))
    go_ret2
    obtain ⟨hf1, hf2, hd⟩ := HF.out
    exact ⟨_, rfl, ⟨fb, rfl, hf1, hf2⟩, hd⟩
end Go.Proofs.YtbmnifnahbehbaaGreatDoor

/- The names that asm.Value's closure looks up. -/
set_option linter.unusedVariables false
set_option linter.unusedSimpArgs false
namespace Go.Proofs.YtbmnifnahbehbaaGreatDoor
open Go.RowKit Go.Lib Go.Proofs.YtbmnifnahbehbaaGreatDoorW.PrintWords Go.Proofs.YtbmnifnahbehbaaGreatDoorW.PrintMore Go.Proofs.YtbmnifnahbehbaaGreatDoorW.PrintLast
open AvP
def k37 : Kd (ByteArray × Int) := Kd.pair Kd.string (Kd.int .u64)
theorem name_at {w : World} {A : Option Addr} {n i : Nat} {l : List (ByteArray × Int)} {x : ByteArray × Int} (h : Kd.C k37 w A n l) (hx : l[i]? = some x) : ∃ ad, A = some ad ∧ i < n ∧ w.cell? (ad.add (i * 2)) = some (.string x.1) ∧ w.cell? ⟨(ad.add (i * 2)).block, (ad.add (i * 2)).off + 1, none⟩ = some (.int .u64 x.2) := by
  have hil : i < l.length := (List.getElem?_eq_some_iff.1 hx).1
  have hn : l.length = n := h.1
  obtain ⟨ad, c, e, _, hK, hc0⟩ := Kd.C_get h (⟨#[]⟩, 0) (i : Int) (by omega) (by omega)
  rw [Int.toNat_natCast] at hK hc0
  have hg : l.getD i (⟨#[]⟩, 0) = x := by rw [List.getD_eq_getElem?_getD, hx]; rfl
  rw [hg] at hK
  have hc : ∀ j u, c[j]? = some u → w.cell? (ad.add (i * 2 + j)) = some u := hc0
  obtain ⟨_, _, rfl, rfl, rfl⟩ := hK
  exact ⟨ad, e, by omega, hc 0 _ rfl, by rw [← add_field _ _ 1 (by omega)]; exact hc 1 _ rfl⟩
/-- The first of that name. -/
def find (s : ByteArray) : List (ByteArray × Int) → Option Int
  | [] => none
  | x :: l => if x.1 = s then some x.2 else find s l
/-- What a name stands for. -/
def named (l : List (ByteArray × Int)) (t : Tok) : Option Int := if t.k = 0 ∧ t.t ≠ ⟨#[46]⟩ then find t.t l else none
set_option maxHeartbeats 4000000 in
set_option maxRecDepth 100000 in
theorem names_c {W : World} {bx n cp : Nat} {A : Option Addr} {l : List (ByteArray × Int)} (hl : Kd.C k37 W A n l) (hn : n ≤ 1000000000) (hb : W.cell? ⟨bx, 0, none⟩ = some (.slice A n cp)) (t : Tok) :
    Calls Tryz.prog 12 #[.agg (tokL t).toArray, .pointer (some ⟨bx, 0, none⟩)] W fun e w' => e = .returned (.tuple #[.int .u64 ((named l t).getD 0), .bool (named l t).isSome]) ∧ Below W.heap.size W w' := by
  have hg := World.block_lt_of_cell? _ _ hb
  have HH := Lib.hid (And.intro hl (And.intro hn (And.intro hb hg)))
  clear hl hn hb hg
  go_enter Tryz.func12, Tryz.ntmps12
  go_upto_region 1 with (first | ((with_reducible refine gate_dst (N := 2) rfl ?_); refine box_event ?hg (N := 2) ?hd (cs := (tokL t).toArray) (t := 49) ?hr ?_; (case hd => rfl); (case hg => rfl); (case hr => rfl); intro gb hgb w1 hx hd1; have HX : Hid (TBox w1 gb t ∧ Below W.heap.size W w1) := Lib.hid (And.intro hx hd1); clear hx hd1 hgb))
  have hb1 : w1.cell? ⟨bx, 0, none⟩ = some (.slice A n cp) := (HX.out.2.cell HH.out.2.2.2).trans HH.out.2.2.1
  go_wp2
  go_loopg [9] n (fun gm v9 wx => ∃ i : Nat, .int .i64 (i : Int) = v9 ∧ i ≤ n ∧ Hid (gm + i = n) ∧ Hid (TBox wx gb t ∧ Below W.heap.size W wx) ∧ Hid (named l t = named (l.drop i) t))
  case atStart => exact ⟨0, rfl, Nat.zero_le _, Lib.hid rfl, HX, Lib.hid rfl⟩
  case round =>
    obtain ⟨i, rfl, hi, HI, HX, HN⟩ := hrel
    by_cases h1 : i < n
    · obtain ⟨hl, hn, hb, hg⟩ := HH.out
      obtain ⟨x, hx⟩ : ∃ x, l[i]? = some x := ⟨_, List.getElem?_eq_getElem (by rw [hl.1]; exact h1)⟩
      obtain ⟨ad, rfl, _, c0, c1⟩ := name_at (Kd.C_below hl HX.out.2) hx
      obtain ⟨y0, y1, y2, y3, y4, y5⟩ := tb_cells HX.out.1
      have q1 : decide ((i : Int) < (n : Int)) = true := by simp [h1]
      have q2 : (0 : Int) ≤ (i : Int) := by omega
      have q3 : (i : Int) < (n : Int) := by omega
      have e1 : IntKind.i64.wrap ((i : Int) + 1) = (i : Int) + 1 := by rw [IntKind.wrap_i64]; omega
      have HL := Lib.hid (And.intro hx h1)
      clear hl hn hb hg hx h1
      obtain ⟨gm, rfl⟩ : ∃ q, gk = q + 1 := ⟨gk - 1, by have := HI.out; have := HL.out.2; omega⟩
      go_upto_region 4 with (fail)
      obtain ⟨w2, hw2⟩ : ∃ z, wr.alloc (Obj.cells #[.string x.1, .int .u64 x.2] 37) = z := ⟨_, rfl⟩
      have hb2 : Below wr.heap.size wr w2 := by rw [← hw2]; exact (Below.refl _ wr).alloc (Nat.le_refl _) _
      have hn2 : w2.heap[wr.heap.size]? = some (.cells #[.string x.1, .int .u64 x.2] 37) := by rw [← hw2]; exact blk_new wr _
      rw [hw2]
      obtain ⟨gn, hgn⟩ : ∃ z, wr.heap.size = z := ⟨_, rfl⟩
      rw [hgn] at hn2 ⊢
      have d0 : w2.cell? ⟨gn, 0, none⟩ = some (.string x.1) := blk_cell hn2 0
      have d1 : w2.cell? ⟨gn, 1, none⟩ = some (.int .u64 x.2) := blk_cell hn2 1
      have hx2 : TBox w2 gb t := blk_below HX.out.1 hb2
      have hB2 : Below W.heap.size W w2 := HX.out.2.trans (hb2.mono HX.out.2.size)
      clear y0 y1 y2 y3 y4 y5
      obtain ⟨y0, y1, y2, y3, y4, y5⟩ := tb_cells hx2
      obtain ⟨hx, h1⟩ := HL.out
      have hdr : l.drop i = x :: l.drop (i + 1) := by
        obtain ⟨hj, rfl⟩ := List.getElem?_eq_some_iff.1 hx
        exact List.drop_eq_getElem_cons hj
      have hN := HN.out
      rw [hdr] at hN
      have HX2 := Lib.hid (And.intro hx2 hB2)
      have E0 : (t.k == 0) = decide (t.k = 0) := by by_cases h : t.k = 0 <;> simp [h]
      have E1 : (t.t.toList == [46]) = decide (t.t = ⟨#[46]⟩) := by rw [← beq_dec, show (⟨#[46]⟩ : ByteArray).toList = [46] by rw [ByteArray.toList_eq]]
      have E2 : (x.1.toList == t.t.toList) = decide (x.1 = t.t) := beq_dec _ _
      clear hw2 hb2 hn2 hgn hx2 hB2 hx hdr c0 c1
      by_cases hm : (t.k = 0 ∧ t.t ≠ ⟨#[46]⟩) ∧ x.1 = t.t
      · obtain ⟨⟨m0, m1⟩, m2⟩ := hm
        rw [decide_eq_true m0] at E0
        rw [decide_eq_false m1] at E1
        rw [decide_eq_true m2] at E2
        have hv : named l t = some x.2 := by rw [hN, named, if_pos ⟨m0, m1⟩, find, if_pos m2]
        have HV := Lib.hid hv
        clear hv hN m0 m1 m2
        go_wp2
        go_ret2
        rw [HV.out]
        exact ⟨rfl, HX2.out.2⟩
      · have hv : named l t = named (l.drop (i + 1)) t := by
          rw [hN]
          unfold named
          by_cases m : t.k = 0 ∧ t.t ≠ ⟨#[46]⟩
          · rw [if_pos m, if_pos m, find, if_neg (fun h => hm ⟨m, h⟩)]
          · rw [if_neg m, if_neg m]
        have HV := Lib.hid hv
        clear hv hN
        have hcs : (t.k == 0) = false ∨ (t.k == 0) = true ∧ (t.t.toList == [46]) = true ∨ (t.k == 0) = true ∧ (t.t.toList == [46]) = false ∧ (x.1.toList == t.t.toList) = false := by
          rw [E0, E1, E2]
          by_cases m0 : t.k = 0 <;> by_cases m1 : t.t = ⟨#[46]⟩ <;> by_cases m2 : x.1 = t.t <;> simp_all
        clear E0 E1 E2 hm
        rcases hcs with F0 | ⟨F0, F1⟩ | ⟨F0, F1, F2⟩
        all_goals
          go_wp2
          go_roundg gm
          case measure => omega
          case rel => exact ⟨i + 1, by go_num, by omega, Lib.hid (by have := HI.out; omega), HX2, HV⟩
    · obtain ⟨hl, hn, hb, hg⟩ := HH.out
      have q1 : decide ((i : Int) < (n : Int)) = false := by simp; omega
      have q2 : (i < n) = False := eq_false h1
      have hv : named l t = none := by
        rw [HN.out, List.drop_of_length_le (by rw [hl.1]; omega)]
        unfold named
        split <;> rfl
      have HV := Lib.hid hv
      clear hl hn hb hg hv
      go_wp2
      go_ret2
      rw [HV.out]
      exact ⟨rfl, HX.out.2⟩
end Go.Proofs.YtbmnifnahbehbaaGreatDoor

/- asm.node.value: the value of a tree. -/
set_option linter.unusedVariables false
set_option linter.unusedSimpArgs false
namespace Go.Proofs.YtbmnifnahbehbaaGreatDoor
open Go.RowKit Go.Lib Go.Proofs.YtbmnifnahbehbaaGreatDoorW.PrintWords Go.Proofs.YtbmnifnahbehbaaGreatDoorW.PrintMore Go.Proofs.YtbmnifnahbehbaaGreatDoorW.PrintLast
open AvP
abbrev EvR := Except (Int × Int) Int
/-- What a sign makes of a number. -/
def unS (s : ByteArray) (x : Int) : Int := if s = ⟨#[45]⟩ then IntKind.u64.wrap (-x) else if s = ⟨#[126]⟩ then bits .xor .u64 IntKind.u64.max x else x
/-- Of a tree, with what names stand for: its value, or the place of the fault and its reason. -/
def ev (nm : Tok → Option Int) : Ex → EvR
  | .leaf t => if t.k = 1 ∨ t.k = 4 then .ok t.v else match nm t with | some v => .ok v | none => .error (t.a, 82)
  | .un t e => match ev nm e with | .ok x => .ok (unS t.t x) | .error f => .error f
  | .bin t l r => match ev nm l with
    | .error f => .error f
    | .ok x => match ev nm r with
      | .error f => .error f
      | .ok y => if y = 0 ∧ (t.t = ⟨#[47]⟩ ∨ t.t = ⟨#[37]⟩) then .error (t.a, 84) else .ok (btw t.t x y)
def ten (s : ByteArray) : Prop := s = ⟨#[124]⟩ ∨ s = ⟨#[94]⟩ ∨ s = ⟨#[38]⟩ ∨ s = ⟨#[60, 60]⟩ ∨ s = ⟨#[62, 62]⟩ ∨ s = ⟨#[43]⟩ ∨ s = ⟨#[45]⟩ ∨ s = ⟨#[42]⟩ ∨ s = ⟨#[47]⟩ ∨ s = ⟨#[37]⟩
def Wf : Ex → Prop
  | .leaf t => 0 ≤ t.v ∧ t.v < 18446744073709551616
  | .un t e => sign t = true ∧ Wf e
  | .bin t l r => ten t.t ∧ Wf l ∧ Wf r
theorem bits_r (o : BinOp) (x y : Int) : 0 ≤ bits o .u64 x y ∧ bits o .u64 x y < 18446744073709551616 := by
  unfold bits
  rw [IntKind.wrap_u64]
  omega
theorem unS_r (s : ByteArray) (x : Int) (h0 : 0 ≤ x) (h1 : x < 18446744073709551616) : 0 ≤ unS s x ∧ unS s x < 18446744073709551616 := by
  unfold unS
  split
  · rw [IntKind.wrap_u64]; omega
  · split
    · exact bits_r _ _ _
    · exact ⟨h0, h1⟩
theorem btw_r (s : ByteArray) (x y : Int) (h0 : 0 ≤ x) (h1 : x < 18446744073709551616) (k0 : 0 ≤ y) (k1 : y < 18446744073709551616) (hy : y ≠ 0 ∨ ¬ (s = ⟨#[47]⟩ ∨ s = ⟨#[37]⟩)) : 0 ≤ btw s x y ∧ btw s x y < 18446744073709551616 := by
  unfold btw
  repeat' split
  all_goals first
    | exact bits_r _ _ _
    | (rw [IntKind.wrap_u64]; omega)
    | skip
  · have h2 : (1 : Int) ≤ 2 ^ min y.toNat 64 := by exact_mod_cast Nat.one_le_two_pow
    exact ⟨Int.ediv_nonneg h0 (by omega), Int.lt_of_le_of_lt (Int.ediv_le_self _ h0) h1⟩
  · rw [Int.tmod_eq_emod_of_nonneg h0]
    by_cases hz : y = 0
    · rw [hz, Int.emod_zero]; exact ⟨h0, h1⟩
    · have := Int.emod_nonneg x hz
      have := Int.emod_lt_of_pos x (show 0 < y by omega)
      omega
theorem ev_r (nm : Tok → Option Int) (hnm : ∀ t v, nm t = some v → 0 ≤ v ∧ v < 18446744073709551616) : ∀ e x, Wf e → ev nm e = .ok x → 0 ≤ x ∧ x < 18446744073709551616
  | .leaf t, x, hw, h => by
    rw [ev] at h
    split at h
    · cases h; exact hw
    · split at h
      · rename_i v hv; cases h; exact hnm t _ hv
      · cases h
  | .un t e, x, hw, h => by
    rw [ev] at h
    cases he : ev nm e with
    | error f => rw [he] at h; cases h
    | ok y =>
      rw [he] at h
      cases h
      have := ev_r nm hnm e y hw.2 he
      exact unS_r _ _ this.1 this.2
  | .bin t l r, x, hw, h => by
    rw [ev] at h
    cases hl : ev nm l with
    | error f => rw [hl] at h; cases h
    | ok y =>
      rw [hl] at h
      cases hr : ev nm r with
      | error f => rw [hr] at h; cases h
      | ok z =>
        rw [hr] at h
        dsimp only at h
        split at h
        · cases h
        · rename_i hz
          cases h
          have a := ev_r nm hnm l y hw.2.1 hl
          have b := ev_r nm hnm r z hw.2.2 hr
          exact btw_r _ _ _ a.1 a.2 b.1 b.2 (Classical.byCases (fun h0 : z = 0 => .inr (fun h => hz ⟨h0, h⟩)) (fun h0 => .inl h0))
/-- between at the eight marks that do not divide. -/
theorem between_8 {W : World} {b : Nat} {t : Tok} {lv rv : Value} {x y : Int} (h : NB W b t lv rv) (s : ByteArray) (hs : t.t = s) (hm : s = ⟨#[124]⟩ ∨ s = ⟨#[94]⟩ ∨ s = ⟨#[38]⟩ ∨ s = ⟨#[60, 60]⟩ ∨ s = ⟨#[62, 62]⟩ ∨ s = ⟨#[43]⟩ ∨ s = ⟨#[45]⟩ ∨ s = ⟨#[42]⟩) (hy0 : 0 ≤ y) (hy1 : y < 18446744073709551616) :
    Calls Tryz.prog 26 #[.pointer (some ⟨b, 0, none⟩), .int .u64 x, .int .u64 y] W fun e w' => e = .returned (.tuple #[.int .u64 (btw s x y), .nilIface]) ∧ w' = W := by
  have c3 : W.cell? ⟨b, 3, none⟩ = some (.string s) := by rw [← hs]; exact blk_cell h 3
  clear h hs
  go_enter Tryz.func26, Tryz.ntmps26
  obtain ⟨z, hz⟩ : ∃ z, btw s x y = z := ⟨_, rfl⟩
  rw [hz]
  have HZ := Lib.hid hz
  clear hz
  rcases hm with rfl | rfl | rfl | rfl | rfl | rfl | rfl | rfl
  all_goals
    go_wp2
    go_ret2
    rw [← HZ.out]
    exact ⟨rfl, rfl⟩
/-- What an answer means. -/
def EvAns (W : World) (g : Nat) (r : EvR) (E : Ending) (w' : World) : Prop :=
  match r with
  | .ok x => E = .returned (.tuple #[.int .u64 x, .nilIface]) ∧ Below W.heap.size W w'
  | .error (a, y) => ∃ v, E = .returned (.tuple #[.int .u64 0, .iface 39 v]) ∧ FaultIs w' g v a y ∧ Below W.heap.size W w'
theorem FaultIs.below {W W' : World} {g : Nat} {v : Value} {a y : Int} (hb : Below W.heap.size W W') (h : FaultIs W g v a y) : FaultIs W' g v a y := h.kg (KG.of_below hb)
theorem TreeIs.below {W W' : World} {g : Nat} (hb : Below W.heap.size W W') {e : Ex} {v : Value} (h : TreeIs W g e v) : TreeIs W' g e v := h.kg (KG.of_below hb)
theorem between_all {W : World} {b g : Nat} {t : Tok} {lv rv : Value} {x y : Int} (h : NB W b t lv rv) (hm : ten t.t) (hg : g < W.heap.size) (hy0 : 0 ≤ y) (hy1 : y < 18446744073709551616) :
    Calls Tryz.prog 26 #[.pointer (some ⟨b, 0, none⟩), .int .u64 x, .int .u64 y] W (EvAns W g (if y = 0 ∧ (t.t = ⟨#[47]⟩ ∨ t.t = ⟨#[37]⟩) then .error (t.a, 84) else .ok (btw t.t x y))) := by
  by_cases h0 : y = 0 ∧ (t.t = ⟨#[47]⟩ ∨ t.t = ⟨#[37]⟩)
  · rw [if_pos h0]
    obtain ⟨rfl, h0⟩ := h0
    exact between_0 g h t.t rfl h0 hg
  · rw [if_neg h0]
    by_cases hy : y = 0
    · refine (between_8 h t.t rfl ?_ hy0 hy1).mono fun e w' ⟨he, hw⟩ => ⟨he, by rw [hw]; exact Below.refl _ _⟩
      rcases hm with h | h | h | h | h | h | h | h | h | h
      · exact .inl h
      · exact .inr (.inl h)
      · exact .inr (.inr (.inl h))
      · exact .inr (.inr (.inr (.inl h)))
      · exact .inr (.inr (.inr (.inr (.inl h))))
      · exact .inr (.inr (.inr (.inr (.inr (.inl h)))))
      · exact .inr (.inr (.inr (.inr (.inr (.inr (.inl h))))))
      · exact .inr (.inr (.inr (.inr (.inr (.inr (.inr h))))))
      · exact absurd ⟨hy, .inl h⟩ h0
      · exact absurd ⟨hy, .inr h⟩ h0
    · exact (between_c h t.t rfl hm hy hy0 hy1).mono fun e w' ⟨he, hw⟩ => ⟨he, by rw [hw]; exact Below.refl _ _⟩
theorem enters12 : ∀ args w, (callFunc 12 args).run Tryz.prog w = .ok (.enter 12 args) w := enters_of Tryz.func12 (by kernel_rfl) rfl
set_option maxHeartbeats 4000000 in
set_option maxRecDepth 100000 in
theorem leaf_c {W : World} {g b bx : Nat} {t : Tok} (nm : Tok → Option Int) (hb : W.heap[b]? = some (.cells (nodeA t (.pointer none) (.pointer none)) 87 (0, 0))) (hg : g < W.heap.size)
    (hcl : Calls Tryz.prog 12 #[.agg (tokL t).toArray, .pointer (some ⟨bx, 0, none⟩)] W fun e w' => e = .returned (.tuple #[.int .u64 ((nm t).getD 0), .bool (nm t).isSome]) ∧ Below W.heap.size W w') :
    Calls Tryz.prog 11 #[.pointer (some ⟨b, 0, none⟩), .func (.func 12) #[] #[.pointer (some ⟨bx, 0, none⟩)]] W (EvAns W g (ev nm (.leaf t))) := by
  have c0 : W.cell? ⟨b, 0, none⟩ = some (.int .i64 t.k) := blk_cell hb 0
  have c1 : W.cell? ⟨b, 1, none⟩ = some (.int .i64 t.a) := blk_cell hb 1
  have c2 : W.cell? ⟨b, 2, none⟩ = some (.int .i64 t.e) := blk_cell hb 2
  have c3 : W.cell? ⟨b, 3, none⟩ = some (.string t.t) := blk_cell hb 3
  have c4 : W.cell? ⟨b, 4, none⟩ = some (.int .u64 t.v) := blk_cell hb 4
  have c5 : W.cell? ⟨b, 5, none⟩ = some (.bool t.d) := blk_cell hb 5
  have c6 : W.cell? ⟨b, 6, none⟩ = some (.pointer none) := blk_cell hb 6
  have e12 := enters12
  have hlt := blk_lt hb
  have HB := Lib.hid (And.intro hb hg)
  clear hb hg
  rw [ev]
  by_cases hk : t.k = 1 ∨ t.k = 4
  · rw [if_pos hk]
    have hc : (t.k == 1) = true ∨ (t.k == 1) = false ∧ (t.k == 4) = true := by
      rcases hk with h | h
      · exact .inl (by simp [h])
      · exact .inr ⟨by simp [h], by simp [h]⟩
    clear hk hcl
    rcases hc with h1 | ⟨h1, h4⟩
    all_goals
      go_enter Tryz.func11, Tryz.ntmps11
      go_wp2
      go_ret2
      exact ⟨rfl, Below.refl _ _⟩
  · rw [if_neg hk]
    have h1 : (t.k == 1) = false := by rw [beq_eq_false_iff_ne]; exact fun h => hk (.inl h)
    have h4 : (t.k == 4) = false := by rw [beq_eq_false_iff_ne]; exact fun h => hk (.inr h)
    clear hk
    cases hv : nm t with
    | some v =>
      rw [hv] at hcl
      have hcall : Calls Tryz.prog 12 #[.agg #[.int .i64 t.k, .int .i64 t.a, .int .i64 t.e, .string t.t, .int .u64 t.v, .bool t.d], .pointer (some ⟨bx, 0, none⟩)] W fun e w' => e = .returned (.tuple #[.int .u64 v, .bool true]) ∧ Below W.heap.size W w' := hcl
      clear hv hcl
      go_enter Tryz.func11, Tryz.ntmps11
      go_wp2_with (go_at_fn 12; refine hcall.mono ?_; rintro e w' ⟨rfl, hb'⟩)
      go_ret2
      exact ⟨rfl, hb'⟩
    | none =>
      rw [hv] at hcl
      have hcall : Calls Tryz.prog 12 #[.agg #[.int .i64 t.k, .int .i64 t.a, .int .i64 t.e, .string t.t, .int .u64 t.v, .bool t.d], .pointer (some ⟨bx, 0, none⟩)] W fun e w' => e = .returned (.tuple #[.int .u64 0, .bool false]) ∧ Below W.heap.size W w' := hcl
      clear hv hcl
      go_enter Tryz.func11, Tryz.ntmps11
      go_wp2_with (first
        | (go_at_fn 12; refine hcall.mono ?_; rintro e w1 ⟨rfl, hb1⟩; have d1 : w1.cell? ⟨b, 1, none⟩ = some (.int .i64 t.a) := (hb1.cell (p := ⟨b, 1, none⟩) hlt).trans c1; have hg1 := Nat.lt_of_lt_of_le HB.out.2 hb1.size)
        | (go_at_call 8; refine (fault_c t.a 82 g _ hg1).mono ?_; rintro E w2 ⟨v, rfl, hf, hd⟩; obtain ⟨fb, rfl, hf1, hf2⟩ := hf; have HF := Lib.hid (And.intro hf1 (And.intro hf2 hd)); clear hf1 hf2 hd))
      go_ret2
      obtain ⟨hf1, hf2, hd⟩ := HF.out
      exact ⟨_, rfl, ⟨fb, rfl, hf1, hf2⟩, hb1.trans (hd.mono hb1.size)⟩
set_option maxHeartbeats 4000000 in
set_option maxRecDepth 100000 in
theorem un_c {W : World} {g b bx : Nat} {t : Tok} {lb : Addr} (nm : Tok → Option Int) {e : Ex} (hb : W.heap[b]? = some (.cells (nodeA t (.pointer (some lb)) (.pointer none)) 87 (0, 0))) 
    (hc : Calls Tryz.prog 11 #[.pointer (some lb), .func (.func 12) #[] #[.pointer (some ⟨bx, 0, none⟩)]] W (EvAns W g (ev nm e))) :
    Calls Tryz.prog 11 #[.pointer (some ⟨b, 0, none⟩), .func (.func 12) #[] #[.pointer (some ⟨bx, 0, none⟩)]] W (EvAns W g (ev nm (.un t e))) := by
  have c6 : W.cell? ⟨b, 6, none⟩ = some (.pointer (some lb)) := blk_cell hb 6
  have hlt := blk_lt hb
  have hB : ∀ w', Below W.heap.size W w' → w'.cell? ⟨b, 3, none⟩ = some (.string t.t) ∧ w'.cell? ⟨b, 7, none⟩ = some (.pointer none) := fun w' h => ⟨blk_cell (blk_below hb h) 3, blk_cell (blk_below hb h) 7⟩
  have HB := Lib.hid hB
  clear hb hB
  rw [ev]
  cases hr : ev nm e with
  | error f =>
    obtain ⟨a, y⟩ := f
    rw [hr] at hc
    clear hr
    have HC := Lib.hid hc
    clear hc
    go_enter Tryz.func11, Tryz.ntmps11
    go_wp2_with (first | (go_at_call 11; refine HC.out.mono ?_; rintro E w1 ⟨v, rfl, hf, hb1⟩; obtain ⟨fb, rfl, hf1, hf2⟩ := hf; have HF := Lib.hid (And.intro hf1 (And.intro hf2 hb1)); clear hf1 hf2 hb1))
    go_ret2
    obtain ⟨hf1, hf2, hd⟩ := HF.out
    exact ⟨_, rfl, ⟨fb, rfl, hf1, hf2⟩, hd⟩
  | ok x =>
    rw [hr] at hc
    clear hr
    have HC := Lib.hid hc
    clear hc
    dsimp only
    unfold unS
    have E0 : (t.t.toList == [45]) = decide (t.t = ⟨#[45]⟩) := by rw [← beq_dec, show (⟨#[45]⟩ : ByteArray).toList = [45] by rw [ByteArray.toList_eq]]
    have E1 : (t.t.toList == [126]) = decide (t.t = ⟨#[126]⟩) := by rw [← beq_dec, show (⟨#[126]⟩ : ByteArray).toList = [126] by rw [ByteArray.toList_eq]]
    by_cases m0 : t.t = ⟨#[45]⟩
    · rw [decide_eq_true m0] at E0
      rw [if_pos m0]
      clear E1 m0
      go_enter Tryz.func11, Tryz.ntmps11
      go_wp2_with (first | (go_at_call 11; refine HC.out.mono ?_; rintro E w1 ⟨rfl, hb1⟩; obtain ⟨d3, d7⟩ := HB.out _ hb1))
      go_ret2
      exact ⟨rfl, hb1⟩
    · rw [decide_eq_false m0] at E0
      rw [if_neg m0]
      by_cases m1 : t.t = ⟨#[126]⟩
      · rw [decide_eq_true m1] at E1
        rw [if_pos m1]
        clear m0 m1
        go_enter Tryz.func11, Tryz.ntmps11
        go_wp2_with (first | (go_at_call 11; refine HC.out.mono ?_; rintro E w1 ⟨rfl, hb1⟩; obtain ⟨d3, d7⟩ := HB.out _ hb1))
        go_ret2
        exact ⟨rfl, hb1⟩
      · rw [decide_eq_false m1] at E1
        rw [if_neg m1]
        clear m0 m1
        go_enter Tryz.func11, Tryz.ntmps11
        go_wp2_with (first | (go_at_call 11; refine HC.out.mono ?_; rintro E w1 ⟨rfl, hb1⟩; obtain ⟨d3, d7⟩ := HB.out _ hb1))
        go_ret2
        exact ⟨rfl, hb1⟩
set_option maxHeartbeats 4000000 in
set_option maxRecDepth 100000 in
theorem bin_c {W : World} {g b bx : Nat} {t : Tok} {la ra : Addr} (nm : Tok → Option Int) {l r : Ex} (hb : W.heap[b]? = some (.cells (nodeA t (.pointer (some la)) (.pointer (some ra))) 87 (0, 0))) (hg : g < W.heap.size)
    (hy : ∀ y, ev nm r = .ok y → 0 ≤ y ∧ y < 18446744073709551616) (hm : ten t.t)
    (hl : Calls Tryz.prog 11 #[.pointer (some la), .func (.func 12) #[] #[.pointer (some ⟨bx, 0, none⟩)]] W (EvAns W g (ev nm l)))
    (hr : ∀ w1, Below W.heap.size W w1 → Calls Tryz.prog 11 #[.pointer (some ra), .func (.func 12) #[] #[.pointer (some ⟨bx, 0, none⟩)]] w1 (EvAns w1 g (ev nm r))) :
    Calls Tryz.prog 11 #[.pointer (some ⟨b, 0, none⟩), .func (.func 12) #[] #[.pointer (some ⟨bx, 0, none⟩)]] W (EvAns W g (ev nm (.bin t l r))) := by
  have c6 : W.cell? ⟨b, 6, none⟩ = some (.pointer (some la)) := blk_cell hb 6
  have hB : ∀ w', Below W.heap.size W w' → w'.cell? ⟨b, 7, none⟩ = some (.pointer (some ra)) := fun w' h => blk_cell (blk_below hb h) 7
  have hN : ∀ w' x y, Below W.heap.size W w' → 0 ≤ y → y < 18446744073709551616 → Calls Tryz.prog 26 #[.pointer (some ⟨b, 0, none⟩), .int .u64 x, .int .u64 y] w' (EvAns w' g (if y = 0 ∧ (t.t = ⟨#[47]⟩ ∨ t.t = ⟨#[37]⟩) then .error (t.a, 84) else .ok (btw t.t x y))) := fun w' x y h h0 h1 => between_all (blk_below hb h) hm (Nat.lt_of_lt_of_le hg h.size) h0 h1
  have HB := Lib.hid hB
  have HN := Lib.hid hN
  have HR := Lib.hid hr
  clear hb hB hN hr hm hg
  rw [ev]
  cases hvl : ev nm l with
  | error f =>
    obtain ⟨a, y⟩ := f
    rw [hvl] at hl
    clear hvl
    have HC := Lib.hid hl
    clear hl hy
    go_enter Tryz.func11, Tryz.ntmps11
    go_wp2_with (first | (go_at_call 11; refine HC.out.mono ?_; rintro E w1 ⟨v, rfl, hf, hb1⟩; obtain ⟨fb, rfl, hf1, hf2⟩ := hf; have HF := Lib.hid (And.intro hf1 (And.intro hf2 hb1)); clear hf1 hf2 hb1))
    go_ret2
    obtain ⟨hf1, hf2, hd⟩ := HF.out
    exact ⟨_, rfl, ⟨fb, rfl, hf1, hf2⟩, hd⟩
  | ok x =>
    rw [hvl] at hl
    clear hvl
    have HC := Lib.hid hl
    clear hl
    cases hvr : ev nm r with
    | error f =>
      obtain ⟨a, y⟩ := f
      have hr2 := fun w1 hw => hvr ▸ HR.out w1 hw
      have HR2 := Lib.hid hr2
      clear hvr hr2 hy HR HN
      go_enter Tryz.func11, Tryz.ntmps11
      go_upto_region 18 with (first | (go_at_call 11; refine HC.out.mono ?_; rintro E w1 ⟨rfl, hb1⟩; have d7 := HB.out _ hb1))
      go_wp2_with (first | (go_at_call 11; refine (HR2.out _ hb1).mono ?_; rintro E w2 ⟨v, rfl, hf, hb2⟩; obtain ⟨fb, rfl, hf1, hf2⟩ := hf; have HF := Lib.hid (And.intro hf1 (And.intro hf2 hb2)); clear hf1 hf2 hb2))
      go_ret2
      obtain ⟨hf1, hf2, hd⟩ := HF.out
      exact ⟨_, rfl, ⟨fb, rfl, hf1, hf2⟩, hb1.trans (hd.mono hb1.size)⟩
    | ok y =>
      obtain ⟨h0, h1⟩ := hy y hvr
      have hr2 := fun w1 hw => hvr ▸ HR.out w1 hw
      have HR2 := Lib.hid hr2
      have hN := fun w' h => HN.out w' x y h h0 h1
      have HN2 := Lib.hid hN
      clear hvr hr2 hy HR HN hN
      dsimp only
      obtain ⟨RR, hRR⟩ : ∃ RR : EvR, (if y = 0 ∧ (t.t = ⟨#[47]⟩ ∨ t.t = ⟨#[37]⟩) then .error (t.a, 84) else .ok (btw t.t x y)) = RR := ⟨_, rfl⟩
      rw [hRR] at HN2 ⊢
      clear hRR
      go_enter Tryz.func11, Tryz.ntmps11
      go_upto_region 18 with (first | (go_at_call 11; refine HC.out.mono ?_; rintro E w1 ⟨rfl, hb1⟩; have d7 := HB.out _ hb1))
      go_upto_region 21 with (first | (go_at_call 11; refine (HR2.out _ hb1).mono ?_; rintro E w2 ⟨rfl, hb2⟩; have hb3 := hb1.trans (hb2.mono hb1.size)))
      match RR, HN2 with
      | .ok z, HN2 =>
        go_wp2_with (first | (go_at_call 26; refine (HN2.out _ hb3).mono ?_; rintro E w4 ⟨rfl, hb4⟩))
        go_ret2
        exact ⟨rfl, hb3.trans (hb4.mono hb3.size)⟩
      | .error (a, z), HN2 =>
        go_wp2_with (first | (go_at_call 26; refine (HN2.out _ hb3).mono ?_; rintro E w4 ⟨v, rfl, hf, hb4⟩; obtain ⟨fb, rfl, hf1, hf2⟩ := hf; have HF := Lib.hid (And.intro hf1 (And.intro hf2 hb4)); clear hf1 hf2 hb4))
        go_ret2
        obtain ⟨hf1, hf2, hd⟩ := HF.out
        exact ⟨_, rfl, ⟨fb, rfl, hf1, hf2⟩, hb3.trans (hd.mono hb3.size)⟩
theorem tree_ptr {W : World} {g : Nat} {e : Ex} {v : Value} (h : TreeIs W g e v) : ∃ a, v = .pointer (some a) := by
  cases e with
  | leaf t => obtain ⟨b, h, _⟩ := h; exact ⟨_, h⟩
  | un t e => obtain ⟨b, _, h, _⟩ := h; exact ⟨_, h⟩
  | bin t l r => obtain ⟨b, _, _, h, _⟩ := h; exact ⟨_, h⟩
theorem nval_c {w0 : World} {g bx : Nat} (nm : Tok → Option Int) (hnm : ∀ t v, nm t = some v → 0 ≤ v ∧ v < 18446744073709551616)
    (hcl : ∀ W t, Below w0.heap.size w0 W → Calls Tryz.prog 12 #[.agg (tokL t).toArray, .pointer (some ⟨bx, 0, none⟩)] W fun e w' => e = .returned (.tuple #[.int .u64 ((nm t).getD 0), .bool (nm t).isSome]) ∧ Below W.heap.size W w') :
    ∀ (e : Ex) (v : Value) (W : World), Wf e → TreeIs W g e v → g < W.heap.size → Below w0.heap.size w0 W → Calls Tryz.prog 11 #[v, .func (.func 12) #[] #[.pointer (some ⟨bx, 0, none⟩)]] W (EvAns W g (ev nm e))
  | .leaf t, v, W, hw, ht, hg, hb => by
    obtain ⟨b, rfl, _, h⟩ := ht
    exact leaf_c nm h hg (hcl W t hb)
  | .un t e, v, W, hw, ht, hg, hb => by
    obtain ⟨b, lv, rfl, _, h, h2⟩ := ht
    obtain ⟨la, rfl⟩ := tree_ptr h2
    exact un_c nm h (nval_c nm hnm hcl e _ W hw.2 h2 hg hb)
  | .bin t l r, v, W, hw, ht, hg, hb => by
    obtain ⟨b, lv, rv, rfl, _, h, h2, h3⟩ := ht
    obtain ⟨la, rfl⟩ := tree_ptr h2
    obtain ⟨ra, rfl⟩ := tree_ptr h3
    exact bin_c nm h hg (fun y hy => ev_r nm hnm r y hw.2.2 hy) hw.1 (nval_c nm hnm hcl l _ W hw.2.1 h2 hg hb) (fun w1 hb1 => nval_c nm hnm hcl r _ w1 hw.2.2 (h3.below hb1) (Nat.lt_of_lt_of_le hg hb1.size) (hb.trans (hb1.mono hb.size)))
end Go.Proofs.YtbmnifnahbehbaaGreatDoor
