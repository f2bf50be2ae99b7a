/- The document's goes, mark. -/
import Derived.Test.YtbmnifnahbehbaaGreatDoorPGr3
import Derived.Test.YtbmnifnahbehbaaGreatDoorPGr5
import Derived.Test.YtbmnifnahbehbaaGreatDoorPGr4
set_option linter.unusedVariables false
set_option linter.unusedSimpArgs false
namespace Go.Proofs.YtbmnifnahbehbaaGreatDoor
open Go.RowKit Go.Lib Go.Proofs.YtbmnifnahbehbaaGreatDoorW.PrintWords Go.Proofs.YtbmnifnahbehbaaGreatDoorW.PrintMore Go.Proofs.YtbmnifnahbehbaaGreatDoorW.PrintLast
open AvP
def gosB (R : Nat) : Bool := isLetterU (R : Int) || decide (48 ≤ R ∧ R ≤ 57) || decide (R = 95) || decide (R = 46) || decide (R = 36)
set_option maxHeartbeats 8000000 in
set_option maxRecDepth 100000 in
theorem goes_c (R : Nat) (hR : R ≤ 2147483647) (W : World) (hg : Glob W) : Calls Tryz.prog 68 #[.int .i32 (R : Int)] W fun e w' => e = .returned (.bool (gosB R)) ∧ Below W.heap.size W w' := by
  have hLT := letter_c (R : Int) W (by omega) (by omega) hg
  cases hlt : isLetterU (R : Int) with
  | true =>
    have hb : gosB R = true := by unfold gosB; rw [hlt]; rfl
    rw [hb]
    rw [hlt] at hLT
    have HD := Lib.hid hLT
    clear hb hLT hlt
    go_enter Tryz.func68, Tryz.ntmps68
    go_wp2_with (first | (go_at_call 43; refine HD.out.mono ?_; rintro e w' ⟨rfl, hb'⟩))
    go_ret
    exact ⟨rfl, hb'⟩
  | false =>
    rw [hlt] at hLT
    have HD := Lib.hid hLT
    have hb : gosB R = (decide (48 ≤ R ∧ R ≤ 57) || decide (R = 95) || decide (R = 46) || decide (R = 36)) := by unfold gosB; rw [hlt]; rfl
    rw [hb]
    clear hb hLT hlt
    by_cases h48 : 48 ≤ R
    · have k48 : (48 : Int) ≤ (R : Int) := by omega
      by_cases h57 : R ≤ 57
      · have k57 : (R : Int) ≤ 57 := by omega
        have hb : (decide (48 ≤ R ∧ R ≤ 57) || decide (R = 95) || decide (R = 46) || decide (R = 36)) = true := by simp; omega
        rw [hb]
        clear hb
        go_enter Tryz.func68, Tryz.ntmps68
        go_wp2_with (first | (go_at_call 43; refine HD.out.mono ?_; rintro e w' ⟨rfl, hb'⟩))
        go_ret
        exact ⟨rfl, hb'⟩
      · have z57 : decide ((R : Int) ≤ 57) = false := by rw [decide_eq_false_iff_not]; omega
        have k57 : ¬ (R : Int) ≤ 57 := by omega
        have k57' : (57 : Int) < (R : Int) := by omega
        have e46 : ((R : Int) == 46) = false := by rw [beq_eq_false_iff_ne]; omega
        have e36 : ((R : Int) == 36) = false := by rw [beq_eq_false_iff_ne]; omega
        by_cases h95 : R = 95
        · have e95 : ((R : Int) == 95) = true := by rw [beq_iff_eq]; omega
          have hb : (decide (48 ≤ R ∧ R ≤ 57) || decide (R = 95) || decide (R = 46) || decide (R = 36)) = true := by simp; omega
          rw [hb]
          clear hb h95
          go_enter Tryz.func68, Tryz.ntmps68
          go_wp2_with (first | (go_at_call 43; refine HD.out.mono ?_; rintro e w' ⟨rfl, hb'⟩))
          go_ret
          exact ⟨rfl, hb'⟩
        · have e95 : ((R : Int) == 95) = false := by rw [beq_eq_false_iff_ne]; omega
          have hb : (decide (48 ≤ R ∧ R ≤ 57) || decide (R = 95) || decide (R = 46) || decide (R = 36)) = false := by simp; omega
          rw [hb]
          clear hb h95
          go_enter Tryz.func68, Tryz.ntmps68
          go_wp2_with (first | (go_at_call 43; refine HD.out.mono ?_; rintro e w' ⟨rfl, hb'⟩))
          go_ret
          exact ⟨rfl, hb'⟩
    · have k48 : ¬ (48 : Int) ≤ (R : Int) := by omega
      have k48' : (R : Int) < 48 := by omega
      have z48 : decide ((48 : Int) ≤ (R : Int)) = false := by rw [decide_eq_false_iff_not]; omega
      have e95 : ((R : Int) == 95) = false := by rw [beq_eq_false_iff_ne]; omega
      by_cases h46 : R = 46
      · have e46 : ((R : Int) == 46) = true := by rw [beq_iff_eq]; omega
        have hb : (decide (48 ≤ R ∧ R ≤ 57) || decide (R = 95) || decide (R = 46) || decide (R = 36)) = true := by simp; omega
        rw [hb]
        clear hb h46
        go_enter Tryz.func68, Tryz.ntmps68
        go_wp2_with (first | (go_at_call 43; refine HD.out.mono ?_; rintro e w' ⟨rfl, hb'⟩))
        go_ret
        exact ⟨rfl, hb'⟩
      · have e46 : ((R : Int) == 46) = false := by rw [beq_eq_false_iff_ne]; omega
        by_cases h36 : R = 36
        · have e36 : ((R : Int) == 36) = true := by rw [beq_iff_eq]; omega
          have hb : (decide (48 ≤ R ∧ R ≤ 57) || decide (R = 95) || decide (R = 46) || decide (R = 36)) = true := by simp; omega
          rw [hb]
          clear hb h36
          go_enter Tryz.func68, Tryz.ntmps68
          go_wp2_with (first | (go_at_call 43; refine HD.out.mono ?_; rintro e w' ⟨rfl, hb'⟩))
          go_ret
          exact ⟨rfl, hb'⟩
        · have e36 : ((R : Int) == 36) = false := by rw [beq_eq_false_iff_ne]; omega
          have hb : (decide (48 ≤ R ∧ R ≤ 57) || decide (R = 95) || decide (R = 46) || decide (R = 36)) = false := by simp; omega
          rw [hb]
          clear hb h36 h46
          go_enter Tryz.func68, Tryz.ntmps68
          go_wp2_with (first | (go_at_call 43; refine HD.out.mono ?_; rintro e w' ⟨rfl, hb'⟩))
          go_ret
          exact ⟨rfl, hb'⟩
def mkN (c : Nat) : Bool := decide (c = 40 ∨ c = 41 ∨ c = 44 ∨ c = 58 ∨ c = 43 ∨ c = 45 ∨ c = 42 ∨ c = 47 ∨ c = 37 ∨ c = 38 ∨ c = 124 ∨ c = 94 ∨ c = 126)
/-- The mark at i; empty: none. -/
def markS (s : ByteArray) (i : Nat) : ByteArray :=
  if i + 1 < s.size ∧ (s.extract i (i + 2) = ⟨#[60, 60]⟩ ∨ s.extract i (i + 2) = ⟨#[62, 62]⟩) then s.extract i (i + 2) else if mkN (by_ s i) = true then s.extract i (i + 1) else ⟨#[]⟩
theorem dec_lit (d : ByteArray) (a b : UInt8) : (d.toList == [a, b]) = decide (d = ⟨#[a, b]⟩) := by
  rw [← beq_dec, show (⟨#[a, b]⟩ : ByteArray).toList = [a, b] by rw [ByteArray.toList_eq]]
set_option maxHeartbeats 8000000 in
set_option maxRecDepth 100000 in
theorem mark_c {i : Nat} {s : ByteArray} (hi : i < s.size) (hs : s.size ≤ 100000) (w : World) :
    Calls Tryz.prog 50 #[.string s, .int .i64 (i : Int)] w fun e w' => e = .returned (.string (markS s i)) ∧ w' = w := by
  have hbt := by_at s i hi
  unfold markS
  obtain ⟨c, hc⟩ : ∃ c, by_ s i = c := ⟨_, rfl⟩
  rw [hc] at hbt ⊢
  have hbz : ((s[i]'hi).toNat : Int) = (c : Int) := by rw [hbt]
  obtain ⟨i1, hi1⟩ : ∃ x, i + 1 = x := ⟨_, rfl⟩
  obtain ⟨i2, hi2⟩ : ∃ x, i + 2 = x := ⟨_, rfl⟩
  have w1 : IntKind.i64.wrap ((i : Int) + 1) = (i1 : Int) := by rw [IntKind.wrap_i64]; omega
  have w2 : IntKind.i64.wrap ((i : Int) + 2) = (i2 : Int) := by rw [IntKind.wrap_i64]; omega
  rw [hi1, hi2]
  have k0 : i ≤ i2 := by omega
  have k1 : i ≤ i1 := by omega
  have kk : i1 ≤ s.size := by omega
  have E0 := dec_lit (s.extract i i2) 60 60
  have E1 := dec_lit (s.extract i i2) 62 62
  have hcs : (c = 40 ∨ c = 41 ∨ c = 44 ∨ c = 58 ∨ c = 43 ∨ c = 45 ∨ c = 42 ∨ c = 47 ∨ c = 37 ∨ c = 38 ∨ c = 124 ∨ c = 94 ∨ c = 126) ∨ ((c : Int) == 40) = false ∧ ((c : Int) == 41) = false ∧ ((c : Int) == 44) = false ∧ ((c : Int) == 58) = false ∧ ((c : Int) == 43) = false ∧ ((c : Int) == 45) = false ∧ ((c : Int) == 42) = false ∧ ((c : Int) == 47) = false ∧ ((c : Int) == 37) = false ∧ ((c : Int) == 38) = false ∧ ((c : Int) == 124) = false ∧ ((c : Int) == 94) = false ∧ ((c : Int) == 126) = false ∧ mkN c = false := by
    simp only [beq_eq_false_iff_ne, mkN, decide_eq_false_iff_not]
    omega
  by_cases hA : i1 < s.size
  · have k2 : i2 ≤ s.size := by omega
    have hd : decide ((i1 : Int) < (s.size : Int)) = true := by rw [decide_eq_true_iff]; omega
    have hd' : (i1 : Int) < (s.size : Int) := by omega
    by_cases h0 : s.extract i i2 = ⟨#[60, 60]⟩
    · rw [if_pos ⟨hA, .inl h0⟩]
      rw [decide_eq_true h0] at E0
      clear hcs E1 h0 hi1 hi2 hbt hc hA
      go_enter Tryz.func50, Tryz.ntmps50
      go_wp2
      go_ret
      exact ⟨rfl, rfl⟩
    · rw [decide_eq_false h0] at E0
      by_cases h1 : s.extract i i2 = ⟨#[62, 62]⟩
      · rw [if_pos ⟨hA, .inr h1⟩]
        rw [decide_eq_true h1] at E1
        clear hcs h0 h1 hi1 hi2 hbt hc hA
        go_enter Tryz.func50, Tryz.ntmps50
        go_wp2
        go_ret
        exact ⟨rfl, rfl⟩
      · rw [decide_eq_false h1] at E1
        rw [if_neg (fun h => h.2.elim h0 h1)]
        clear h0 h1 hi1 hi2 hbt hc hA
        rcases hcs with (rfl | rfl | rfl | rfl | rfl | rfl | rfl | rfl | rfl | rfl | rfl | rfl | rfl) | ⟨e0, e1, e2, e3, e4, e5, e6, e7, e8, e9, e10, e11, e12, e13⟩
        all_goals first
          | (rw [if_pos (by decide)]
             go_enter Tryz.func50, Tryz.ntmps50
             go_wp2
             go_ret
             exact ⟨rfl, rfl⟩)
          | (rw [e13, if_neg (by decide)]
             go_enter Tryz.func50, Tryz.ntmps50
             go_wp2
             go_ret
             exact ⟨rfl, rfl⟩)
  · rw [if_neg (fun h => hA h.1)]
    have hd : decide ((i1 : Int) < (s.size : Int)) = false := by rw [decide_eq_false_iff_not]; omega
    have hd' : ¬ (i1 : Int) < (s.size : Int) := by omega
    clear E0 E1 hi1 hi2 hbt hc hA
    rcases hcs with (rfl | rfl | rfl | rfl | rfl | rfl | rfl | rfl | rfl | rfl | rfl | rfl | rfl) | ⟨e0, e1, e2, e3, e4, e5, e6, e7, e8, e9, e10, e11, e12, e13⟩
    all_goals first
      | (rw [if_pos (by decide)]
         go_enter Tryz.func50, Tryz.ntmps50
         go_wp2
         go_ret
         exact ⟨rfl, rfl⟩)
      | (rw [e13, if_neg (by decide)]
         go_enter Tryz.func50, Tryz.ntmps50
         go_wp2
         go_ret
         exact ⟨rfl, rfl⟩)
/-- Behind a call whose answer lies in a box: the result's box and the answer's. -/
structure TR (W w1 wA : World) (za : Array Value) (ta : TypeId) (cs : Array Value) (tc : TypeId) : Prop where
  a : wA.heap[W.heap.size]? = some (.cells za ta (0, 0))
  b : Below W.heap.size W wA
  c : wA.heap[w1.heap.size]? = some (.cells cs tc (0, 0))
  n : W.heap.size ≠ w1.heap.size
theorem TR.of {W w1 : World} {za : Array Value} {ta : TypeId} (h : Below (W.alloc (.cells za ta)).heap.size (W.alloc (.cells za ta)) w1) (cs : Array Value) (tc : TypeId) : TR W w1 (w1.alloc (.cells cs tc)) za ta cs tc := by
  have h0 := (Below.refl W.heap.size W).alloc (Nat.le_refl _) (.cells za ta)
  have hs : (W.alloc (.cells za ta)).heap.size = W.heap.size + 1 := by simp
  have h1 := h0.trans (h.mono h0.size)
  refine ⟨blk_alloc (blk_below (blk_new W (.cells za ta)) h) _, h1.alloc h1.size _, blk_new _ _, ?_⟩
  have := h.size
  omega
abbrev zTc : Array Value := #[.int .i64 0, .int .i64 0, .int .i64 0, .string ⟨#[]⟩, .string ⟨#[]⟩, .int .u64 0, .bool false]
end Go.Proofs.YtbmnifnahbehbaaGreatDoor

/- The document's char. -/
set_option linter.unusedVariables false
set_option linter.unusedSimpArgs false
namespace Go.Proofs.YtbmnifnahbehbaaGreatDoor
open Go.RowKit Go.Lib Go.Proofs.YtbmnifnahbehbaaGreatDoorW.PrintWords Go.Proofs.YtbmnifnahbehbaaGreatDoorW.PrintMore Go.Proofs.YtbmnifnahbehbaaGreatDoorW.PrintLast
open AvP
abbrev zT : Obj := .cells zTc 58
/-- What char and text answer. -/
def TokD (w : World) (r : Option DTk) (e : Ending) (w' : World) : Prop :=
  (match r with
  | some x => e = .returned (.tuple #[aggD x, .bool true])
  | none => e = .returned (.tuple #[aggD PLx.z58, .bool false])) ∧ Below w.heap.size w w'
/-- The character at i. -/
def charS (s : ByteArray) (i : Nat) : Option DTk :=
  match itemD s (i + 1) 39 with
  | none => none
  | some (b, v, n) => if n < s.size ∧ by_ s n = 39 then some ⟨4, (i : Int), ((n + 1 : Nat) : Int), ⟨#[]⟩, ⟨#[]⟩, v, false⟩ else none
theorem itemD_le {s : ByteArray} {i q : Nat} {b : ByteArray} {v : Int} {n : Nat} (h : itemD s i q = some (b, v, n)) : n ≤ s.size ∧ i < n ∧ b.size ≤ n - i := by
  unfold itemD at h
  split at h
  · rename_i hi
    have := itemS_lt s i _ hi h
    omega
  · cases h
set_option maxHeartbeats 8000000 in
set_option maxRecDepth 100000 in
theorem char0_c {w : World} {i i1 : Nat} {s : ByteArray} (w1 : IntKind.i64.wrap ((i : Int) + 1) = (i1 : Int)) (hI : Calls Tryz.prog 67 #[.string s, .int .i64 (i1 : Int), .int .u8 39] (w.alloc zT) fun e w' => (∃ v b n, e = .returned (.tuple #[.agg #[.int .u64 v, .string b, .int .i64 n], .bool false])) ∧ Below (w.alloc zT).heap.size (w.alloc zT) w') :
    Calls Tryz.prog 48 #[.string s, .int .i64 (i : Int)] w (TokD w none) := by
  have CE := Lib.hid hI
  clear hI
  go_enter Tryz.func48, Tryz.ntmps48
  go_upto_region 2 with (first | (go_at_call 67; refine CE.out.mono ?_; rintro e w1 ⟨⟨ev, eb, en, HE⟩, hb'⟩; subst HE; have HS0 := Lib.hid (TR.of hb' #[.int .u64 ev, .string eb, .int .i64 en] 160); clear hb'))
  obtain ⟨wA, hwA⟩ : ∃ q, w1.alloc (.cells #[.int .u64 ev, .string eb, .int .i64 en] 160) = q := ⟨_, rfl⟩
  rw [hwA] at HS0 ⊢
  have HS := HS0
  have b0 := blk_cell HS.out.a 0
  have b1 := blk_cell HS.out.a 1
  have b2 := blk_cell HS.out.a 2
  have b3 := blk_cell HS.out.a 3
  have b4 := blk_cell HS.out.a 4
  have b5 := blk_cell HS.out.a 5
  have b6 := blk_cell HS.out.a 6
  have z0 := blk_frozen HS.out.a 0
  have z1 := blk_frozen HS.out.a 1
  have z2 := blk_frozen HS.out.a 2
  have z3 := blk_frozen HS.out.a 3
  have z4 := blk_frozen HS.out.a 4
  have z5 := blk_frozen HS.out.a 5
  have z6 := blk_frozen HS.out.a 6
  have x0 := blk_cell HS.out.c 0
  have x1 := blk_cell HS.out.c 1
  have x2 := blk_cell HS.out.c 2
  clear hwA HS0
  go_wp2
  refine bodyPost_ret (results_ct rfl _ _ w.heap.size 58 zTc (0, 0) _ rfl (blk_put (blk_put (blk_put (blk_put (blk_put (blk_put (blk_put HS.out.a 0 _ rfl) 1 _ rfl) 2 _ rfl) 3 _ rfl) 4 _ rfl) 5 _ rfl) 6 _ rfl) Tryz.underlying58 rfl (by kernel_rfl)) rfl ?_
  exact ⟨rfl, (Below.setCell (Below.setCell (Below.setCell (Below.setCell (Below.setCell (Below.setCell (Below.setCell HS.out.b (p := ⟨w.heap.size, 0, none⟩) (Nat.le_refl _) _) (p := ⟨w.heap.size, 1, none⟩) (Nat.le_refl _) _) (p := ⟨w.heap.size, 2, none⟩) (Nat.le_refl _) _) (p := ⟨w.heap.size, 3, none⟩) (Nat.le_refl _) _) (p := ⟨w.heap.size, 4, none⟩) (Nat.le_refl _) _) (p := ⟨w.heap.size, 5, none⟩) (Nat.le_refl _) _) (p := ⟨w.heap.size, 6, none⟩) (Nat.le_refl _) _)⟩
set_option maxHeartbeats 8000000 in
set_option maxRecDepth 100000 in
theorem char1_c {w : World} {i i1 n : Nat} {s b : ByteArray} {v : Int} (w1 : IntKind.i64.wrap ((i : Int) + 1) = (i1 : Int)) (h : s.size ≤ n) (hI : Calls Tryz.prog 67 #[.string s, .int .i64 (i1 : Int), .int .u8 39] (w.alloc zT) fun e w' => e = .returned (.tuple #[.agg #[.int .u64 v, .string b, .int .i64 (n : Int)], .bool true]) ∧ Below (w.alloc zT).heap.size (w.alloc zT) w') :
    Calls Tryz.prog 48 #[.string s, .int .i64 (i : Int)] w (TokD w none) := by
  have CE := Lib.hid hI
  have hd : decide ((s.size : Int) ≤ (n : Int)) = true := decide_eq_true (by omega)
  have hd' : (s.size : Int) ≤ (n : Int) := by omega
  clear hI h
  go_enter Tryz.func48, Tryz.ntmps48
  go_upto_region 2 with (first | (go_at_call 67; refine CE.out.mono ?_; rintro e w1 ⟨HE, hb'⟩; subst HE; have HS0 := Lib.hid (TR.of hb' #[.int .u64 v, .string b, .int .i64 (n : Int)] 160); clear hb'))
  obtain ⟨wA, hwA⟩ : ∃ q, w1.alloc (.cells #[.int .u64 v, .string b, .int .i64 (n : Int)] 160) = q := ⟨_, rfl⟩
  rw [hwA] at HS0 ⊢
  have HS := HS0
  have b0 := blk_cell HS.out.a 0
  have b1 := blk_cell HS.out.a 1
  have b2 := blk_cell HS.out.a 2
  have b3 := blk_cell HS.out.a 3
  have b4 := blk_cell HS.out.a 4
  have b5 := blk_cell HS.out.a 5
  have b6 := blk_cell HS.out.a 6
  have z0 := blk_frozen HS.out.a 0
  have z1 := blk_frozen HS.out.a 1
  have z2 := blk_frozen HS.out.a 2
  have z3 := blk_frozen HS.out.a 3
  have z4 := blk_frozen HS.out.a 4
  have z5 := blk_frozen HS.out.a 5
  have z6 := blk_frozen HS.out.a 6
  have x0 := blk_cell HS.out.c 0
  have x1 := blk_cell HS.out.c 1
  have x2 := blk_cell HS.out.c 2
  clear hwA HS0
  go_wp2
  refine bodyPost_ret (results_ct rfl _ _ w.heap.size 58 zTc (0, 0) _ rfl (blk_put (blk_put (blk_put (blk_put (blk_put (blk_put (blk_put HS.out.a 0 _ rfl) 1 _ rfl) 2 _ rfl) 3 _ rfl) 4 _ rfl) 5 _ rfl) 6 _ rfl) Tryz.underlying58 rfl (by kernel_rfl)) rfl ?_
  exact ⟨rfl, (Below.setCell (Below.setCell (Below.setCell (Below.setCell (Below.setCell (Below.setCell (Below.setCell HS.out.b (p := ⟨w.heap.size, 0, none⟩) (Nat.le_refl _) _) (p := ⟨w.heap.size, 1, none⟩) (Nat.le_refl _) _) (p := ⟨w.heap.size, 2, none⟩) (Nat.le_refl _) _) (p := ⟨w.heap.size, 3, none⟩) (Nat.le_refl _) _) (p := ⟨w.heap.size, 4, none⟩) (Nat.le_refl _) _) (p := ⟨w.heap.size, 5, none⟩) (Nat.le_refl _) _) (p := ⟨w.heap.size, 6, none⟩) (Nat.le_refl _) _)⟩
set_option maxHeartbeats 8000000 in
set_option maxRecDepth 100000 in
theorem char2_c {w : World} {i i1 n : Nat} {s b : ByteArray} {v : Int} (w1 : IntKind.i64.wrap ((i : Int) + 1) = (i1 : Int)) (h : n < s.size) (hc : by_ s n ≠ 39) (hI : Calls Tryz.prog 67 #[.string s, .int .i64 (i1 : Int), .int .u8 39] (w.alloc zT) fun e w' => e = .returned (.tuple #[.agg #[.int .u64 v, .string b, .int .i64 (n : Int)], .bool true]) ∧ Below (w.alloc zT).heap.size (w.alloc zT) w') :
    Calls Tryz.prog 48 #[.string s, .int .i64 (i : Int)] w (TokD w none) := by
  have CE := Lib.hid hI
  have hd : decide ((s.size : Int) ≤ (n : Int)) = false := decide_eq_false (by omega)
  have hd' : ¬ (s.size : Int) ≤ (n : Int) := by omega
  have hbt := by_at s n h
  obtain ⟨c, hc'⟩ : ∃ c, by_ s n = c := ⟨_, rfl⟩
  rw [hc'] at hbt hc
  have hbz : ((s[n]'h).toNat : Int) = (c : Int) := by rw [hbt]
  have e1 : ((c : Int) != 39) = true := by rw [bne_iff_ne]; omega
  clear hbt hc'
  clear hI hc
  go_enter Tryz.func48, Tryz.ntmps48
  go_upto_region 2 with (first | (go_at_call 67; refine CE.out.mono ?_; rintro e w1 ⟨HE, hb'⟩; subst HE; have HS0 := Lib.hid (TR.of hb' #[.int .u64 v, .string b, .int .i64 (n : Int)] 160); clear hb'))
  obtain ⟨wA, hwA⟩ : ∃ q, w1.alloc (.cells #[.int .u64 v, .string b, .int .i64 (n : Int)] 160) = q := ⟨_, rfl⟩
  rw [hwA] at HS0 ⊢
  have HS := HS0
  have b0 := blk_cell HS.out.a 0
  have b1 := blk_cell HS.out.a 1
  have b2 := blk_cell HS.out.a 2
  have b3 := blk_cell HS.out.a 3
  have b4 := blk_cell HS.out.a 4
  have b5 := blk_cell HS.out.a 5
  have b6 := blk_cell HS.out.a 6
  have z0 := blk_frozen HS.out.a 0
  have z1 := blk_frozen HS.out.a 1
  have z2 := blk_frozen HS.out.a 2
  have z3 := blk_frozen HS.out.a 3
  have z4 := blk_frozen HS.out.a 4
  have z5 := blk_frozen HS.out.a 5
  have z6 := blk_frozen HS.out.a 6
  have x0 := blk_cell HS.out.c 0
  have x1 := blk_cell HS.out.c 1
  have x2 := blk_cell HS.out.c 2
  clear hwA HS0
  go_wp2
  refine bodyPost_ret (results_ct rfl _ _ w.heap.size 58 zTc (0, 0) _ rfl (blk_put (blk_put (blk_put (blk_put (blk_put (blk_put (blk_put HS.out.a 0 _ rfl) 1 _ rfl) 2 _ rfl) 3 _ rfl) 4 _ rfl) 5 _ rfl) 6 _ rfl) Tryz.underlying58 rfl (by kernel_rfl)) rfl ?_
  exact ⟨rfl, (Below.setCell (Below.setCell (Below.setCell (Below.setCell (Below.setCell (Below.setCell (Below.setCell HS.out.b (p := ⟨w.heap.size, 0, none⟩) (Nat.le_refl _) _) (p := ⟨w.heap.size, 1, none⟩) (Nat.le_refl _) _) (p := ⟨w.heap.size, 2, none⟩) (Nat.le_refl _) _) (p := ⟨w.heap.size, 3, none⟩) (Nat.le_refl _) _) (p := ⟨w.heap.size, 4, none⟩) (Nat.le_refl _) _) (p := ⟨w.heap.size, 5, none⟩) (Nat.le_refl _) _) (p := ⟨w.heap.size, 6, none⟩) (Nat.le_refl _) _)⟩
set_option maxHeartbeats 8000000 in
set_option maxRecDepth 100000 in
theorem char3_c {w : World} {i i1 n : Nat} {s b : ByteArray} {v : Int} (w1 : IntKind.i64.wrap ((i : Int) + 1) = (i1 : Int)) (h : n < s.size) (hs : s.size ≤ 100000) (hc : by_ s n = 39) (hI : Calls Tryz.prog 67 #[.string s, .int .i64 (i1 : Int), .int .u8 39] (w.alloc zT) fun e w' => e = .returned (.tuple #[.agg #[.int .u64 v, .string b, .int .i64 (n : Int)], .bool true]) ∧ Below (w.alloc zT).heap.size (w.alloc zT) w') :
    Calls Tryz.prog 48 #[.string s, .int .i64 (i : Int)] w (TokD w (some ⟨4, (i : Int), ((n + 1 : Nat) : Int), ⟨#[]⟩, ⟨#[]⟩, v, false⟩)) := by
  have CE := Lib.hid hI
  have hd : decide ((s.size : Int) ≤ (n : Int)) = false := decide_eq_false (by omega)
  have hd' : ¬ (s.size : Int) ≤ (n : Int) := by omega
  have hbt := by_at s n h
  rw [hc] at hbt
  have hbz : ((s[n]'h).toNat : Int) = 39 := by rw [hbt]; rfl
  obtain ⟨n1, hn1⟩ : ∃ x, n + 1 = x := ⟨_, rfl⟩
  have w2 : IntKind.i64.wrap ((n : Int) + 1) = (n1 : Int) := by rw [IntKind.wrap_i64]; omega
  rw [hn1]
  clear hbt hn1
  clear hI hc hs
  go_enter Tryz.func48, Tryz.ntmps48
  go_upto_region 2 with (first | (go_at_call 67; refine CE.out.mono ?_; rintro e w1 ⟨HE, hb'⟩; subst HE; have HS0 := Lib.hid (TR.of hb' #[.int .u64 v, .string b, .int .i64 (n : Int)] 160); clear hb'))
  obtain ⟨wA, hwA⟩ : ∃ q, w1.alloc (.cells #[.int .u64 v, .string b, .int .i64 (n : Int)] 160) = q := ⟨_, rfl⟩
  rw [hwA] at HS0 ⊢
  have HS := HS0
  have b0 := blk_cell HS.out.a 0
  have b1 := blk_cell HS.out.a 1
  have b2 := blk_cell HS.out.a 2
  have b3 := blk_cell HS.out.a 3
  have b4 := blk_cell HS.out.a 4
  have b5 := blk_cell HS.out.a 5
  have b6 := blk_cell HS.out.a 6
  have z0 := blk_frozen HS.out.a 0
  have z1 := blk_frozen HS.out.a 1
  have z2 := blk_frozen HS.out.a 2
  have z3 := blk_frozen HS.out.a 3
  have z4 := blk_frozen HS.out.a 4
  have z5 := blk_frozen HS.out.a 5
  have z6 := blk_frozen HS.out.a 6
  have x0 := blk_cell HS.out.c 0
  have x1 := blk_cell HS.out.c 1
  have x2 := blk_cell HS.out.c 2
  clear hwA HS0
  go_wp2
  refine bodyPost_ret (results_ct rfl _ _ w.heap.size 58 #[.int .i64 4, .int .i64 i, .int .i64 n1, .string ⟨#[]⟩, .string ⟨#[]⟩, .int .u64 v, .bool false] (0, 0) _ rfl (blk_put (blk_put (blk_put (blk_put (blk_put (blk_put (blk_put HS.out.a 0 _ rfl) 1 _ rfl) 2 _ rfl) 3 _ rfl) 4 _ rfl) 5 _ rfl) 6 _ rfl) Tryz.underlying58 rfl (by kernel_rfl)) rfl ?_
  exact ⟨rfl, (Below.setCell (Below.setCell (Below.setCell (Below.setCell (Below.setCell (Below.setCell (Below.setCell HS.out.b (p := ⟨w.heap.size, 0, none⟩) (Nat.le_refl _) _) (p := ⟨w.heap.size, 1, none⟩) (Nat.le_refl _) _) (p := ⟨w.heap.size, 2, none⟩) (Nat.le_refl _) _) (p := ⟨w.heap.size, 3, none⟩) (Nat.le_refl _) _) (p := ⟨w.heap.size, 4, none⟩) (Nat.le_refl _) _) (p := ⟨w.heap.size, 5, none⟩) (Nat.le_refl _) _) (p := ⟨w.heap.size, 6, none⟩) (Nat.le_refl _) _)⟩
theorem char_c {w : World} {i : Nat} {s : ByteArray} (hG : Glob w) (hs : s.size ≤ 100000) (hi : i < s.size) :
    Calls Tryz.prog 48 #[.string s, .int .i64 (i : Int)] w (TokD w (charS s i)) := by
  have w1 : IntKind.i64.wrap ((i : Int) + 1) = ((i + 1 : Nat) : Int) := by rw [IntKind.wrap_i64]; omega
  unfold charS
  have hI := item67_c (w := w.alloc zT) (i := i + 1) (Glob.step hG ((Below.refl _ w).alloc (Nat.le_refl _) _)) hs (.inl rfl : (39 : Nat) = 39 ∨ 39 = 34)
  cases hr : itemD s (i + 1) 39 with
  | none =>
    rw [hr] at hI
    exact char0_c w1 hI
  | some r =>
    obtain ⟨b, v, n⟩ := r
    rw [hr] at hI
    dsimp only
    by_cases h : n < s.size
    · by_cases hc : by_ s n = 39
      · rw [if_pos ⟨h, hc⟩]
        exact char3_c w1 h hs hc hI
      · rw [if_neg (fun h => hc h.2)]
        exact char2_c w1 h hc hI
    · rw [if_neg (fun x => h x.1)]
      exact char1_c w1 (by omega) hI
end Go.Proofs.YtbmnifnahbehbaaGreatDoor

/- The document's text. -/
set_option linter.unusedVariables false
set_option linter.unusedSimpArgs false
namespace Go.Proofs.YtbmnifnahbehbaaGreatDoor
open Go.RowKit Go.Lib Go.Proofs.YtbmnifnahbehbaaGreatDoorW.PrintWords Go.Proofs.YtbmnifnahbehbaaGreatDoorW.PrintMore Go.Proofs.YtbmnifnahbehbaaGreatDoorW.PrintLast
open AvP
/-- The text at i. -/
def textS (s : ByteArray) (i : Nat) : Option DTk :=
  match quotedS s i 34 with
  | none => none
  | some t => some ⟨5, t.a, t.e, t.t, ⟨#[]⟩, 0, false⟩
/-- The result's box beside what is made. -/
structure TB (w wx : World) : Prop where
  b : Below w.heap.size w wx
  t : wx.heap[w.heap.size]? = some (.cells zTc 58 (0, 0))
theorem TB.of (w : World) : TB w (w.alloc zT) := ⟨(Below.refl _ w).alloc (Nat.le_refl _) _, blk_new w _⟩
theorem TB.below {w wx wy : World} (h : TB w wx) (hb : Below wx.heap.size wx wy) : TB w wy := ⟨h.b.trans (hb.mono h.b.size), blk_below h.t hb⟩
theorem TB.box {w wx w5 : World} (h : TB w wx) (hb : Below wx.heap.size wx w5) (cs : Array Value) (tc : TypeId) : TB w (w5.alloc (.cells cs tc)) ∧ (w5.alloc (.cells cs tc)).heap[w5.heap.size]? = some (.cells cs tc (0, 0)) :=
  ⟨h.below (hb.alloc hb.size _), blk_new _ _⟩
set_option maxHeartbeats 8000000 in
set_option maxRecDepth 100000 in
theorem text_c {w : World} {i : Nat} {s : ByteArray} (hG : Glob w) (hs : s.size ≤ 100000) (hi : i < s.size) :
    Calls Tryz.prog 49 #[.string s, .int .i64 (i : Int)] w (TokD w (textS s i)) := by
  obtain ⟨R, hR⟩ : ∃ R, textS s i = R := ⟨_, rfl⟩
  rw [hR]
  have HR := Lib.hid hR
  have w1 : IntKind.i64.wrap ((i : Int) + 1) = ((i + 1 : Nat) : Int) := by rw [IntKind.wrap_i64]; omega
  obtain ⟨i1, hi1⟩ : ∃ i1, i + 1 = i1 := ⟨_, rfl⟩
  rw [hi1] at w1
  have HI1 := Lib.hid (And.intro hi1 (show i1 ≤ s.size by omega))
  have H := Lib.hid (TB.of w)
  have HH := Lib.hid (And.intro hG (And.intro hi hs))
  obtain ⟨ANS, hANS⟩ : ∃ A, qLoop s 34 (s.size + 1) i1 0 0 ⟨#[]⟩ = A := ⟨_, rfl⟩
  have HAN := Lib.hid hANS
  clear hANS hi1 hR hG hs hi
  go_enter Tryz.func49, Tryz.ntmps49
  go_wp2
  go_loopg [6, 7] (s.size + 1) (fun gm v6 v7 wx => ∃ (a k : Nat) (v : Int) (x : ByteArray), .string x = v6 ∧ .int .i64 (a : Int) = v7 ∧ a ≤ s.size ∧ x.size ≤ a ∧ Hid (s.size + 1 ≤ gm + a) ∧ Hid (TB w wx) ∧ Hid (qLoop s 34 gm a k v x = ANS))
  case atStart => exact ⟨i1, 0, 0, ⟨#[]⟩, rfl, rfl, HI1.out.2, Nat.zero_le _, Lib.hid (by omega), H, HAN⟩
  case round =>
    obtain ⟨a, k, v, x, rfl, rfl, ha, hxs, HI, HX, HQ⟩ := hrel
    obtain ⟨gm, rfl⟩ : ∃ z, gk = z + 1 := ⟨gk - 1, by have := HI.out; omega⟩
    have hQ := HQ.out
    rw [qLoop] at hQ
    by_cases has : a < s.size ∧ by_ s a ≠ 34
    · rw [if_pos has] at hQ
      obtain ⟨has1, has2⟩ := has
      have hbt := by_at s a has1
      have hbz : ((s[a]'has1).toNat : Int) = ((by_ s a : Nat) : Int) := by rw [hbt]
      obtain ⟨c, hc⟩ : ∃ c, by_ s a = c := ⟨_, rfl⟩
      rw [hc] at hbz has2
      have q1 : ((c : Int) != 34) = true := by rw [bne_iff_ne]; omega
      have q2 : (a : Int) < (s.size : Int) := by omega
      have hitem := item67_c (w := wr) (i := a) (Glob.step HH.out.1 HX.out.b) HH.out.2.2 (.inr rfl : (34 : Nat) = 39 ∨ 34 = 34)
      unfold itemD at hitem
      rw [if_pos has1] at hitem
      clear hc hbt has2
      cases hIt : itemS s a ((34 : Nat) : Int) with
      | none =>
        rw [hIt] at hitem hQ
        have hA : ANS = none := hQ.symm
        have CE := Lib.hid (show Calls Tryz.prog 67 #[.string s, .int .i64 (a : Int), .int .u8 34] wr fun e w' => (∃ v b n, e = .returned (.tuple #[.agg #[.int .u64 v, .string b, .int .i64 n], .bool false])) ∧ Below wr.heap.size wr w' from hitem)
        have HA := Lib.hid hA
        clear hitem hQ hIt hA
        go_upto_region 5 with (first | (go_at_call 67; refine CE.out.mono ?_; rintro E w5 ⟨⟨ev, eb, en, HE⟩, hb'⟩; subst HE; have HS := Lib.hid (HX.out.box hb' #[.int .u64 ev, .string eb, .int .i64 en] 160); clear hb'))
        obtain ⟨wA, hwA⟩ : ∃ q, w5.alloc (.cells #[.int .u64 ev, .string eb, .int .i64 en] 160) = q := ⟨_, rfl⟩
        rw [hwA] at HS ⊢
        have b0 := blk_cell HS.out.1.t 0
        have b1 := blk_cell HS.out.1.t 1
        have b2 := blk_cell HS.out.1.t 2
        have b3 := blk_cell HS.out.1.t 3
        have b4 := blk_cell HS.out.1.t 4
        have b5 := blk_cell HS.out.1.t 5
        have b6 := blk_cell HS.out.1.t 6
        have z0 := blk_frozen HS.out.1.t 0
        have z1 := blk_frozen HS.out.1.t 1
        have z2 := blk_frozen HS.out.1.t 2
        have z3 := blk_frozen HS.out.1.t 3
        have z4 := blk_frozen HS.out.1.t 4
        have z5 := blk_frozen HS.out.1.t 5
        have z6 := blk_frozen HS.out.1.t 6
        clear hwA
        go_wp2
        have hR : R = none := by
          rw [← HR.out]
          unfold textS quotedS
          rw [HI1.out.1, HAN.out, HA.out]
        rw [hR]
        refine bodyPost_ret (results_ct rfl _ _ w.heap.size 58 zTc (0, 0) _ rfl (blk_put (blk_put (blk_put (blk_put (blk_put (blk_put (blk_put HS.out.1.t 0 _ rfl) 1 _ rfl) 2 _ rfl) 3 _ rfl) 4 _ rfl) 5 _ rfl) 6 _ rfl) Tryz.underlying58 rfl (by kernel_rfl)) rfl ?_
        exact ⟨rfl, (Below.setCell (Below.setCell (Below.setCell (Below.setCell (Below.setCell (Below.setCell (Below.setCell HS.out.1.b (p := ⟨w.heap.size, 0, none⟩) (Nat.le_refl _) _) (p := ⟨w.heap.size, 1, none⟩) (Nat.le_refl _) _) (p := ⟨w.heap.size, 2, none⟩) (Nat.le_refl _) _) (p := ⟨w.heap.size, 3, none⟩) (Nat.le_refl _) _) (p := ⟨w.heap.size, 4, none⟩) (Nat.le_refl _) _) (p := ⟨w.heap.size, 5, none⟩) (Nat.le_refl _) _) (p := ⟨w.heap.size, 6, none⟩) (Nat.le_refl _) _)⟩
      | some r =>
        obtain ⟨b, v', n⟩ := r
        rw [hIt] at hitem hQ
        dsimp only at hQ
        obtain ⟨hn1, hn2, hn3⟩ := itemS_lt s a _ has1 hIt
        have CE := Lib.hid (show Calls Tryz.prog 67 #[.string s, .int .i64 (a : Int), .int .u8 34] wr fun e w' => e = .returned (.tuple #[.agg #[.int .u64 v', .string b, .int .i64 (n : Int)], .bool true]) ∧ Below wr.heap.size wr w' from hitem)
        have HQ2 := Lib.hid hQ
        have y1 : (9223372036854775807 < x.size + b.size) = False := eq_false (by have := HH.out.2.2; omega)
        have z1 := eq_true (show x.size + b.size ≤ 9223372036854775807 by have := HH.out.2.2; omega)
        clear hitem hQ hIt
        go_upto_region 5 with (first | (go_at_call 67; refine CE.out.mono ?_; rintro E w5 ⟨HE, hb'⟩; subst HE; have HS := Lib.hid (HX.out.box hb' #[.int .u64 v', .string b, .int .i64 (n : Int)] 160); clear hb'))
        obtain ⟨wA, hwA⟩ : ∃ q, w5.alloc (.cells #[.int .u64 v', .string b, .int .i64 (n : Int)] 160) = q := ⟨_, rfl⟩
        rw [hwA] at HS ⊢
        have x0 := blk_cell HS.out.2 0
        have x1 := blk_cell HS.out.2 1
        have x2 := blk_cell HS.out.2 2
        clear hwA
        go_wp2
        go_roundg gm
        case measure => omega
        case rel => exact ⟨n, k + 1, v', x ++ b, rfl, rfl, hn2, by rw [ByteArray.size_append]; omega, Lib.hid (by have := HI.out; omega), Lib.hid HS.out.1, HQ2⟩
    · rw [if_neg has] at hQ
      have hQ2 : ANS = some (a, k, v, x) := by
        rw [← hQ]
      have hRR : R = if s.size ≤ a then none else some ⟨5, (i : Int), ((a + 1 : Nat) : Int), x, ⟨#[]⟩, 0, false⟩ := by
        rw [← HR.out]
        unfold textS quotedS
        rw [HI1.out.1, HAN.out, hQ2]
        dsimp only
        by_cases h : s.size ≤ a
        · rw [if_pos (.inl h), if_pos h]
        · rw [if_neg (by omega), if_neg h]
      clear hQ hQ2
      have b0 := blk_cell HX.out.t 0
      have b1 := blk_cell HX.out.t 1
      have b2 := blk_cell HX.out.t 2
      have b3 := blk_cell HX.out.t 3
      have b4 := blk_cell HX.out.t 4
      have b5 := blk_cell HX.out.t 5
      have b6 := blk_cell HX.out.t 6
      have z0 := blk_frozen HX.out.t 0
      have z1 := blk_frozen HX.out.t 1
      have z2 := blk_frozen HX.out.t 2
      have z3 := blk_frozen HX.out.t 3
      have z4 := blk_frozen HX.out.t 4
      have z5 := blk_frozen HX.out.t 5
      have z6 := blk_frozen HX.out.t 6
      by_cases hge : s.size ≤ a
      · rw [if_pos hge] at hRR
        have HRR := Lib.hid hRR
        have q2 : ((a : Int) < (s.size : Int)) = False := eq_false (by omega)
        have q3 : (a < s.size) = False := eq_false (by omega)
        have q4 : (s.size ≤ a) = True := eq_true hge
        have q5 : ((s.size : Int) ≤ (a : Int)) = True := eq_true (by omega)
        clear has hge hRR
        go_wp2
        rw [HRR.out]
        refine bodyPost_ret (results_ct rfl _ _ w.heap.size 58 zTc (0, 0) _ rfl (blk_put (blk_put (blk_put (blk_put (blk_put (blk_put (blk_put HX.out.t 0 _ rfl) 1 _ rfl) 2 _ rfl) 3 _ rfl) 4 _ rfl) 5 _ rfl) 6 _ rfl) Tryz.underlying58 rfl (by kernel_rfl)) rfl ?_
        exact ⟨rfl, (Below.setCell (Below.setCell (Below.setCell (Below.setCell (Below.setCell (Below.setCell (Below.setCell HX.out.b (p := ⟨w.heap.size, 0, none⟩) (Nat.le_refl _) _) (p := ⟨w.heap.size, 1, none⟩) (Nat.le_refl _) _) (p := ⟨w.heap.size, 2, none⟩) (Nat.le_refl _) _) (p := ⟨w.heap.size, 3, none⟩) (Nat.le_refl _) _) (p := ⟨w.heap.size, 4, none⟩) (Nat.le_refl _) _) (p := ⟨w.heap.size, 5, none⟩) (Nat.le_refl _) _) (p := ⟨w.heap.size, 6, none⟩) (Nat.le_refl _) _)⟩
      · rw [if_neg hge] at hRR
        have ha2 : a < s.size := by omega
        have hc : by_ s a = 34 := Classical.byContradiction (fun h => has ⟨ha2, h⟩)
        have hbt := by_at s a ha2
        have hbz : ((s[a]'ha2).toNat : Int) = 34 := by rw [hbt, hc]; rfl
        have q2 : (a : Int) < (s.size : Int) := by omega
        have w9 : IntKind.i64.wrap ((a : Int) + 1) = ((a + 1 : Nat) : Int) := by rw [IntKind.wrap_i64]; have := HH.out.2.2; omega
        obtain ⟨a1, ha1⟩ : ∃ a1, a + 1 = a1 := ⟨_, rfl⟩
        rw [ha1] at w9 hRR
        have HRR := Lib.hid hRR
        clear has hge hRR hc hbt ha1
        go_wp2
        rw [HRR.out]
        refine bodyPost_ret (results_ct rfl _ _ w.heap.size 58 #[.int .i64 5, .int .i64 i, .int .i64 a1, .string x, .string ⟨#[]⟩, .int .u64 0, .bool false] (0, 0) _ rfl (blk_put (blk_put (blk_put (blk_put (blk_put (blk_put (blk_put HX.out.t 0 _ rfl) 1 _ rfl) 2 _ rfl) 3 _ rfl) 4 _ rfl) 5 _ rfl) 6 _ rfl) Tryz.underlying58 rfl (by kernel_rfl)) rfl ?_
        exact ⟨rfl, (Below.setCell (Below.setCell (Below.setCell (Below.setCell (Below.setCell (Below.setCell (Below.setCell HX.out.b (p := ⟨w.heap.size, 0, none⟩) (Nat.le_refl _) _) (p := ⟨w.heap.size, 1, none⟩) (Nat.le_refl _) _) (p := ⟨w.heap.size, 2, none⟩) (Nat.le_refl _) _) (p := ⟨w.heap.size, 3, none⟩) (Nat.le_refl _) _) (p := ⟨w.heap.size, 4, none⟩) (Nat.le_refl _) _) (p := ⟨w.heap.size, 5, none⟩) (Nat.le_refl _) _) (p := ⟨w.heap.size, 6, none⟩) (Nat.le_refl _) _)⟩
end Go.Proofs.YtbmnifnahbehbaaGreatDoor

/- The document's name. -/
set_option linter.unusedVariables false
set_option linter.unusedSimpArgs false
namespace Go.Proofs.YtbmnifnahbehbaaGreatDoor
open Go.RowKit Go.Lib Go.Proofs.YtbmnifnahbehbaaGreatDoorW.PrintWords Go.Proofs.YtbmnifnahbehbaaGreatDoorW.PrintMore Go.Proofs.YtbmnifnahbehbaaGreatDoorW.PrintLast
open AvP
theorem gos_next (R : Nat) : okR false R = gosB R := by
  unfold okR gosB
  cases isLetterU (R : Int)
  · rw [Bool.eq_iff_iff]
    simp only [Bool.or_eq_true, Bool.and_eq_true, decide_eq_true_iff, Bool.not_false, Bool.false_or, Bool.true_and]
    omega
  · rfl
theorem isL_dig : ∀ d : Nat, d < 10 → isLetterU ((48 + d : Nat) : Int) = false := by decide +kernel
theorem isL_36x : isLetterU ((36 : Nat) : Int) = false := by decide +kernel
theorem gos_dig (R : Nat) (h : 48 ≤ R ∧ R ≤ 57 ∨ R = 36) : okR true R = false := by
  have hl : isLetterU (R : Int) = false := by
    rcases h with h | rfl
    · obtain ⟨d, rfl⟩ : ∃ d, R = 48 + d := ⟨R - 48, by omega⟩
      exact isL_dig d (by omega)
    · exact isL_36x
  unfold okR
  rw [hl]
  simp
  omega
theorem gos_first (R : Nat) (h : ¬ (48 ≤ R ∧ R ≤ 57)) (h2 : R ≠ 36) : okR true R = gosB R := by
  unfold okR gosB
  cases isLetterU (R : Int)
  · rw [Bool.eq_iff_iff]
    simp only [Bool.or_eq_true, Bool.and_eq_true, decide_eq_true_iff, Bool.not_true, Bool.false_or, Bool.false_and]
    simp
    omega
  · rfl
theorem gos_65533 : gosB 65533 = false := by
  unfold gosB
  rw [isL_65533]
  rfl
theorem gos_no {R : Nat} (h : gosB R = false) (b : Bool) : okR b R = false := by
  cases b
  · rw [gos_next, h]
  · by_cases h1 : 48 ≤ R ∧ R ≤ 57 ∨ R = 36
    · exact gos_dig R h1
    · rw [gos_first R (fun x => h1 (.inl x)) (fun x => h1 (.inr x)), h]
set_option maxHeartbeats 8000000 in
set_option maxRecDepth 100000 in
theorem nameD_c {w : World} {i : Nat} {s : ByteArray} (hG : Glob w) (hs : s.size ≤ 100000) (hi : i < s.size) :
    Calls Tryz.prog 51 #[.string s, .int .i64 (i : Int)] w fun e w' => e = .returned (.tuple #[aggD ⟨1, (i : Int), ((nameGo s i (s.size + 1) i 0).1 : Int), s.extract i (nameGo s i (s.size + 1) i 0).1, ⟨#[]⟩, 0, false⟩, .int .i64 ((nameGo s i (s.size + 1) i 0).2 : Int)]) ∧ Below w.heap.size w w' := by
  obtain ⟨E, hE⟩ : ∃ E, nameGo s i (s.size + 1) i 0 = E := ⟨_, rfl⟩
  rw [hE]
  have HEE := Lib.hid hE
  have H := Lib.hid (TB.of w)
  have HH := Lib.hid (And.intro hG (And.intro (Nat.le_of_lt hi) hs))
  clear hE hG hs hi
  go_enter Tryz.func51, Tryz.ntmps51
  go_wp2
  go_loopg [6, 7] (s.size + 1) (fun gm v6 v7 wx => ∃ j r : Nat, .int .i64 (j : Int) = v6 ∧ .int .i64 (r : Int) = v7 ∧ j ≤ s.size ∧ i ≤ j ∧ r ≤ j ∧ Hid (r = 0 ↔ j = i) ∧ Hid (s.size + 1 ≤ gm + j) ∧ Hid (TB w wx) ∧ Hid (nameGo s i gm j r = E))
  case atStart => exact ⟨i, 0, rfl, rfl, HH.out.2.1, Nat.le_refl _, Nat.zero_le _, Lib.hid (by simp), Lib.hid (by omega), H, HEE⟩
  case round =>
    obtain ⟨j, r, rfl, rfl, hj, hij, hrj, HR0, HI, HX, HN⟩ := hrel
    obtain ⟨gm, rfl⟩ : ∃ z, gk = z + 1 := ⟨gk - 1, by have := HI.out; omega⟩
    have hN := HN.out
    rw [nameGo] at hN
    by_cases hjs : j < s.size
    · rw [if_pos hjs] at hN
      have q2 : (j : Int) < (s.size : Int) := by omega
      obtain ⟨RR, hRR⟩ : ∃ x, (Utf8.decode s j).1 = x := ⟨_, rfl⟩
      obtain ⟨K, hK⟩ : ∃ x, (Utf8.decode s j).2 = x := ⟨_, rfl⟩
      obtain ⟨hK1, hK2⟩ := dec_w s j hjs
      have hRle : RR ≤ 2147483647 := by rw [← hRR]; exact decode_le _ _
      have hD := dec_c (s.extract j s.size) wr (Glob.step HH.out.1 HX.out.b)
      rw [dec_go s j hjs, hRR, hK] at hD
      have hgo : goesR s i j = (!(decide (RR = 65533) && decide (K = 1)) && okR (decide (j = i)) RR) := by unfold goesR; rw [hRR, hK]
      rw [hgo, hK] at hN
      rw [hK] at hK1 hK2
      have HD := Lib.hid hD
      have HK := Lib.hid (And.intro hK1 hK2)
      have hGS : ∀ W', Below wr.heap.size wr W' → Calls Tryz.prog 68 #[.int .i32 (RR : Int)] W' fun e w' => e = .returned (.bool (gosB RR)) ∧ Below W'.heap.size W' w' := fun W' hb => goes_c RR hRle W' (Glob.step HH.out.1 (HX.out.below hb).b)
      clear hRR hK hgo hD hRle hK1 hK2
      have hcs : (RR = 65533 ∧ K = 1) ∨ (RR = 65533 ∧ K ≠ 1) ∨ (RR ≠ 65533) := by omega
      rcases hcs with ⟨h1, h2⟩ | ⟨h1, h2⟩ | h1
      · have a65 : ((RR : Int) == 65533) = true := by rw [beq_iff_eq]; omega
        have aK : (K : Int) < 2 := by omega
        have zK : decide ((K : Int) < 2) = true := decide_eq_true aK
        have hb1 : (decide (RR = 65533) && decide (K = 1)) = true := by rw [decide_eq_true h1, decide_eq_true h2]; rfl
        rw [hb1, Bool.not_true, Bool.false_and, if_neg (by decide)] at hN
        clear hb1 h1 h2 hGS
        have hE := hN.symm
        clear hN
        go_upto_region 9 with (first
          | (go_at_call 42; refine HD.out.mono ?_; rintro e5 w5 ⟨rfl, hb5⟩; have HX5 := Lib.hid (HX.out.below hb5); clear hb5))
        have HX2 := HX5
        have kji : i ≤ j := hij
        have kjs : j ≤ s.size := hj
        have b0 := blk_cell HX2.out.t 0
        have b1 := blk_cell HX2.out.t 1
        have b2 := blk_cell HX2.out.t 2
        have b3 := blk_cell HX2.out.t 3
        have b4 := blk_cell HX2.out.t 4
        have b5 := blk_cell HX2.out.t 5
        have b6 := blk_cell HX2.out.t 6
        have z0 := blk_frozen HX2.out.t 0
        have z1 := blk_frozen HX2.out.t 1
        have z2 := blk_frozen HX2.out.t 2
        have z3 := blk_frozen HX2.out.t 3
        have z4 := blk_frozen HX2.out.t 4
        have z5 := blk_frozen HX2.out.t 5
        have z6 := blk_frozen HX2.out.t 6
        go_wp2
        rw [hE]
        refine bodyPost_ret (results_ct rfl _ _ w.heap.size 58 #[.int .i64 1, .int .i64 i, .int .i64 j, .string (s.extract i j), .string ⟨#[]⟩, .int .u64 0, .bool false] (0, 0) _ rfl (blk_put (blk_put (blk_put (blk_put (blk_put (blk_put (blk_put HX2.out.t 0 _ rfl) 1 _ rfl) 2 _ rfl) 3 _ rfl) 4 _ rfl) 5 _ rfl) 6 _ rfl) Tryz.underlying58 rfl (by kernel_rfl)) rfl ?_
        exact ⟨rfl, (Below.setCell (Below.setCell (Below.setCell (Below.setCell (Below.setCell (Below.setCell (Below.setCell HX2.out.b (p := ⟨w.heap.size, 0, none⟩) (Nat.le_refl _) _) (p := ⟨w.heap.size, 1, none⟩) (Nat.le_refl _) _) (p := ⟨w.heap.size, 2, none⟩) (Nat.le_refl _) _) (p := ⟨w.heap.size, 3, none⟩) (Nat.le_refl _) _) (p := ⟨w.heap.size, 4, none⟩) (Nat.le_refl _) _) (p := ⟨w.heap.size, 5, none⟩) (Nat.le_refl _) _) (p := ⟨w.heap.size, 6, none⟩) (Nat.le_refl _) _)⟩
      · have a65 : ((RR : Int) == 65533) = true := by rw [beq_iff_eq]; omega
        have aK : ¬ (K : Int) < 2 := by have := HK.out.1; omega
        have zK : decide ((K : Int) < 2) = false := decide_eq_false aK
        have hgs : gosB RR = false := by rw [h1]; exact gos_65533
        rw [hgs] at hGS
        have HGS := Lib.hid hGS
        rw [gos_no hgs, Bool.and_false, if_neg (by decide)] at hN
        clear h1 h2 hGS hgs
        have hE := hN.symm
        clear hN
        go_upto_region 9 with (first
          | (go_at_call 42; refine HD.out.mono ?_; rintro e5 w5 ⟨rfl, hb5⟩; have HX5 := Lib.hid (HX.out.below hb5); have HB5 := Lib.hid hb5; clear hb5)
          | (go_at_call 68; refine (HGS.out _ HB5.out).mono ?_; rintro e6 w6 ⟨rfl, hb6⟩; have HX6 := Lib.hid (HX5.out.below hb6); clear hb6))
        have HX2 := HX6
        have kji : i ≤ j := hij
        have kjs : j ≤ s.size := hj
        have b0 := blk_cell HX2.out.t 0
        have b1 := blk_cell HX2.out.t 1
        have b2 := blk_cell HX2.out.t 2
        have b3 := blk_cell HX2.out.t 3
        have b4 := blk_cell HX2.out.t 4
        have b5 := blk_cell HX2.out.t 5
        have b6 := blk_cell HX2.out.t 6
        have z0 := blk_frozen HX2.out.t 0
        have z1 := blk_frozen HX2.out.t 1
        have z2 := blk_frozen HX2.out.t 2
        have z3 := blk_frozen HX2.out.t 3
        have z4 := blk_frozen HX2.out.t 4
        have z5 := blk_frozen HX2.out.t 5
        have z6 := blk_frozen HX2.out.t 6
        go_wp2
        rw [hE]
        refine bodyPost_ret (results_ct rfl _ _ w.heap.size 58 #[.int .i64 1, .int .i64 i, .int .i64 j, .string (s.extract i j), .string ⟨#[]⟩, .int .u64 0, .bool false] (0, 0) _ rfl (blk_put (blk_put (blk_put (blk_put (blk_put (blk_put (blk_put HX2.out.t 0 _ rfl) 1 _ rfl) 2 _ rfl) 3 _ rfl) 4 _ rfl) 5 _ rfl) 6 _ rfl) Tryz.underlying58 rfl (by kernel_rfl)) rfl ?_
        exact ⟨rfl, (Below.setCell (Below.setCell (Below.setCell (Below.setCell (Below.setCell (Below.setCell (Below.setCell HX2.out.b (p := ⟨w.heap.size, 0, none⟩) (Nat.le_refl _) _) (p := ⟨w.heap.size, 1, none⟩) (Nat.le_refl _) _) (p := ⟨w.heap.size, 2, none⟩) (Nat.le_refl _) _) (p := ⟨w.heap.size, 3, none⟩) (Nat.le_refl _) _) (p := ⟨w.heap.size, 4, none⟩) (Nat.le_refl _) _) (p := ⟨w.heap.size, 5, none⟩) (Nat.le_refl _) _) (p := ⟨w.heap.size, 6, none⟩) (Nat.le_refl _) _)⟩
      · have a65 : ((RR : Int) == 65533) = false := by rw [beq_eq_false_iff_ne]; omega
        have hb1 : (decide (RR = 65533) && decide (K = 1)) = false := by rw [decide_eq_false h1]; rfl
        rw [hb1, Bool.not_false, Bool.true_and] at hN
        clear hb1 h1
        cases hgs : gosB RR with
        | false =>
          rw [hgs] at hGS
          have HGS := Lib.hid hGS
          rw [gos_no hgs, if_neg (by decide)] at hN
          clear hgs hGS
          have hE := hN.symm
          clear hN
          go_upto_region 9 with (first
            | (go_at_call 42; refine HD.out.mono ?_; rintro e5 w5 ⟨rfl, hb5⟩; have HX5 := Lib.hid (HX.out.below hb5); have HB5 := Lib.hid hb5; clear hb5)
            | (go_at_call 68; refine (HGS.out _ HB5.out).mono ?_; rintro e6 w6 ⟨rfl, hb6⟩; have HX6 := Lib.hid (HX5.out.below hb6); clear hb6))
          have HX2 := HX6
          have kji : i ≤ j := hij
          have kjs : j ≤ s.size := hj
          have b0 := blk_cell HX2.out.t 0
          have b1 := blk_cell HX2.out.t 1
          have b2 := blk_cell HX2.out.t 2
          have b3 := blk_cell HX2.out.t 3
          have b4 := blk_cell HX2.out.t 4
          have b5 := blk_cell HX2.out.t 5
          have b6 := blk_cell HX2.out.t 6
          have z0 := blk_frozen HX2.out.t 0
          have z1 := blk_frozen HX2.out.t 1
          have z2 := blk_frozen HX2.out.t 2
          have z3 := blk_frozen HX2.out.t 3
          have z4 := blk_frozen HX2.out.t 4
          have z5 := blk_frozen HX2.out.t 5
          have z6 := blk_frozen HX2.out.t 6
          go_wp2
          rw [hE]
          refine bodyPost_ret (results_ct rfl _ _ w.heap.size 58 #[.int .i64 1, .int .i64 i, .int .i64 j, .string (s.extract i j), .string ⟨#[]⟩, .int .u64 0, .bool false] (0, 0) _ rfl (blk_put (blk_put (blk_put (blk_put (blk_put (blk_put (blk_put HX2.out.t 0 _ rfl) 1 _ rfl) 2 _ rfl) 3 _ rfl) 4 _ rfl) 5 _ rfl) 6 _ rfl) Tryz.underlying58 rfl (by kernel_rfl)) rfl ?_
          exact ⟨rfl, (Below.setCell (Below.setCell (Below.setCell (Below.setCell (Below.setCell (Below.setCell (Below.setCell HX2.out.b (p := ⟨w.heap.size, 0, none⟩) (Nat.le_refl _) _) (p := ⟨w.heap.size, 1, none⟩) (Nat.le_refl _) _) (p := ⟨w.heap.size, 2, none⟩) (Nat.le_refl _) _) (p := ⟨w.heap.size, 3, none⟩) (Nat.le_refl _) _) (p := ⟨w.heap.size, 4, none⟩) (Nat.le_refl _) _) (p := ⟨w.heap.size, 5, none⟩) (Nat.le_refl _) _) (p := ⟨w.heap.size, 6, none⟩) (Nat.le_refl _) _)⟩
        | true =>
          rw [hgs] at hGS
          have HGS := Lib.hid hGS
          by_cases hr0 : r = 0
          · have n0 : ((r : Int) == 0) = true := by rw [beq_iff_eq]; omega
            have hji : decide (j = i) = true := decide_eq_true (HR0.out.1 hr0)
            rw [hji] at hN
            clear hji hr0
            by_cases h48 : 48 ≤ RR
            · have k48 : (48 : Int) ≤ (RR : Int) := by omega
              by_cases h57 : RR ≤ 57
              · have k57 : (RR : Int) ≤ 57 := by omega
                rw [gos_dig RR (.inl ⟨h48, h57⟩), if_neg (by decide)] at hN
                clear h48 h57 hGS hgs
                have hE := hN.symm
                clear hN
                go_upto_region 9 with (first
                  | (go_at_call 42; refine HD.out.mono ?_; rintro e5 w5 ⟨rfl, hb5⟩; have HX5 := Lib.hid (HX.out.below hb5); have HB5 := Lib.hid hb5; clear hb5)
                  | (go_at_call 68; refine (HGS.out _ HB5.out).mono ?_; rintro e6 w6 ⟨rfl, hb6⟩; have HX6 := Lib.hid (HX5.out.below hb6); clear hb6))
                have HX2 := HX6
                have kji : i ≤ j := hij
                have kjs : j ≤ s.size := hj
                have b0 := blk_cell HX2.out.t 0
                have b1 := blk_cell HX2.out.t 1
                have b2 := blk_cell HX2.out.t 2
                have b3 := blk_cell HX2.out.t 3
                have b4 := blk_cell HX2.out.t 4
                have b5 := blk_cell HX2.out.t 5
                have b6 := blk_cell HX2.out.t 6
                have z0 := blk_frozen HX2.out.t 0
                have z1 := blk_frozen HX2.out.t 1
                have z2 := blk_frozen HX2.out.t 2
                have z3 := blk_frozen HX2.out.t 3
                have z4 := blk_frozen HX2.out.t 4
                have z5 := blk_frozen HX2.out.t 5
                have z6 := blk_frozen HX2.out.t 6
                go_wp2
                rw [hE]
                refine bodyPost_ret (results_ct rfl _ _ w.heap.size 58 #[.int .i64 1, .int .i64 i, .int .i64 j, .string (s.extract i j), .string ⟨#[]⟩, .int .u64 0, .bool false] (0, 0) _ rfl (blk_put (blk_put (blk_put (blk_put (blk_put (blk_put (blk_put HX2.out.t 0 _ rfl) 1 _ rfl) 2 _ rfl) 3 _ rfl) 4 _ rfl) 5 _ rfl) 6 _ rfl) Tryz.underlying58 rfl (by kernel_rfl)) rfl ?_
                exact ⟨rfl, (Below.setCell (Below.setCell (Below.setCell (Below.setCell (Below.setCell (Below.setCell (Below.setCell HX2.out.b (p := ⟨w.heap.size, 0, none⟩) (Nat.le_refl _) _) (p := ⟨w.heap.size, 1, none⟩) (Nat.le_refl _) _) (p := ⟨w.heap.size, 2, none⟩) (Nat.le_refl _) _) (p := ⟨w.heap.size, 3, none⟩) (Nat.le_refl _) _) (p := ⟨w.heap.size, 4, none⟩) (Nat.le_refl _) _) (p := ⟨w.heap.size, 5, none⟩) (Nat.le_refl _) _) (p := ⟨w.heap.size, 6, none⟩) (Nat.le_refl _) _)⟩
              · have k57 : ¬ (RR : Int) ≤ 57 := by omega
                have z57 : decide ((RR : Int) ≤ 57) = false := decide_eq_false k57
                have k57' : (57 : Int) < (RR : Int) := by omega
                have a36 : ((RR : Int) == 36) = false := by rw [beq_eq_false_iff_ne]; omega
                rw [gos_first RR (by omega) (by omega), hgs, if_pos rfl] at hN
                clear h48 h57 hGS hgs
                have HN2 := Lib.hid hN
                have e1 : IntKind.i64.wrap ((j : Int) + (K : Int)) = ((j + K : Nat) : Int) := by rw [IntKind.wrap_i64]; have := HK.out.2; have := HH.out.2.2; omega
                have e2 : IntKind.i64.wrap ((r : Int) + 1) = ((r + 1 : Nat) : Int) := by rw [IntKind.wrap_i64]; have := HH.out.2.2; omega
                clear hN
                go_wp2_with (first
                  | (go_at_call 42; refine HD.out.mono ?_; rintro e5 w5 ⟨rfl, hb5⟩; have HX5 := Lib.hid (HX.out.below hb5); have HB5 := Lib.hid hb5; clear hb5)
                  | (go_at_call 68; refine (HGS.out _ HB5.out).mono ?_; rintro e6 w6 ⟨rfl, hb6⟩; have HX6 := Lib.hid (HX5.out.below hb6); clear hb6))
                go_roundg gm
                case measure => omega
                case rel => exact ⟨j + K, r + 1, rfl, rfl, HK.out.2, by omega, by have := HK.out.1; omega, Lib.hid (by have := HK.out.1; omega), Lib.hid (by have := HI.out; have := HK.out.1; omega), HX6, HN2⟩
            · have k48 : ¬ (48 : Int) ≤ (RR : Int) := by omega
              have k48' : (RR : Int) < 48 := by omega
              have z48 : decide ((48 : Int) ≤ (RR : Int)) = false := decide_eq_false k48
              by_cases h36 : RR = 36
              · have a36 : ((RR : Int) == 36) = true := by rw [beq_iff_eq]; omega
                rw [gos_dig RR (.inr h36), if_neg (by decide)] at hN
                clear h48 h36 hGS hgs
                have hE := hN.symm
                clear hN
                go_upto_region 9 with (first
                  | (go_at_call 42; refine HD.out.mono ?_; rintro e5 w5 ⟨rfl, hb5⟩; have HX5 := Lib.hid (HX.out.below hb5); have HB5 := Lib.hid hb5; clear hb5)
                  | (go_at_call 68; refine (HGS.out _ HB5.out).mono ?_; rintro e6 w6 ⟨rfl, hb6⟩; have HX6 := Lib.hid (HX5.out.below hb6); clear hb6))
                have HX2 := HX6
                have kji : i ≤ j := hij
                have kjs : j ≤ s.size := hj
                have b0 := blk_cell HX2.out.t 0
                have b1 := blk_cell HX2.out.t 1
                have b2 := blk_cell HX2.out.t 2
                have b3 := blk_cell HX2.out.t 3
                have b4 := blk_cell HX2.out.t 4
                have b5 := blk_cell HX2.out.t 5
                have b6 := blk_cell HX2.out.t 6
                have z0 := blk_frozen HX2.out.t 0
                have z1 := blk_frozen HX2.out.t 1
                have z2 := blk_frozen HX2.out.t 2
                have z3 := blk_frozen HX2.out.t 3
                have z4 := blk_frozen HX2.out.t 4
                have z5 := blk_frozen HX2.out.t 5
                have z6 := blk_frozen HX2.out.t 6
                go_wp2
                rw [hE]
                refine bodyPost_ret (results_ct rfl _ _ w.heap.size 58 #[.int .i64 1, .int .i64 i, .int .i64 j, .string (s.extract i j), .string ⟨#[]⟩, .int .u64 0, .bool false] (0, 0) _ rfl (blk_put (blk_put (blk_put (blk_put (blk_put (blk_put (blk_put HX2.out.t 0 _ rfl) 1 _ rfl) 2 _ rfl) 3 _ rfl) 4 _ rfl) 5 _ rfl) 6 _ rfl) Tryz.underlying58 rfl (by kernel_rfl)) rfl ?_
                exact ⟨rfl, (Below.setCell (Below.setCell (Below.setCell (Below.setCell (Below.setCell (Below.setCell (Below.setCell HX2.out.b (p := ⟨w.heap.size, 0, none⟩) (Nat.le_refl _) _) (p := ⟨w.heap.size, 1, none⟩) (Nat.le_refl _) _) (p := ⟨w.heap.size, 2, none⟩) (Nat.le_refl _) _) (p := ⟨w.heap.size, 3, none⟩) (Nat.le_refl _) _) (p := ⟨w.heap.size, 4, none⟩) (Nat.le_refl _) _) (p := ⟨w.heap.size, 5, none⟩) (Nat.le_refl _) _) (p := ⟨w.heap.size, 6, none⟩) (Nat.le_refl _) _)⟩
              · have a36 : ((RR : Int) == 36) = false := by rw [beq_eq_false_iff_ne]; omega
                rw [gos_first RR (by omega) h36, hgs, if_pos rfl] at hN
                clear h48 h36 hGS hgs
                have HN2 := Lib.hid hN
                have e1 : IntKind.i64.wrap ((j : Int) + (K : Int)) = ((j + K : Nat) : Int) := by rw [IntKind.wrap_i64]; have := HK.out.2; have := HH.out.2.2; omega
                have e2 : IntKind.i64.wrap ((r : Int) + 1) = ((r + 1 : Nat) : Int) := by rw [IntKind.wrap_i64]; have := HH.out.2.2; omega
                clear hN
                go_wp2_with (first
                  | (go_at_call 42; refine HD.out.mono ?_; rintro e5 w5 ⟨rfl, hb5⟩; have HX5 := Lib.hid (HX.out.below hb5); have HB5 := Lib.hid hb5; clear hb5)
                  | (go_at_call 68; refine (HGS.out _ HB5.out).mono ?_; rintro e6 w6 ⟨rfl, hb6⟩; have HX6 := Lib.hid (HX5.out.below hb6); clear hb6))
                go_roundg gm
                case measure => omega
                case rel => exact ⟨j + K, r + 1, rfl, rfl, HK.out.2, by omega, by have := HK.out.1; omega, Lib.hid (by have := HK.out.1; omega), Lib.hid (by have := HI.out; have := HK.out.1; omega), HX6, HN2⟩
          · have n0 : ((r : Int) == 0) = false := by rw [beq_eq_false_iff_ne]; omega
            have hji : decide (j = i) = false := decide_eq_false (fun h => hr0 (HR0.out.2 h))
            rw [hji, gos_next, hgs, if_pos rfl] at hN
            clear hji hr0 hGS hgs
            have HN2 := Lib.hid hN
            have e1 : IntKind.i64.wrap ((j : Int) + (K : Int)) = ((j + K : Nat) : Int) := by rw [IntKind.wrap_i64]; have := HK.out.2; have := HH.out.2.2; omega
            have e2 : IntKind.i64.wrap ((r : Int) + 1) = ((r + 1 : Nat) : Int) := by rw [IntKind.wrap_i64]; have := HH.out.2.2; omega
            clear hN
            go_wp2_with (first
              | (go_at_call 42; refine HD.out.mono ?_; rintro e5 w5 ⟨rfl, hb5⟩; have HX5 := Lib.hid (HX.out.below hb5); have HB5 := Lib.hid hb5; clear hb5)
              | (go_at_call 68; refine (HGS.out _ HB5.out).mono ?_; rintro e6 w6 ⟨rfl, hb6⟩; have HX6 := Lib.hid (HX5.out.below hb6); clear hb6))
            go_roundg gm
            case measure => omega
            case rel => exact ⟨j + K, r + 1, rfl, rfl, HK.out.2, by omega, by have := HK.out.1; omega, Lib.hid (by have := HK.out.1; omega), Lib.hid (by have := HI.out; have := HK.out.1; omega), HX6, HN2⟩
    · rw [if_neg hjs] at hN
      have q2 : ((j : Int) < (s.size : Int)) = False := eq_false (by omega)
      have q3 : (j < s.size) = False := eq_false hjs
      have hE := hN.symm
      have HX2 := HX
      clear hN hjs
      go_upto_region 9 with (fail)
      have kji : i ≤ j := hij
      have kjs : j ≤ s.size := hj
      have b0 := blk_cell HX2.out.t 0
      have b1 := blk_cell HX2.out.t 1
      have b2 := blk_cell HX2.out.t 2
      have b3 := blk_cell HX2.out.t 3
      have b4 := blk_cell HX2.out.t 4
      have b5 := blk_cell HX2.out.t 5
      have b6 := blk_cell HX2.out.t 6
      have z0 := blk_frozen HX2.out.t 0
      have z1 := blk_frozen HX2.out.t 1
      have z2 := blk_frozen HX2.out.t 2
      have z3 := blk_frozen HX2.out.t 3
      have z4 := blk_frozen HX2.out.t 4
      have z5 := blk_frozen HX2.out.t 5
      have z6 := blk_frozen HX2.out.t 6
      go_wp2
      rw [hE]
      refine bodyPost_ret (results_ct rfl _ _ w.heap.size 58 #[.int .i64 1, .int .i64 i, .int .i64 j, .string (s.extract i j), .string ⟨#[]⟩, .int .u64 0, .bool false] (0, 0) _ rfl (blk_put (blk_put (blk_put (blk_put (blk_put (blk_put (blk_put HX2.out.t 0 _ rfl) 1 _ rfl) 2 _ rfl) 3 _ rfl) 4 _ rfl) 5 _ rfl) 6 _ rfl) Tryz.underlying58 rfl (by kernel_rfl)) rfl ?_
      exact ⟨rfl, (Below.setCell (Below.setCell (Below.setCell (Below.setCell (Below.setCell (Below.setCell (Below.setCell HX2.out.b (p := ⟨w.heap.size, 0, none⟩) (Nat.le_refl _) _) (p := ⟨w.heap.size, 1, none⟩) (Nat.le_refl _) _) (p := ⟨w.heap.size, 2, none⟩) (Nat.le_refl _) _) (p := ⟨w.heap.size, 3, none⟩) (Nat.le_refl _) _) (p := ⟨w.heap.size, 4, none⟩) (Nat.le_refl _) _) (p := ⟨w.heap.size, 5, none⟩) (Nat.le_refl _) _) (p := ⟨w.heap.size, 6, none⟩) (Nat.le_refl _) _)⟩
end Go.Proofs.YtbmnifnahbehbaaGreatDoor

/- The document's number. -/
set_option linter.unusedVariables false
set_option linter.unusedSimpArgs false
namespace Go.Proofs.YtbmnifnahbehbaaGreatDoor
open Go.RowKit Go.Lib Go.Proofs.YtbmnifnahbehbaaGreatDoorW.PrintWords Go.Proofs.YtbmnifnahbehbaaGreatDoorW.PrintMore Go.Proofs.YtbmnifnahbehbaaGreatDoorW.PrintLast
open AvP
/-- The word at i as a number: the token, and the reason why it is none. -/
def numT (t : ByteArray) (i j : Int) : DTk × Int :=
  if 2 < t.size ∧ t.extract 0 2 = ⟨#[48, 120]⟩ then (⟨2, i, j, ⟨#[]⟩, ⟨#[]⟩, (valS (t.extract 2 t.size).data.toList 16).1, false⟩, (valS (t.extract 2 t.size).data.toList 16).2)
  else if 2 < t.size ∧ t.extract 0 2 = ⟨#[48, 98]⟩ then (⟨2, i, j, ⟨#[]⟩, ⟨#[]⟩, (valS (t.extract 2 t.size).data.toList 2).1, false⟩, (valS (t.extract 2 t.size).data.toList 2).2)
  else if by_ t (t.size - 1) = 98 ∨ by_ t (t.size - 1) = 102 then (⟨3, i, j, t.extract (t.size - 1) t.size, ⟨#[]⟩, (valS (t.extract 0 (t.size - 1)).data.toList 10).1, false⟩, (valS (t.extract 0 (t.size - 1)).data.toList 10).2)
  else (⟨2, i, j, ⟨#[]⟩, ⟨#[]⟩, (valS t.data.toList 10).1, true⟩, (valS t.data.toList 10).2)
def numD (s : ByteArray) (i : Nat) : DTk × Int := numT (s.extract i (i + wl (s.data.toList.drop i))) (i : Int) ((i + wl (s.data.toList.drop i) : Nat) : Int)
set_option maxHeartbeats 8000000 in
set_option maxRecDepth 100000 in
theorem numD_c {w : World} {i : Nat} {s : ByteArray} (hs : s.size ≤ 100000) (hi : i < s.size) (hw : wordN (by_ s i) = true) :
    Calls Tryz.prog 47 #[.string s, .int .i64 (i : Int)] w fun e w' => e = .returned (.tuple #[aggD (numD s i).1, .int .i64 (numD s i).2]) ∧ Below w.heap.size w w' := by
  obtain ⟨R, hR⟩ : ∃ R, numD s i = R := ⟨_, rfl⟩
  rw [hR]
  have HR := Lib.hid hR
  obtain ⟨N, hN⟩ : ∃ N, wl (s.data.toList.drop i) = N := ⟨_, rfl⟩
  have hN1 : 1 ≤ N := by rw [← hN, wl_step s i hi, if_pos hw]; omega
  have HN := Lib.hid (And.intro hN hN1)
  have H := Lib.hid (TB.of w)
  have HH := Lib.hid (And.intro hi hs)
  clear hR hs hi hw hN hN1
  go_enter Tryz.func47, Tryz.ntmps47
  go_wp2
  go_loopg [6] s.size (fun gm v6 wx => ∃ j : Nat, .int .i64 (j : Int) = v6 ∧ i ≤ j ∧ j ≤ s.size ∧ Hid (gm + j = i + s.size ∨ gm + j = s.size + i) ∧ Hid (TB w wx) ∧ Hid (i + N = j + wl (s.data.toList.drop j)))
  case atStart => exact ⟨i, rfl, Nat.le_refl _, Nat.le_of_lt HH.out.1, Lib.hid (by omega), H, Lib.hid (by rw [HN.out.1])⟩
  case round =>
    obtain ⟨j, rfl, hij, hj, HI, HX, HW⟩ := hrel
    have hW := HW.out
    have hcs : (j < s.size ∧ digN (by_ s j) = true) ∨ (j < s.size ∧ digN (by_ s j) = false ∧ letN (by_ s j) = true) ∨ ((j < s.size ∧ digN (by_ s j) = false ∧ letN (by_ s j) = false) ∨ ¬ j < s.size) := by
      by_cases h : j < s.size
      · cases h1 : digN (by_ s j)
        · cases h2 : letN (by_ s j)
          · exact .inr (.inr (.inl ⟨h, rfl, rfl⟩))
          · exact .inr (.inl ⟨h, rfl, rfl⟩)
        · exact .inl ⟨h, rfl⟩
      · exact .inr (.inr (.inr h))
    rcases hcs with ⟨hjs, hd⟩ | ⟨hjs, hd, hl⟩ | hcs
    · have hbt := by_at s j hjs
      have hbz : ((s[j]'hjs).toNat : Int) = ((by_ s j : Nat) : Int) := by rw [hbt]
      have q2 : (j : Int) < (s.size : Int) := by omega
      rw [wl_step s j hjs, wordN_or, hd, Bool.true_or, if_pos rfl] at hW
      obtain ⟨c, hc⟩ : ∃ c, by_ s j = c := ⟨_, rfl⟩
      rw [hc] at hbz hd
      have hD := fun w' => dig_c c w'
      rw [hd] at hD
      have HD := Lib.hid hD
      clear hD
      have e1 : IntKind.i64.wrap ((j : Int) + 1) = ((j + 1 : Nat) : Int) := by rw [IntKind.wrap_i64]; have := HH.out.2; omega
      obtain ⟨gm, rfl⟩ : ∃ q, gk = q + 1 := ⟨gk - 1, by have := HI.out; omega⟩
      have HW2 := Lib.hid hW
      clear hbt hc hd hW
      go_wp2_with (first
        | (go_at_call 46; refine (HD.out _).mono ?_; rintro e5 w5 ⟨rfl, rfl⟩))
      go_roundg gm
      case measure => omega
      case rel => exact ⟨j + 1, rfl, by omega, by omega, Lib.hid (by have := HI.out; omega), HX, Lib.hid (by have := HW2.out; omega)⟩
    · have hbt := by_at s j hjs
      have hbz : ((s[j]'hjs).toNat : Int) = ((by_ s j : Nat) : Int) := by rw [hbt]
      have q2 : (j : Int) < (s.size : Int) := by omega
      rw [wl_step s j hjs, wordN_or, hd, hl, Bool.false_or, if_pos rfl] at hW
      obtain ⟨c, hc⟩ : ∃ c, by_ s j = c := ⟨_, rfl⟩
      rw [hc] at hbz hd hl
      have hD := fun w' => dig_c c w'
      have hL := fun w' => let_c c w'
      rw [hd] at hD
      rw [hl] at hL
      have HD := Lib.hid hD
      have HL := Lib.hid hL
      clear hD hL hl
      have e1 : IntKind.i64.wrap ((j : Int) + 1) = ((j + 1 : Nat) : Int) := by rw [IntKind.wrap_i64]; have := HH.out.2; omega
      obtain ⟨gm, rfl⟩ : ∃ q, gk = q + 1 := ⟨gk - 1, by have := HI.out; omega⟩
      have HW2 := Lib.hid hW
      clear hbt hc hd hW
      go_wp2_with (first
        | (go_at_call 46; refine (HD.out _).mono ?_; rintro e5 w5 ⟨rfl, rfl⟩)
        | (go_at_call 65; refine (HL.out _).mono ?_; rintro e5 w5 ⟨rfl, rfl⟩))
      go_roundg gm
      case measure => omega
      case rel => exact ⟨j + 1, rfl, by omega, by omega, Lib.hid (by have := HI.out; omega), HX, Lib.hid (by have := HW2.out; omega)⟩
    · have hjN : i + N = j := by
        rcases hcs with ⟨hjs, hd, hl⟩ | hjs
        · rw [wl_step s j hjs, wordN_or, hd, hl, if_neg (by decide)] at hW
          omega
        · rw [wl_end s j (by omega)] at hW
          omega
      have HJN := Lib.hid hjN
      clear hW hjN
      rcases hcs with ⟨hjs, hd, hl⟩ | hjs
      case' inr.inr.inl =>
        have hbt := by_at s j hjs
        have hbz : ((s[j]'hjs).toNat : Int) = ((by_ s j : Nat) : Int) := by rw [hbt]
        obtain ⟨c, hc⟩ : ∃ c, by_ s j = c := ⟨_, rfl⟩
        rw [hc] at hbz hd hl
        have hD := fun w' => dig_c c w'
        have hL := fun w' => let_c c w'
        rw [hd] at hD
        rw [hl] at hL
        have HD := Lib.hid hD
        have HL := Lib.hid hL
        have q2 : (j : Int) < (s.size : Int) := by omega
        clear hbt hc hd hl hD hL
        go_upto_region 4 with (first
          | (go_at_call 46; refine (HD.out _).mono ?_; rintro e5 w5 ⟨rfl, rfl⟩)
          | (go_at_call 65; refine (HL.out _).mono ?_; rintro e5 w5 ⟨rfl, rfl⟩))
      case' inr.inr.inr =>
        obtain ⟨w5, rfl⟩ : ∃ q, q = wr := ⟨_, rfl⟩
        have q2 : ((j : Int) < (s.size : Int)) = False := eq_false (by omega)
        have q3 : (j < s.size) = False := eq_false hjs
        clear hjs
        go_upto_region 4 with (fail)
      all_goals
        obtain ⟨t, ht⟩ : ∃ t, s.extract i j = t := ⟨_, rfl⟩
        have hts : t.size = j - i := by rw [← ht, ByteArray.size_extract]; omega
        have htw : t.data.toList.all wordB = true := by
          rw [← ht, data_ext s i j hij hj, show j - i = wl (s.data.toList.drop i) by rw [HN.out.1]; have := HJN.out; omega]
          exact wl_all _
        have hRt : R = numT t (i : Int) (j : Int) := by
          rw [← HR.out]
          unfold numD
          rw [HN.out.1, HJN.out, ht]
        have HT := Lib.hid (And.intro hts (And.intro htw hRt))
        have htp : 1 ≤ t.size := by have := HJN.out; have := HN.out.2; omega
        have kij : i ≤ j := hij
        have kjs : j ≤ s.size := hj
        go_upto_region 5 with (fail)
        clear hts htw hRt ht
        have E0 := dec_lit (t.extract 0 2) 48 120
        have E1 := dec_lit (t.extract 0 2) 48 98
        by_cases h2 : 2 < t.size
        · have k2 : (2 : Int) < (t.size : Int) := by omega
          have k2' : 2 ≤ t.size := by omega
          have z2 : decide ((2 : Int) < (t.size : Int)) = true := decide_eq_true k2
          by_cases hx : t.extract 0 2 = ⟨#[48, 120]⟩
          · rw [decide_eq_true hx] at E0
            have hv := fun w' => reads_c (t.extract 2 t.size) 16 (.inr (.inl rfl)) (by rw [ByteArray.size_extract]; have := HH.out.2; have := HT.out.1; omega) (all_ext t 2 t.size HT.out.2.1) w'
            obtain ⟨V, hV⟩ : ∃ V, (valS (t.extract 2 t.size).data.toList 16).1 = V := ⟨_, rfl⟩
            obtain ⟨Y, hY⟩ : ∃ Y, (valS (t.extract 2 t.size).data.toList 16).2 = Y := ⟨_, rfl⟩
            have hRR : R = (⟨2, i, j, ⟨#[]⟩, ⟨#[]⟩, V, false⟩, Y) := by
              rw [HT.out.2.2]
              unfold numT
              rw [if_pos ⟨h2, hx⟩, hV, hY]
            rw [hV, hY] at hv
            have HV := Lib.hid hv
            have HRR := Lib.hid hRR
            clear hv hV hY hRR hx h2 E1
            go_upto_region 20 with (first | (go_at_call 66; refine (HV.out _).mono ?_; rintro e6 w6 ⟨rfl, h6⟩; subst h6))
            have HS := Lib.hid (HX.out.box (Below.refl _ _) #[.int .i64 2, .int .i64 i, .int .i64 j, .string ⟨#[]⟩, .string ⟨#[]⟩, .int .u64 V, .bool false] 58)
            obtain ⟨wA, hwA⟩ : ∃ q, w5.alloc (.cells #[.int .i64 2, .int .i64 i, .int .i64 j, .string ⟨#[]⟩, .string ⟨#[]⟩, .int .u64 V, .bool false] 58) = q := ⟨_, rfl⟩
            obtain ⟨ga, hga⟩ : ∃ q, w5.heap.size = q := ⟨_, rfl⟩
            rw [hwA, hga] at HS ⊢
            have b0 := blk_cell HS.out.1.t 0
            have b1 := blk_cell HS.out.1.t 1
            have b2 := blk_cell HS.out.1.t 2
            have b3 := blk_cell HS.out.1.t 3
            have b4 := blk_cell HS.out.1.t 4
            have b5 := blk_cell HS.out.1.t 5
            have b6 := blk_cell HS.out.1.t 6
            have z0 := blk_frozen HS.out.1.t 0
            have z1 := blk_frozen HS.out.1.t 1
            have z2 := blk_frozen HS.out.1.t 2
            have z3 := blk_frozen HS.out.1.t 3
            have z4 := blk_frozen HS.out.1.t 4
            have z5 := blk_frozen HS.out.1.t 5
            have z6 := blk_frozen HS.out.1.t 6
            have x0 := blk_cell HS.out.2 0
            have x1 := blk_cell HS.out.2 1
            have x2 := blk_cell HS.out.2 2
            have x3 := blk_cell HS.out.2 3
            have x4 := blk_cell HS.out.2 4
            have x5 := blk_cell HS.out.2 5
            have x6 := blk_cell HS.out.2 6
            clear hwA hga
            go_wp2
            rw [HRR.out]
            refine bodyPost_ret (results_ct rfl _ _ w.heap.size 58 #[.int .i64 2, .int .i64 i, .int .i64 j, .string ⟨#[]⟩, .string ⟨#[]⟩, .int .u64 V, .bool false] (0, 0) _ rfl (blk_put (blk_put (blk_put (blk_put (blk_put (blk_put (blk_put HS.out.1.t 0 _ rfl) 1 _ rfl) 2 _ rfl) 3 _ rfl) 4 _ rfl) 5 _ rfl) 6 _ rfl) Tryz.underlying58 rfl (by kernel_rfl)) rfl ?_
            exact ⟨rfl, (Below.setCell (Below.setCell (Below.setCell (Below.setCell (Below.setCell (Below.setCell (Below.setCell HS.out.1.b (p := ⟨w.heap.size, 0, none⟩) (Nat.le_refl _) _) (p := ⟨w.heap.size, 1, none⟩) (Nat.le_refl _) _) (p := ⟨w.heap.size, 2, none⟩) (Nat.le_refl _) _) (p := ⟨w.heap.size, 3, none⟩) (Nat.le_refl _) _) (p := ⟨w.heap.size, 4, none⟩) (Nat.le_refl _) _) (p := ⟨w.heap.size, 5, none⟩) (Nat.le_refl _) _) (p := ⟨w.heap.size, 6, none⟩) (Nat.le_refl _) _)⟩
          · rw [decide_eq_false hx] at E0
            by_cases hx2 : t.extract 0 2 = ⟨#[48, 98]⟩
            · rw [decide_eq_true hx2] at E1
              have hv := fun w' => reads_c (t.extract 2 t.size) 2 (.inr (.inr rfl)) (by rw [ByteArray.size_extract]; have := HH.out.2; have := HT.out.1; omega) (all_ext t 2 t.size HT.out.2.1) w'
              obtain ⟨V, hV⟩ : ∃ V, (valS (t.extract 2 t.size).data.toList 2).1 = V := ⟨_, rfl⟩
              obtain ⟨Y, hY⟩ : ∃ Y, (valS (t.extract 2 t.size).data.toList 2).2 = Y := ⟨_, rfl⟩
              have hRR : R = (⟨2, i, j, ⟨#[]⟩, ⟨#[]⟩, V, false⟩, Y) := by
                rw [HT.out.2.2]
                unfold numT
                rw [if_neg (fun h => hx h.2), if_pos ⟨h2, hx2⟩, hV, hY]
              rw [hV, hY] at hv
              have HV := Lib.hid hv
              have HRR := Lib.hid hRR
              clear hv hV hY hRR hx hx2 h2
              go_upto_region 20 with (first | (go_at_call 66; refine (HV.out _).mono ?_; rintro e6 w6 ⟨rfl, h6⟩; subst h6))
              have HS := Lib.hid (HX.out.box (Below.refl _ _) #[.int .i64 2, .int .i64 i, .int .i64 j, .string ⟨#[]⟩, .string ⟨#[]⟩, .int .u64 V, .bool false] 58)
              obtain ⟨wA, hwA⟩ : ∃ q, w5.alloc (.cells #[.int .i64 2, .int .i64 i, .int .i64 j, .string ⟨#[]⟩, .string ⟨#[]⟩, .int .u64 V, .bool false] 58) = q := ⟨_, rfl⟩
              obtain ⟨ga, hga⟩ : ∃ q, w5.heap.size = q := ⟨_, rfl⟩
              rw [hwA, hga] at HS ⊢
              have b0 := blk_cell HS.out.1.t 0
              have b1 := blk_cell HS.out.1.t 1
              have b2 := blk_cell HS.out.1.t 2
              have b3 := blk_cell HS.out.1.t 3
              have b4 := blk_cell HS.out.1.t 4
              have b5 := blk_cell HS.out.1.t 5
              have b6 := blk_cell HS.out.1.t 6
              have z0 := blk_frozen HS.out.1.t 0
              have z1 := blk_frozen HS.out.1.t 1
              have z2 := blk_frozen HS.out.1.t 2
              have z3 := blk_frozen HS.out.1.t 3
              have z4 := blk_frozen HS.out.1.t 4
              have z5 := blk_frozen HS.out.1.t 5
              have z6 := blk_frozen HS.out.1.t 6
              have x0 := blk_cell HS.out.2 0
              have x1 := blk_cell HS.out.2 1
              have x2 := blk_cell HS.out.2 2
              have x3 := blk_cell HS.out.2 3
              have x4 := blk_cell HS.out.2 4
              have x5 := blk_cell HS.out.2 5
              have x6 := blk_cell HS.out.2 6
              clear hwA hga
              go_wp2
              rw [HRR.out]
              refine bodyPost_ret (results_ct rfl _ _ w.heap.size 58 #[.int .i64 2, .int .i64 i, .int .i64 j, .string ⟨#[]⟩, .string ⟨#[]⟩, .int .u64 V, .bool false] (0, 0) _ rfl (blk_put (blk_put (blk_put (blk_put (blk_put (blk_put (blk_put HS.out.1.t 0 _ rfl) 1 _ rfl) 2 _ rfl) 3 _ rfl) 4 _ rfl) 5 _ rfl) 6 _ rfl) Tryz.underlying58 rfl (by kernel_rfl)) rfl ?_
              exact ⟨rfl, (Below.setCell (Below.setCell (Below.setCell (Below.setCell (Below.setCell (Below.setCell (Below.setCell HS.out.1.b (p := ⟨w.heap.size, 0, none⟩) (Nat.le_refl _) _) (p := ⟨w.heap.size, 1, none⟩) (Nat.le_refl _) _) (p := ⟨w.heap.size, 2, none⟩) (Nat.le_refl _) _) (p := ⟨w.heap.size, 3, none⟩) (Nat.le_refl _) _) (p := ⟨w.heap.size, 4, none⟩) (Nat.le_refl _) _) (p := ⟨w.heap.size, 5, none⟩) (Nat.le_refl _) _) (p := ⟨w.heap.size, 6, none⟩) (Nat.le_refl _) _)⟩
            · rw [decide_eq_false hx2] at E1
              have hm1 : t.size - 1 < t.size := by omega
              have hbt := by_at t (t.size - 1) hm1
              obtain ⟨c9, hc9⟩ : ∃ c, by_ t (t.size - 1) = c := ⟨_, rfl⟩
              rw [hc9] at hbt
              have hbz9 : ((t[t.size - 1]'hm1).toNat : Int) = (c9 : Int) := by rw [hbt]
              obtain ⟨m, hm⟩ : ∃ m, m = t.size - 1 := ⟨_, rfl⟩
              have wm : IntKind.i64.wrap ((t.size : Int) - 1) = (m : Int) := by rw [IntKind.wrap_i64]; have := HH.out.2; have := HT.out.1; omega
              have hHm := Lib.hid hm
              have HC9 := Lib.hid hc9
              clear hbt
              revert hm1 hbz9
              rw [← hm]
              intro hm1 hbz9
              clear hc9 hm
              by_cases hb : c9 = 98
              · have e98 : ((c9 : Int) == 98) = true := by rw [beq_iff_eq]; omega
                have hv := fun w' => reads_c (t.extract 0 m) 10 (.inl rfl) (by rw [ByteArray.size_extract]; have := HH.out.2; have := HT.out.1; omega) (all_ext t 0 m HT.out.2.1) w'
                obtain ⟨V, hV⟩ : ∃ V, (valS (t.extract 0 m).data.toList 10).1 = V := ⟨_, rfl⟩
                obtain ⟨Y, hY⟩ : ∃ Y, (valS (t.extract 0 m).data.toList 10).2 = Y := ⟨_, rfl⟩
                have hRR : R = (⟨3, i, j, (t.extract m t.size), ⟨#[]⟩, V, false⟩, Y) := by
                  rw [HT.out.2.2]
                  unfold numT
                  rw [if_neg (fun h => hx h.2), if_neg (fun h => hx2 h.2), if_pos (by rw [HC9.out]; exact .inl hb), ← hHm.out, hV, hY]
                rw [hV, hY] at hv
                have HV := Lib.hid hv
                have HRR := Lib.hid hRR
                clear hv hV hY hRR hb
                go_upto_region 20 with (first | (go_at_call 66; refine (HV.out _).mono ?_; rintro e6 w6 ⟨rfl, h6⟩; subst h6))
                have HS := Lib.hid (HX.out.box (Below.refl _ _) #[.int .i64 3, .int .i64 i, .int .i64 j, .string (t.extract m t.size), .string ⟨#[]⟩, .int .u64 V, .bool false] 58)
                obtain ⟨wA, hwA⟩ : ∃ q, w5.alloc (.cells #[.int .i64 3, .int .i64 i, .int .i64 j, .string (t.extract m t.size), .string ⟨#[]⟩, .int .u64 V, .bool false] 58) = q := ⟨_, rfl⟩
                obtain ⟨ga, hga⟩ : ∃ q, w5.heap.size = q := ⟨_, rfl⟩
                rw [hwA, hga] at HS ⊢
                have b0 := blk_cell HS.out.1.t 0
                have b1 := blk_cell HS.out.1.t 1
                have b2 := blk_cell HS.out.1.t 2
                have b3 := blk_cell HS.out.1.t 3
                have b4 := blk_cell HS.out.1.t 4
                have b5 := blk_cell HS.out.1.t 5
                have b6 := blk_cell HS.out.1.t 6
                have z0 := blk_frozen HS.out.1.t 0
                have z1 := blk_frozen HS.out.1.t 1
                have z2 := blk_frozen HS.out.1.t 2
                have z3 := blk_frozen HS.out.1.t 3
                have z4 := blk_frozen HS.out.1.t 4
                have z5 := blk_frozen HS.out.1.t 5
                have z6 := blk_frozen HS.out.1.t 6
                have x0 := blk_cell HS.out.2 0
                have x1 := blk_cell HS.out.2 1
                have x2 := blk_cell HS.out.2 2
                have x3 := blk_cell HS.out.2 3
                have x4 := blk_cell HS.out.2 4
                have x5 := blk_cell HS.out.2 5
                have x6 := blk_cell HS.out.2 6
                clear hwA hga
                go_wp2
                rw [HRR.out]
                refine bodyPost_ret (results_ct rfl _ _ w.heap.size 58 #[.int .i64 3, .int .i64 i, .int .i64 j, .string (t.extract m t.size), .string ⟨#[]⟩, .int .u64 V, .bool false] (0, 0) _ rfl (blk_put (blk_put (blk_put (blk_put (blk_put (blk_put (blk_put HS.out.1.t 0 _ rfl) 1 _ rfl) 2 _ rfl) 3 _ rfl) 4 _ rfl) 5 _ rfl) 6 _ rfl) Tryz.underlying58 rfl (by kernel_rfl)) rfl ?_
                exact ⟨rfl, (Below.setCell (Below.setCell (Below.setCell (Below.setCell (Below.setCell (Below.setCell (Below.setCell HS.out.1.b (p := ⟨w.heap.size, 0, none⟩) (Nat.le_refl _) _) (p := ⟨w.heap.size, 1, none⟩) (Nat.le_refl _) _) (p := ⟨w.heap.size, 2, none⟩) (Nat.le_refl _) _) (p := ⟨w.heap.size, 3, none⟩) (Nat.le_refl _) _) (p := ⟨w.heap.size, 4, none⟩) (Nat.le_refl _) _) (p := ⟨w.heap.size, 5, none⟩) (Nat.le_refl _) _) (p := ⟨w.heap.size, 6, none⟩) (Nat.le_refl _) _)⟩
              · have e98 : ((c9 : Int) == 98) = false := by rw [beq_eq_false_iff_ne]; omega
                by_cases hb2 : c9 = 102
                · have e102 : ((c9 : Int) == 102) = true := by rw [beq_iff_eq]; omega
                  have hv := fun w' => reads_c (t.extract 0 m) 10 (.inl rfl) (by rw [ByteArray.size_extract]; have := HH.out.2; have := HT.out.1; omega) (all_ext t 0 m HT.out.2.1) w'
                  obtain ⟨V, hV⟩ : ∃ V, (valS (t.extract 0 m).data.toList 10).1 = V := ⟨_, rfl⟩
                  obtain ⟨Y, hY⟩ : ∃ Y, (valS (t.extract 0 m).data.toList 10).2 = Y := ⟨_, rfl⟩
                  have hRR : R = (⟨3, i, j, (t.extract m t.size), ⟨#[]⟩, V, false⟩, Y) := by
                    rw [HT.out.2.2]
                    unfold numT
                    rw [if_neg (fun h => hx h.2), if_neg (fun h => hx2 h.2), if_pos (by rw [HC9.out]; exact .inr hb2), ← hHm.out, hV, hY]
                  rw [hV, hY] at hv
                  have HV := Lib.hid hv
                  have HRR := Lib.hid hRR
                  clear hv hV hY hRR hb hb2
                  go_upto_region 20 with (first | (go_at_call 66; refine (HV.out _).mono ?_; rintro e6 w6 ⟨rfl, h6⟩; subst h6))
                  have HS := Lib.hid (HX.out.box (Below.refl _ _) #[.int .i64 3, .int .i64 i, .int .i64 j, .string (t.extract m t.size), .string ⟨#[]⟩, .int .u64 V, .bool false] 58)
                  obtain ⟨wA, hwA⟩ : ∃ q, w5.alloc (.cells #[.int .i64 3, .int .i64 i, .int .i64 j, .string (t.extract m t.size), .string ⟨#[]⟩, .int .u64 V, .bool false] 58) = q := ⟨_, rfl⟩
                  obtain ⟨ga, hga⟩ : ∃ q, w5.heap.size = q := ⟨_, rfl⟩
                  rw [hwA, hga] at HS ⊢
                  have b0 := blk_cell HS.out.1.t 0
                  have b1 := blk_cell HS.out.1.t 1
                  have b2 := blk_cell HS.out.1.t 2
                  have b3 := blk_cell HS.out.1.t 3
                  have b4 := blk_cell HS.out.1.t 4
                  have b5 := blk_cell HS.out.1.t 5
                  have b6 := blk_cell HS.out.1.t 6
                  have z0 := blk_frozen HS.out.1.t 0
                  have z1 := blk_frozen HS.out.1.t 1
                  have z2 := blk_frozen HS.out.1.t 2
                  have z3 := blk_frozen HS.out.1.t 3
                  have z4 := blk_frozen HS.out.1.t 4
                  have z5 := blk_frozen HS.out.1.t 5
                  have z6 := blk_frozen HS.out.1.t 6
                  have x0 := blk_cell HS.out.2 0
                  have x1 := blk_cell HS.out.2 1
                  have x2 := blk_cell HS.out.2 2
                  have x3 := blk_cell HS.out.2 3
                  have x4 := blk_cell HS.out.2 4
                  have x5 := blk_cell HS.out.2 5
                  have x6 := blk_cell HS.out.2 6
                  clear hwA hga
                  go_wp2
                  rw [HRR.out]
                  refine bodyPost_ret (results_ct rfl _ _ w.heap.size 58 #[.int .i64 3, .int .i64 i, .int .i64 j, .string (t.extract m t.size), .string ⟨#[]⟩, .int .u64 V, .bool false] (0, 0) _ rfl (blk_put (blk_put (blk_put (blk_put (blk_put (blk_put (blk_put HS.out.1.t 0 _ rfl) 1 _ rfl) 2 _ rfl) 3 _ rfl) 4 _ rfl) 5 _ rfl) 6 _ rfl) Tryz.underlying58 rfl (by kernel_rfl)) rfl ?_
                  exact ⟨rfl, (Below.setCell (Below.setCell (Below.setCell (Below.setCell (Below.setCell (Below.setCell (Below.setCell HS.out.1.b (p := ⟨w.heap.size, 0, none⟩) (Nat.le_refl _) _) (p := ⟨w.heap.size, 1, none⟩) (Nat.le_refl _) _) (p := ⟨w.heap.size, 2, none⟩) (Nat.le_refl _) _) (p := ⟨w.heap.size, 3, none⟩) (Nat.le_refl _) _) (p := ⟨w.heap.size, 4, none⟩) (Nat.le_refl _) _) (p := ⟨w.heap.size, 5, none⟩) (Nat.le_refl _) _) (p := ⟨w.heap.size, 6, none⟩) (Nat.le_refl _) _)⟩
                · have e102 : ((c9 : Int) == 102) = false := by rw [beq_eq_false_iff_ne]; omega
                  have hv := fun w' => reads_c t 10 (.inl rfl) (by have := HH.out.2; have := HT.out.1; omega) HT.out.2.1 w'
                  obtain ⟨V, hV⟩ : ∃ V, (valS t.data.toList 10).1 = V := ⟨_, rfl⟩
                  obtain ⟨Y, hY⟩ : ∃ Y, (valS t.data.toList 10).2 = Y := ⟨_, rfl⟩
                  have hRR : R = (⟨2, i, j, ⟨#[]⟩, ⟨#[]⟩, V, true⟩, Y) := by
                    rw [HT.out.2.2]
                    unfold numT
                    rw [if_neg (fun h => hx h.2), if_neg (fun h => hx2 h.2), if_neg (by rw [HC9.out]; exact fun h => h.elim hb hb2), hV, hY]
                  rw [hV, hY] at hv
                  have HV := Lib.hid hv
                  have HRR := Lib.hid hRR
                  clear hv hV hY hRR hb hb2
                  go_upto_region 20 with (first | (go_at_call 66; refine (HV.out _).mono ?_; rintro e6 w6 ⟨rfl, h6⟩; subst h6))
                  have HS := Lib.hid (HX.out.box (Below.refl _ _) #[.int .i64 2, .int .i64 i, .int .i64 j, .string ⟨#[]⟩, .string ⟨#[]⟩, .int .u64 V, .bool true] 58)
                  obtain ⟨wA, hwA⟩ : ∃ q, w5.alloc (.cells #[.int .i64 2, .int .i64 i, .int .i64 j, .string ⟨#[]⟩, .string ⟨#[]⟩, .int .u64 V, .bool true] 58) = q := ⟨_, rfl⟩
                  obtain ⟨ga, hga⟩ : ∃ q, w5.heap.size = q := ⟨_, rfl⟩
                  rw [hwA, hga] at HS ⊢
                  have b0 := blk_cell HS.out.1.t 0
                  have b1 := blk_cell HS.out.1.t 1
                  have b2 := blk_cell HS.out.1.t 2
                  have b3 := blk_cell HS.out.1.t 3
                  have b4 := blk_cell HS.out.1.t 4
                  have b5 := blk_cell HS.out.1.t 5
                  have b6 := blk_cell HS.out.1.t 6
                  have z0 := blk_frozen HS.out.1.t 0
                  have z1 := blk_frozen HS.out.1.t 1
                  have z2 := blk_frozen HS.out.1.t 2
                  have z3 := blk_frozen HS.out.1.t 3
                  have z4 := blk_frozen HS.out.1.t 4
                  have z5 := blk_frozen HS.out.1.t 5
                  have z6 := blk_frozen HS.out.1.t 6
                  have x0 := blk_cell HS.out.2 0
                  have x1 := blk_cell HS.out.2 1
                  have x2 := blk_cell HS.out.2 2
                  have x3 := blk_cell HS.out.2 3
                  have x4 := blk_cell HS.out.2 4
                  have x5 := blk_cell HS.out.2 5
                  have x6 := blk_cell HS.out.2 6
                  clear hwA hga
                  go_wp2
                  rw [HRR.out]
                  refine bodyPost_ret (results_ct rfl _ _ w.heap.size 58 #[.int .i64 2, .int .i64 i, .int .i64 j, .string ⟨#[]⟩, .string ⟨#[]⟩, .int .u64 V, .bool true] (0, 0) _ rfl (blk_put (blk_put (blk_put (blk_put (blk_put (blk_put (blk_put HS.out.1.t 0 _ rfl) 1 _ rfl) 2 _ rfl) 3 _ rfl) 4 _ rfl) 5 _ rfl) 6 _ rfl) Tryz.underlying58 rfl (by kernel_rfl)) rfl ?_
                  exact ⟨rfl, (Below.setCell (Below.setCell (Below.setCell (Below.setCell (Below.setCell (Below.setCell (Below.setCell HS.out.1.b (p := ⟨w.heap.size, 0, none⟩) (Nat.le_refl _) _) (p := ⟨w.heap.size, 1, none⟩) (Nat.le_refl _) _) (p := ⟨w.heap.size, 2, none⟩) (Nat.le_refl _) _) (p := ⟨w.heap.size, 3, none⟩) (Nat.le_refl _) _) (p := ⟨w.heap.size, 4, none⟩) (Nat.le_refl _) _) (p := ⟨w.heap.size, 5, none⟩) (Nat.le_refl _) _) (p := ⟨w.heap.size, 6, none⟩) (Nat.le_refl _) _)⟩
        · have k2 : ¬ (2 : Int) < (t.size : Int) := by omega
          have z2 : decide ((2 : Int) < (t.size : Int)) = false := decide_eq_false k2
          clear E0 E1
          have hm1 : t.size - 1 < t.size := by omega
          have hbt := by_at t (t.size - 1) hm1
          obtain ⟨c9, hc9⟩ : ∃ c, by_ t (t.size - 1) = c := ⟨_, rfl⟩
          rw [hc9] at hbt
          have hbz9 : ((t[t.size - 1]'hm1).toNat : Int) = (c9 : Int) := by rw [hbt]
          obtain ⟨m, hm⟩ : ∃ m, m = t.size - 1 := ⟨_, rfl⟩
          have wm : IntKind.i64.wrap ((t.size : Int) - 1) = (m : Int) := by rw [IntKind.wrap_i64]; have := HH.out.2; have := HT.out.1; omega
          have hHm := Lib.hid hm
          have HC9 := Lib.hid hc9
          clear hbt
          revert hm1 hbz9
          rw [← hm]
          intro hm1 hbz9
          clear hc9 hm
          by_cases hb : c9 = 98
          · have e98 : ((c9 : Int) == 98) = true := by rw [beq_iff_eq]; omega
            have hv := fun w' => reads_c (t.extract 0 m) 10 (.inl rfl) (by rw [ByteArray.size_extract]; have := HH.out.2; have := HT.out.1; omega) (all_ext t 0 m HT.out.2.1) w'
            obtain ⟨V, hV⟩ : ∃ V, (valS (t.extract 0 m).data.toList 10).1 = V := ⟨_, rfl⟩
            obtain ⟨Y, hY⟩ : ∃ Y, (valS (t.extract 0 m).data.toList 10).2 = Y := ⟨_, rfl⟩
            have hRR : R = (⟨3, i, j, (t.extract m t.size), ⟨#[]⟩, V, false⟩, Y) := by
              rw [HT.out.2.2]
              unfold numT
              rw [if_neg (fun h => h2 h.1), if_neg (fun h => h2 h.1), if_pos (by rw [HC9.out]; exact .inl hb), ← hHm.out, hV, hY]
            rw [hV, hY] at hv
            have HV := Lib.hid hv
            have HRR := Lib.hid hRR
            clear hv hV hY hRR hb
            go_upto_region 20 with (first | (go_at_call 66; refine (HV.out _).mono ?_; rintro e6 w6 ⟨rfl, h6⟩; subst h6))
            have HS := Lib.hid (HX.out.box (Below.refl _ _) #[.int .i64 3, .int .i64 i, .int .i64 j, .string (t.extract m t.size), .string ⟨#[]⟩, .int .u64 V, .bool false] 58)
            obtain ⟨wA, hwA⟩ : ∃ q, w5.alloc (.cells #[.int .i64 3, .int .i64 i, .int .i64 j, .string (t.extract m t.size), .string ⟨#[]⟩, .int .u64 V, .bool false] 58) = q := ⟨_, rfl⟩
            obtain ⟨ga, hga⟩ : ∃ q, w5.heap.size = q := ⟨_, rfl⟩
            rw [hwA, hga] at HS ⊢
            have b0 := blk_cell HS.out.1.t 0
            have b1 := blk_cell HS.out.1.t 1
            have b2 := blk_cell HS.out.1.t 2
            have b3 := blk_cell HS.out.1.t 3
            have b4 := blk_cell HS.out.1.t 4
            have b5 := blk_cell HS.out.1.t 5
            have b6 := blk_cell HS.out.1.t 6
            have z0 := blk_frozen HS.out.1.t 0
            have z1 := blk_frozen HS.out.1.t 1
            have z2 := blk_frozen HS.out.1.t 2
            have z3 := blk_frozen HS.out.1.t 3
            have z4 := blk_frozen HS.out.1.t 4
            have z5 := blk_frozen HS.out.1.t 5
            have z6 := blk_frozen HS.out.1.t 6
            have x0 := blk_cell HS.out.2 0
            have x1 := blk_cell HS.out.2 1
            have x2 := blk_cell HS.out.2 2
            have x3 := blk_cell HS.out.2 3
            have x4 := blk_cell HS.out.2 4
            have x5 := blk_cell HS.out.2 5
            have x6 := blk_cell HS.out.2 6
            clear hwA hga
            go_wp2
            rw [HRR.out]
            refine bodyPost_ret (results_ct rfl _ _ w.heap.size 58 #[.int .i64 3, .int .i64 i, .int .i64 j, .string (t.extract m t.size), .string ⟨#[]⟩, .int .u64 V, .bool false] (0, 0) _ rfl (blk_put (blk_put (blk_put (blk_put (blk_put (blk_put (blk_put HS.out.1.t 0 _ rfl) 1 _ rfl) 2 _ rfl) 3 _ rfl) 4 _ rfl) 5 _ rfl) 6 _ rfl) Tryz.underlying58 rfl (by kernel_rfl)) rfl ?_
            exact ⟨rfl, (Below.setCell (Below.setCell (Below.setCell (Below.setCell (Below.setCell (Below.setCell (Below.setCell HS.out.1.b (p := ⟨w.heap.size, 0, none⟩) (Nat.le_refl _) _) (p := ⟨w.heap.size, 1, none⟩) (Nat.le_refl _) _) (p := ⟨w.heap.size, 2, none⟩) (Nat.le_refl _) _) (p := ⟨w.heap.size, 3, none⟩) (Nat.le_refl _) _) (p := ⟨w.heap.size, 4, none⟩) (Nat.le_refl _) _) (p := ⟨w.heap.size, 5, none⟩) (Nat.le_refl _) _) (p := ⟨w.heap.size, 6, none⟩) (Nat.le_refl _) _)⟩
          · have e98 : ((c9 : Int) == 98) = false := by rw [beq_eq_false_iff_ne]; omega
            by_cases hb2 : c9 = 102
            · have e102 : ((c9 : Int) == 102) = true := by rw [beq_iff_eq]; omega
              have hv := fun w' => reads_c (t.extract 0 m) 10 (.inl rfl) (by rw [ByteArray.size_extract]; have := HH.out.2; have := HT.out.1; omega) (all_ext t 0 m HT.out.2.1) w'
              obtain ⟨V, hV⟩ : ∃ V, (valS (t.extract 0 m).data.toList 10).1 = V := ⟨_, rfl⟩
              obtain ⟨Y, hY⟩ : ∃ Y, (valS (t.extract 0 m).data.toList 10).2 = Y := ⟨_, rfl⟩
              have hRR : R = (⟨3, i, j, (t.extract m t.size), ⟨#[]⟩, V, false⟩, Y) := by
                rw [HT.out.2.2]
                unfold numT
                rw [if_neg (fun h => h2 h.1), if_neg (fun h => h2 h.1), if_pos (by rw [HC9.out]; exact .inr hb2), ← hHm.out, hV, hY]
              rw [hV, hY] at hv
              have HV := Lib.hid hv
              have HRR := Lib.hid hRR
              clear hv hV hY hRR hb hb2
              go_upto_region 20 with (first | (go_at_call 66; refine (HV.out _).mono ?_; rintro e6 w6 ⟨rfl, h6⟩; subst h6))
              have HS := Lib.hid (HX.out.box (Below.refl _ _) #[.int .i64 3, .int .i64 i, .int .i64 j, .string (t.extract m t.size), .string ⟨#[]⟩, .int .u64 V, .bool false] 58)
              obtain ⟨wA, hwA⟩ : ∃ q, w5.alloc (.cells #[.int .i64 3, .int .i64 i, .int .i64 j, .string (t.extract m t.size), .string ⟨#[]⟩, .int .u64 V, .bool false] 58) = q := ⟨_, rfl⟩
              obtain ⟨ga, hga⟩ : ∃ q, w5.heap.size = q := ⟨_, rfl⟩
              rw [hwA, hga] at HS ⊢
              have b0 := blk_cell HS.out.1.t 0
              have b1 := blk_cell HS.out.1.t 1
              have b2 := blk_cell HS.out.1.t 2
              have b3 := blk_cell HS.out.1.t 3
              have b4 := blk_cell HS.out.1.t 4
              have b5 := blk_cell HS.out.1.t 5
              have b6 := blk_cell HS.out.1.t 6
              have z0 := blk_frozen HS.out.1.t 0
              have z1 := blk_frozen HS.out.1.t 1
              have z2 := blk_frozen HS.out.1.t 2
              have z3 := blk_frozen HS.out.1.t 3
              have z4 := blk_frozen HS.out.1.t 4
              have z5 := blk_frozen HS.out.1.t 5
              have z6 := blk_frozen HS.out.1.t 6
              have x0 := blk_cell HS.out.2 0
              have x1 := blk_cell HS.out.2 1
              have x2 := blk_cell HS.out.2 2
              have x3 := blk_cell HS.out.2 3
              have x4 := blk_cell HS.out.2 4
              have x5 := blk_cell HS.out.2 5
              have x6 := blk_cell HS.out.2 6
              clear hwA hga
              go_wp2
              rw [HRR.out]
              refine bodyPost_ret (results_ct rfl _ _ w.heap.size 58 #[.int .i64 3, .int .i64 i, .int .i64 j, .string (t.extract m t.size), .string ⟨#[]⟩, .int .u64 V, .bool false] (0, 0) _ rfl (blk_put (blk_put (blk_put (blk_put (blk_put (blk_put (blk_put HS.out.1.t 0 _ rfl) 1 _ rfl) 2 _ rfl) 3 _ rfl) 4 _ rfl) 5 _ rfl) 6 _ rfl) Tryz.underlying58 rfl (by kernel_rfl)) rfl ?_
              exact ⟨rfl, (Below.setCell (Below.setCell (Below.setCell (Below.setCell (Below.setCell (Below.setCell (Below.setCell HS.out.1.b (p := ⟨w.heap.size, 0, none⟩) (Nat.le_refl _) _) (p := ⟨w.heap.size, 1, none⟩) (Nat.le_refl _) _) (p := ⟨w.heap.size, 2, none⟩) (Nat.le_refl _) _) (p := ⟨w.heap.size, 3, none⟩) (Nat.le_refl _) _) (p := ⟨w.heap.size, 4, none⟩) (Nat.le_refl _) _) (p := ⟨w.heap.size, 5, none⟩) (Nat.le_refl _) _) (p := ⟨w.heap.size, 6, none⟩) (Nat.le_refl _) _)⟩
            · have e102 : ((c9 : Int) == 102) = false := by rw [beq_eq_false_iff_ne]; omega
              have hv := fun w' => reads_c t 10 (.inl rfl) (by have := HH.out.2; have := HT.out.1; omega) HT.out.2.1 w'
              obtain ⟨V, hV⟩ : ∃ V, (valS t.data.toList 10).1 = V := ⟨_, rfl⟩
              obtain ⟨Y, hY⟩ : ∃ Y, (valS t.data.toList 10).2 = Y := ⟨_, rfl⟩
              have hRR : R = (⟨2, i, j, ⟨#[]⟩, ⟨#[]⟩, V, true⟩, Y) := by
                rw [HT.out.2.2]
                unfold numT
                rw [if_neg (fun h => h2 h.1), if_neg (fun h => h2 h.1), if_neg (by rw [HC9.out]; exact fun h => h.elim hb hb2), hV, hY]
              rw [hV, hY] at hv
              have HV := Lib.hid hv
              have HRR := Lib.hid hRR
              clear hv hV hY hRR hb hb2
              go_upto_region 20 with (first | (go_at_call 66; refine (HV.out _).mono ?_; rintro e6 w6 ⟨rfl, h6⟩; subst h6))
              have HS := Lib.hid (HX.out.box (Below.refl _ _) #[.int .i64 2, .int .i64 i, .int .i64 j, .string ⟨#[]⟩, .string ⟨#[]⟩, .int .u64 V, .bool true] 58)
              obtain ⟨wA, hwA⟩ : ∃ q, w5.alloc (.cells #[.int .i64 2, .int .i64 i, .int .i64 j, .string ⟨#[]⟩, .string ⟨#[]⟩, .int .u64 V, .bool true] 58) = q := ⟨_, rfl⟩
              obtain ⟨ga, hga⟩ : ∃ q, w5.heap.size = q := ⟨_, rfl⟩
              rw [hwA, hga] at HS ⊢
              have b0 := blk_cell HS.out.1.t 0
              have b1 := blk_cell HS.out.1.t 1
              have b2 := blk_cell HS.out.1.t 2
              have b3 := blk_cell HS.out.1.t 3
              have b4 := blk_cell HS.out.1.t 4
              have b5 := blk_cell HS.out.1.t 5
              have b6 := blk_cell HS.out.1.t 6
              have z0 := blk_frozen HS.out.1.t 0
              have z1 := blk_frozen HS.out.1.t 1
              have z2 := blk_frozen HS.out.1.t 2
              have z3 := blk_frozen HS.out.1.t 3
              have z4 := blk_frozen HS.out.1.t 4
              have z5 := blk_frozen HS.out.1.t 5
              have z6 := blk_frozen HS.out.1.t 6
              have x0 := blk_cell HS.out.2 0
              have x1 := blk_cell HS.out.2 1
              have x2 := blk_cell HS.out.2 2
              have x3 := blk_cell HS.out.2 3
              have x4 := blk_cell HS.out.2 4
              have x5 := blk_cell HS.out.2 5
              have x6 := blk_cell HS.out.2 6
              clear hwA hga
              go_wp2
              rw [HRR.out]
              refine bodyPost_ret (results_ct rfl _ _ w.heap.size 58 #[.int .i64 2, .int .i64 i, .int .i64 j, .string ⟨#[]⟩, .string ⟨#[]⟩, .int .u64 V, .bool true] (0, 0) _ rfl (blk_put (blk_put (blk_put (blk_put (blk_put (blk_put (blk_put HS.out.1.t 0 _ rfl) 1 _ rfl) 2 _ rfl) 3 _ rfl) 4 _ rfl) 5 _ rfl) 6 _ rfl) Tryz.underlying58 rfl (by kernel_rfl)) rfl ?_
              exact ⟨rfl, (Below.setCell (Below.setCell (Below.setCell (Below.setCell (Below.setCell (Below.setCell (Below.setCell HS.out.1.b (p := ⟨w.heap.size, 0, none⟩) (Nat.le_refl _) _) (p := ⟨w.heap.size, 1, none⟩) (Nat.le_refl _) _) (p := ⟨w.heap.size, 2, none⟩) (Nat.le_refl _) _) (p := ⟨w.heap.size, 3, none⟩) (Nat.le_refl _) _) (p := ⟨w.heap.size, 4, none⟩) (Nat.le_refl _) _) (p := ⟨w.heap.size, 5, none⟩) (Nat.le_refl _) _) (p := ⟨w.heap.size, 6, none⟩) (Nat.le_refl _) _)⟩
end Go.Proofs.YtbmnifnahbehbaaGreatDoor

/- The document's next. -/
set_option linter.unusedVariables false
set_option linter.unusedSimpArgs false
namespace Go.Proofs.YtbmnifnahbehbaaGreatDoor
open Go.RowKit Go.Lib Go.Proofs.YtbmnifnahbehbaaGreatDoorW.PrintWords Go.Proofs.YtbmnifnahbehbaaGreatDoorW.PrintMore Go.Proofs.YtbmnifnahbehbaaGreatDoorW.PrintLast
open AvP
/-- The results' boxes beside what is made. -/
structure NxB (w : World) (g2 : Nat) (wx : World) : Prop where
  b : Below w.heap.size w wx
  t : wx.heap[w.heap.size]? = some (.cells zTc 58 (0, 0))
  f : wx.heap[g2]? = some (.cells #[.int .i64 0, .int .i64 0] 53 (0, 0))
  n : w.heap.size ≠ g2
  le : w.heap.size ≤ g2
theorem NxB.of (w : World) : NxB w (w.heap.size + 1) ((w.alloc zT).alloc zF) := by
  have hb : Below w.heap.size w (w.alloc zT) := (Below.refl _ w).alloc (Nat.le_refl _) _
  have hs : (w.alloc zT).heap.size = w.heap.size + 1 := by simp
  exact ⟨hb.alloc hb.size _, blk_alloc (blk_new w zT) _, hs ▸ blk_new _ _, by omega, by omega⟩
theorem NxB.below {w wx wy : World} {g2 : Nat} (h : NxB w g2 wx) (hb : Below wx.heap.size wx wy) : NxB w g2 wy := ⟨h.b.trans (hb.mono h.b.size), blk_below h.t hb, blk_below h.f hb, h.n, h.le⟩
theorem NxB.box {w wx w5 : World} {g2 : Nat} (h : NxB w g2 wx) (hb : Below wx.heap.size wx w5) (cs : Array Value) (tc : TypeId) : NxB w g2 (w5.alloc (.cells cs tc)) ∧ (w5.alloc (.cells cs tc)).heap[w5.heap.size]? = some (.cells cs tc (0, 0)) :=
  ⟨h.below (hb.alloc hb.size _), blk_new _ _⟩
/-- What next answers. -/
def NextD (w : World) (x : DTk) (a y : Int) (e : Ending) (w' : World) : Prop := e = .returned (.tuple #[aggD x, .agg #[.int .i64 a, .int .i64 y]]) ∧ Below w.heap.size w w'
theorem toList_nil {m : ByteArray} (h : m.toList = []) : m = ⟨#[]⟩ := by
  rw [ByteArray.toList_eq] at h
  obtain ⟨⟨l⟩⟩ := m
  cases h
  rfl
theorem toList_e : ((⟨#[]⟩ : ByteArray).toList == []) = true := by rw [ByteArray.toList_eq]; rfl
theorem toList_e' : ((⟨#[]⟩ : ByteArray).toList != []) = false := by rw [ByteArray.toList_eq]; rfl
theorem markS_le (s : ByteArray) (i : Nat) : (markS s i).size ≤ 2 := by
  unfold markS
  split
  · rw [ByteArray.size_extract]; omega
  · split
    · rw [ByteArray.size_extract]; omega
    · exact Nat.zero_le _
set_option maxHeartbeats 8000000 in
set_option maxRecDepth 100000 in
theorem next1_c {w : World} {i c : Nat} {s : ByteArray} (hi : i < s.size) (hc : by_ s i = c) (hdg : digN c = true) {x0 x1 x2 x5 : Int} {x3 x4 : ByteArray} {x6 : Bool} {y : Int} (hG : Glob w) (hC : ∀ W, Glob W → Calls Tryz.prog 47 #[.string s, .int .i64 (i : Int)] W fun e w' => e = .returned (.tuple #[.agg #[.int .i64 x0, .int .i64 x1, .int .i64 x2, .string x3, .string x4, .int .u64 x5, .bool x6], .int .i64 y]) ∧ Below W.heap.size W w') : Calls Tryz.prog 27 #[.string s, .int .i64 (i : Int)] w (NextD w ⟨x0, x1, x2, x3, x4, x5, x6⟩ (i : Int) y) := by
  have hbz : ((s[i]'hi).toNat : Int) = (c : Int) := by rw [by_at s i hi, hc]
  have hD := fun w' => dig_c c w'
  rw [hdg] at hD
  have HD := Lib.hid hD
  clear hD hdg hc

  have HC := Lib.hid hC
  have HG := Lib.hid hG
  clear hC hG
  go_enter Tryz.func27, Tryz.ntmps27
  go_upto_region 1 with (fail)
  have HS := Lib.hid (NxB.of w)
  obtain ⟨g2, hg2⟩ : ∃ q, w.heap.size + 1 = q := ⟨_, rfl⟩
  obtain ⟨wB, hwB⟩ : ∃ q, (w.alloc zT).alloc zF = q := ⟨_, rfl⟩
  rw [hg2, hwB] at HS
  rw [hg2, hwB]
  clear hg2 hwB
  have HSB := HS
  clear HS
  go_upto_region 4 with (first
    | (go_at_call 46; refine (HD.out _).mono ?_; rintro e5 w5 ⟨rfl, h5⟩; subst h5)
    | (go_at_call 47; refine (HC.out _ (Glob.step HG.out HSB.out.b)).mono ?_; rintro e6 w6 ⟨rfl, hb6⟩; have HS6 := Lib.hid (HSB.out.box hb6 #[.int .i64 x0, .int .i64 x1, .int .i64 x2, .string x3, .string x4, .int .u64 x5, .bool x6] 58); clear hb6))
  obtain ⟨wA, hwA⟩ : ∃ q, w6.alloc (.cells #[.int .i64 x0, .int .i64 x1, .int .i64 x2, .string x3, .string x4, .int .u64 x5, .bool x6] 58) = q := ⟨_, rfl⟩
  obtain ⟨ga, hga⟩ : ∃ q, w6.heap.size = q := ⟨_, rfl⟩
  rw [hwA, hga] at HS6 ⊢
  have HS := Lib.hid HS6.out.1
  have b0 := blk_cell HS.out.t 0
  have b1 := blk_cell HS.out.t 1
  have b2 := blk_cell HS.out.t 2
  have b3 := blk_cell HS.out.t 3
  have b4 := blk_cell HS.out.t 4
  have b5 := blk_cell HS.out.t 5
  have b6 := blk_cell HS.out.t 6
  have z0 := blk_frozen HS.out.t 0
  have z1 := blk_frozen HS.out.t 1
  have z2 := blk_frozen HS.out.t 2
  have z3 := blk_frozen HS.out.t 3
  have z4 := blk_frozen HS.out.t 4
  have z5 := blk_frozen HS.out.t 5
  have z6 := blk_frozen HS.out.t 6
  have c0 := blk_cell HS.out.f 0
  have c1 := blk_cell HS.out.f 1
  have y0 := blk_frozen HS.out.f 0
  have y1 := blk_frozen HS.out.f 1
  have hne := HS.out.n
  have k0 := blk_cell HS6.out.2 0
  have k1 := blk_cell HS6.out.2 1
  have k2 := blk_cell HS6.out.2 2
  have k3 := blk_cell HS6.out.2 3
  have k4 := blk_cell HS6.out.2 4
  have k5 := blk_cell HS6.out.2 5
  have k6 := blk_cell HS6.out.2 6
  clear hwA hga
  go_wp2
  refine bodyPost_ret (results_cc rfl _ _ w.heap.size g2 58 53 #[.int .i64 x0, .int .i64 x1, .int .i64 x2, .string x3, .string x4, .int .u64 x5, .bool x6] #[.int .i64 (i : Int), .int .i64 y] (0, 0) (0, 0) _ _ rfl (blk_far (blk_far (blk_put (blk_put (blk_put (blk_put (blk_put (blk_put (blk_put HS.out.t 0 _ rfl) 1 _ rfl) 2 _ rfl) 3 _ rfl) 4 _ rfl) 5 _ rfl) 6 _ rfl) (p := ⟨g2, 0, none⟩) HS.out.n _) (p := ⟨g2, 1, none⟩) HS.out.n _) Tryz.underlying58 rfl (by kernel_rfl) rfl (blk_put (blk_put (blk_far (blk_far (blk_far (blk_far (blk_far (blk_far (blk_far HS.out.f (p := ⟨w.heap.size, 0, none⟩) (Ne.symm HS.out.n) _) (p := ⟨w.heap.size, 1, none⟩) (Ne.symm HS.out.n) _) (p := ⟨w.heap.size, 2, none⟩) (Ne.symm HS.out.n) _) (p := ⟨w.heap.size, 3, none⟩) (Ne.symm HS.out.n) _) (p := ⟨w.heap.size, 4, none⟩) (Ne.symm HS.out.n) _) (p := ⟨w.heap.size, 5, none⟩) (Ne.symm HS.out.n) _) (p := ⟨w.heap.size, 6, none⟩) (Ne.symm HS.out.n) _) 0 _ rfl) 1 _ rfl) Tryz.underlying53 rfl (by kernel_rfl)) rfl ?_
  exact ⟨rfl, (Below.setCell (Below.setCell (Below.setCell (Below.setCell (Below.setCell (Below.setCell (Below.setCell (Below.setCell (Below.setCell HS.out.b (p := ⟨w.heap.size, 0, none⟩) (Nat.le_refl _) _) (p := ⟨w.heap.size, 1, none⟩) (Nat.le_refl _) _) (p := ⟨w.heap.size, 2, none⟩) (Nat.le_refl _) _) (p := ⟨w.heap.size, 3, none⟩) (Nat.le_refl _) _) (p := ⟨w.heap.size, 4, none⟩) (Nat.le_refl _) _) (p := ⟨w.heap.size, 5, none⟩) (Nat.le_refl _) _) (p := ⟨w.heap.size, 6, none⟩) (Nat.le_refl _) _) (p := ⟨g2, 0, none⟩) HS.out.le _) (p := ⟨g2, 1, none⟩) HS.out.le _)⟩
set_option maxHeartbeats 8000000 in
set_option maxRecDepth 100000 in
theorem next2a_c {w : World} {i c : Nat} {s : ByteArray} (hi : i < s.size) (hc : by_ s i = c) (hdg : digN c = false) (hq : c = 39) {x0 x1 x2 x5 : Int} {x3 x4 : ByteArray} {x6 : Bool} (hG : Glob w) (hC : ∀ W, Glob W → Calls Tryz.prog 48 #[.string s, .int .i64 (i : Int)] W fun e w' => e = .returned (.tuple #[.agg #[.int .i64 x0, .int .i64 x1, .int .i64 x2, .string x3, .string x4, .int .u64 x5, .bool x6], .bool true]) ∧ Below W.heap.size W w') : Calls Tryz.prog 27 #[.string s, .int .i64 (i : Int)] w (NextD w ⟨x0, x1, x2, x3, x4, x5, x6⟩ 0 0) := by
  have hbz : ((s[i]'hi).toNat : Int) = (c : Int) := by rw [by_at s i hi, hc]
  have hD := fun w' => dig_c c w'
  rw [hdg] at hD
  have HD := Lib.hid hD
  clear hD hdg hc
  have e39 : ((c : Int) == 39) = true := by rw [beq_iff_eq]; omega
  clear hq
  have HC := Lib.hid hC
  have HG := Lib.hid hG
  clear hC hG
  go_enter Tryz.func27, Tryz.ntmps27
  go_upto_region 1 with (fail)
  have HS := Lib.hid (NxB.of w)
  obtain ⟨g2, hg2⟩ : ∃ q, w.heap.size + 1 = q := ⟨_, rfl⟩
  obtain ⟨wB, hwB⟩ : ∃ q, (w.alloc zT).alloc zF = q := ⟨_, rfl⟩
  rw [hg2, hwB] at HS
  rw [hg2, hwB]
  clear hg2 hwB
  have HSB := HS
  clear HS
  go_upto_region 7 with (first
    | (go_at_call 46; refine (HD.out _).mono ?_; rintro e5 w5 ⟨rfl, h5⟩; subst h5)
    | (go_at_call 48; refine (HC.out _ (Glob.step HG.out HSB.out.b)).mono ?_; rintro e6 w6 ⟨rfl, hb6⟩; have HS6 := Lib.hid (HSB.out.box hb6 #[.int .i64 x0, .int .i64 x1, .int .i64 x2, .string x3, .string x4, .int .u64 x5, .bool x6] 58); clear hb6))
  obtain ⟨wA, hwA⟩ : ∃ q, w6.alloc (.cells #[.int .i64 x0, .int .i64 x1, .int .i64 x2, .string x3, .string x4, .int .u64 x5, .bool x6] 58) = q := ⟨_, rfl⟩
  obtain ⟨ga, hga⟩ : ∃ q, w6.heap.size = q := ⟨_, rfl⟩
  rw [hwA, hga] at HS6 ⊢
  have HS := Lib.hid HS6.out.1
  have b0 := blk_cell HS.out.t 0
  have b1 := blk_cell HS.out.t 1
  have b2 := blk_cell HS.out.t 2
  have b3 := blk_cell HS.out.t 3
  have b4 := blk_cell HS.out.t 4
  have b5 := blk_cell HS.out.t 5
  have b6 := blk_cell HS.out.t 6
  have z0 := blk_frozen HS.out.t 0
  have z1 := blk_frozen HS.out.t 1
  have z2 := blk_frozen HS.out.t 2
  have z3 := blk_frozen HS.out.t 3
  have z4 := blk_frozen HS.out.t 4
  have z5 := blk_frozen HS.out.t 5
  have z6 := blk_frozen HS.out.t 6
  have c0 := blk_cell HS.out.f 0
  have c1 := blk_cell HS.out.f 1
  have y0 := blk_frozen HS.out.f 0
  have y1 := blk_frozen HS.out.f 1
  have hne := HS.out.n
  have k0 := blk_cell HS6.out.2 0
  have k1 := blk_cell HS6.out.2 1
  have k2 := blk_cell HS6.out.2 2
  have k3 := blk_cell HS6.out.2 3
  have k4 := blk_cell HS6.out.2 4
  have k5 := blk_cell HS6.out.2 5
  have k6 := blk_cell HS6.out.2 6
  clear hwA hga
  go_wp2
  refine bodyPost_ret (results_cc rfl _ _ w.heap.size g2 58 53 #[.int .i64 x0, .int .i64 x1, .int .i64 x2, .string x3, .string x4, .int .u64 x5, .bool x6] #[.int .i64 0, .int .i64 0] (0, 0) (0, 0) _ _ rfl (blk_far (blk_far (blk_put (blk_put (blk_put (blk_put (blk_put (blk_put (blk_put HS.out.t 0 _ rfl) 1 _ rfl) 2 _ rfl) 3 _ rfl) 4 _ rfl) 5 _ rfl) 6 _ rfl) (p := ⟨g2, 0, none⟩) HS.out.n _) (p := ⟨g2, 1, none⟩) HS.out.n _) Tryz.underlying58 rfl (by kernel_rfl) rfl (blk_put (blk_put (blk_far (blk_far (blk_far (blk_far (blk_far (blk_far (blk_far HS.out.f (p := ⟨w.heap.size, 0, none⟩) (Ne.symm HS.out.n) _) (p := ⟨w.heap.size, 1, none⟩) (Ne.symm HS.out.n) _) (p := ⟨w.heap.size, 2, none⟩) (Ne.symm HS.out.n) _) (p := ⟨w.heap.size, 3, none⟩) (Ne.symm HS.out.n) _) (p := ⟨w.heap.size, 4, none⟩) (Ne.symm HS.out.n) _) (p := ⟨w.heap.size, 5, none⟩) (Ne.symm HS.out.n) _) (p := ⟨w.heap.size, 6, none⟩) (Ne.symm HS.out.n) _) 0 _ rfl) 1 _ rfl) Tryz.underlying53 rfl (by kernel_rfl)) rfl ?_
  exact ⟨rfl, (Below.setCell (Below.setCell (Below.setCell (Below.setCell (Below.setCell (Below.setCell (Below.setCell (Below.setCell (Below.setCell HS.out.b (p := ⟨w.heap.size, 0, none⟩) (Nat.le_refl _) _) (p := ⟨w.heap.size, 1, none⟩) (Nat.le_refl _) _) (p := ⟨w.heap.size, 2, none⟩) (Nat.le_refl _) _) (p := ⟨w.heap.size, 3, none⟩) (Nat.le_refl _) _) (p := ⟨w.heap.size, 4, none⟩) (Nat.le_refl _) _) (p := ⟨w.heap.size, 5, none⟩) (Nat.le_refl _) _) (p := ⟨w.heap.size, 6, none⟩) (Nat.le_refl _) _) (p := ⟨g2, 0, none⟩) HS.out.le _) (p := ⟨g2, 1, none⟩) HS.out.le _)⟩
set_option maxHeartbeats 8000000 in
set_option maxRecDepth 100000 in
theorem next2b_c {w : World} {i c : Nat} {s : ByteArray} (hi : i < s.size) (hc : by_ s i = c) (hdg : digN c = false) (hq : c = 39) (hG : Glob w) (hC : ∀ W, Glob W → Calls Tryz.prog 48 #[.string s, .int .i64 (i : Int)] W fun e w' => e = .returned (.tuple #[.agg #[.int .i64 0, .int .i64 0, .int .i64 0, .string ⟨#[]⟩, .string ⟨#[]⟩, .int .u64 0, .bool false], .bool false]) ∧ Below W.heap.size W w') : Calls Tryz.prog 27 #[.string s, .int .i64 (i : Int)] w (NextD w PLx.z58 (i : Int) 80) := by
  have hbz : ((s[i]'hi).toNat : Int) = (c : Int) := by rw [by_at s i hi, hc]
  have hD := fun w' => dig_c c w'
  rw [hdg] at hD
  have HD := Lib.hid hD
  clear hD hdg hc
  have e39 : ((c : Int) == 39) = true := by rw [beq_iff_eq]; omega
  clear hq
  have HC := Lib.hid hC
  have HG := Lib.hid hG
  clear hC hG
  go_enter Tryz.func27, Tryz.ntmps27
  go_upto_region 1 with (fail)
  have HS := Lib.hid (NxB.of w)
  obtain ⟨g2, hg2⟩ : ∃ q, w.heap.size + 1 = q := ⟨_, rfl⟩
  obtain ⟨wB, hwB⟩ : ∃ q, (w.alloc zT).alloc zF = q := ⟨_, rfl⟩
  rw [hg2, hwB] at HS
  rw [hg2, hwB]
  clear hg2 hwB
  have HSB := HS
  clear HS
  go_upto_region 7 with (first
    | (go_at_call 46; refine (HD.out _).mono ?_; rintro e5 w5 ⟨rfl, h5⟩; subst h5)
    | (go_at_call 48; refine (HC.out _ (Glob.step HG.out HSB.out.b)).mono ?_; rintro e6 w6 ⟨rfl, hb6⟩; have HS6 := Lib.hid (HSB.out.box hb6 #[.int .i64 0, .int .i64 0, .int .i64 0, .string ⟨#[]⟩, .string ⟨#[]⟩, .int .u64 0, .bool false] 58); clear hb6))
  obtain ⟨wA, hwA⟩ : ∃ q, w6.alloc (.cells #[.int .i64 0, .int .i64 0, .int .i64 0, .string ⟨#[]⟩, .string ⟨#[]⟩, .int .u64 0, .bool false] 58) = q := ⟨_, rfl⟩
  obtain ⟨ga, hga⟩ : ∃ q, w6.heap.size = q := ⟨_, rfl⟩
  rw [hwA, hga] at HS6 ⊢
  have HS := Lib.hid HS6.out.1
  have b0 := blk_cell HS.out.t 0
  have b1 := blk_cell HS.out.t 1
  have b2 := blk_cell HS.out.t 2
  have b3 := blk_cell HS.out.t 3
  have b4 := blk_cell HS.out.t 4
  have b5 := blk_cell HS.out.t 5
  have b6 := blk_cell HS.out.t 6
  have z0 := blk_frozen HS.out.t 0
  have z1 := blk_frozen HS.out.t 1
  have z2 := blk_frozen HS.out.t 2
  have z3 := blk_frozen HS.out.t 3
  have z4 := blk_frozen HS.out.t 4
  have z5 := blk_frozen HS.out.t 5
  have z6 := blk_frozen HS.out.t 6
  have c0 := blk_cell HS.out.f 0
  have c1 := blk_cell HS.out.f 1
  have y0 := blk_frozen HS.out.f 0
  have y1 := blk_frozen HS.out.f 1
  have hne := HS.out.n
  have k0 := blk_cell HS6.out.2 0
  have k1 := blk_cell HS6.out.2 1
  have k2 := blk_cell HS6.out.2 2
  have k3 := blk_cell HS6.out.2 3
  have k4 := blk_cell HS6.out.2 4
  have k5 := blk_cell HS6.out.2 5
  have k6 := blk_cell HS6.out.2 6
  clear hwA hga
  go_wp2
  refine bodyPost_ret (results_cc rfl _ _ w.heap.size g2 58 53 #[.int .i64 0, .int .i64 0, .int .i64 0, .string ⟨#[]⟩, .string ⟨#[]⟩, .int .u64 0, .bool false] #[.int .i64 (i : Int), .int .i64 80] (0, 0) (0, 0) _ _ rfl (blk_far (blk_far (blk_put (blk_put (blk_put (blk_put (blk_put (blk_put (blk_put HS.out.t 0 _ rfl) 1 _ rfl) 2 _ rfl) 3 _ rfl) 4 _ rfl) 5 _ rfl) 6 _ rfl) (p := ⟨g2, 0, none⟩) HS.out.n _) (p := ⟨g2, 1, none⟩) HS.out.n _) Tryz.underlying58 rfl (by kernel_rfl) rfl (blk_put (blk_put (blk_far (blk_far (blk_far (blk_far (blk_far (blk_far (blk_far HS.out.f (p := ⟨w.heap.size, 0, none⟩) (Ne.symm HS.out.n) _) (p := ⟨w.heap.size, 1, none⟩) (Ne.symm HS.out.n) _) (p := ⟨w.heap.size, 2, none⟩) (Ne.symm HS.out.n) _) (p := ⟨w.heap.size, 3, none⟩) (Ne.symm HS.out.n) _) (p := ⟨w.heap.size, 4, none⟩) (Ne.symm HS.out.n) _) (p := ⟨w.heap.size, 5, none⟩) (Ne.symm HS.out.n) _) (p := ⟨w.heap.size, 6, none⟩) (Ne.symm HS.out.n) _) 0 _ rfl) 1 _ rfl) Tryz.underlying53 rfl (by kernel_rfl)) rfl ?_
  exact ⟨rfl, (Below.setCell (Below.setCell (Below.setCell (Below.setCell (Below.setCell (Below.setCell (Below.setCell (Below.setCell (Below.setCell HS.out.b (p := ⟨w.heap.size, 0, none⟩) (Nat.le_refl _) _) (p := ⟨w.heap.size, 1, none⟩) (Nat.le_refl _) _) (p := ⟨w.heap.size, 2, none⟩) (Nat.le_refl _) _) (p := ⟨w.heap.size, 3, none⟩) (Nat.le_refl _) _) (p := ⟨w.heap.size, 4, none⟩) (Nat.le_refl _) _) (p := ⟨w.heap.size, 5, none⟩) (Nat.le_refl _) _) (p := ⟨w.heap.size, 6, none⟩) (Nat.le_refl _) _) (p := ⟨g2, 0, none⟩) HS.out.le _) (p := ⟨g2, 1, none⟩) HS.out.le _)⟩
set_option maxHeartbeats 8000000 in
set_option maxRecDepth 100000 in
theorem next3a_c {w : World} {i c : Nat} {s : ByteArray} (hi : i < s.size) (hc : by_ s i = c) (hdg : digN c = false) (hq : c = 34) {x0 x1 x2 x5 : Int} {x3 x4 : ByteArray} {x6 : Bool} (hG : Glob w) (hC : ∀ W, Glob W → Calls Tryz.prog 49 #[.string s, .int .i64 (i : Int)] W fun e w' => e = .returned (.tuple #[.agg #[.int .i64 x0, .int .i64 x1, .int .i64 x2, .string x3, .string x4, .int .u64 x5, .bool x6], .bool true]) ∧ Below W.heap.size W w') : Calls Tryz.prog 27 #[.string s, .int .i64 (i : Int)] w (NextD w ⟨x0, x1, x2, x3, x4, x5, x6⟩ 0 0) := by
  have hbz : ((s[i]'hi).toNat : Int) = (c : Int) := by rw [by_at s i hi, hc]
  have hD := fun w' => dig_c c w'
  rw [hdg] at hD
  have HD := Lib.hid hD
  clear hD hdg hc
  have e39 : ((c : Int) == 39) = false := by rw [beq_eq_false_iff_ne]; omega
  have e34 : ((c : Int) == 34) = true := by rw [beq_iff_eq]; omega
  clear hq
  have HC := Lib.hid hC
  have HG := Lib.hid hG
  clear hC hG
  go_enter Tryz.func27, Tryz.ntmps27
  go_upto_region 1 with (fail)
  have HS := Lib.hid (NxB.of w)
  obtain ⟨g2, hg2⟩ : ∃ q, w.heap.size + 1 = q := ⟨_, rfl⟩
  obtain ⟨wB, hwB⟩ : ∃ q, (w.alloc zT).alloc zF = q := ⟨_, rfl⟩
  rw [hg2, hwB] at HS
  rw [hg2, hwB]
  clear hg2 hwB
  have HSB := HS
  clear HS
  go_upto_region 12 with (first
    | (go_at_call 46; refine (HD.out _).mono ?_; rintro e5 w5 ⟨rfl, h5⟩; subst h5)
    | (go_at_call 49; refine (HC.out _ (Glob.step HG.out HSB.out.b)).mono ?_; rintro e6 w6 ⟨rfl, hb6⟩; have HS6 := Lib.hid (HSB.out.box hb6 #[.int .i64 x0, .int .i64 x1, .int .i64 x2, .string x3, .string x4, .int .u64 x5, .bool x6] 58); clear hb6))
  obtain ⟨wA, hwA⟩ : ∃ q, w6.alloc (.cells #[.int .i64 x0, .int .i64 x1, .int .i64 x2, .string x3, .string x4, .int .u64 x5, .bool x6] 58) = q := ⟨_, rfl⟩
  obtain ⟨ga, hga⟩ : ∃ q, w6.heap.size = q := ⟨_, rfl⟩
  rw [hwA, hga] at HS6 ⊢
  have HS := Lib.hid HS6.out.1
  have b0 := blk_cell HS.out.t 0
  have b1 := blk_cell HS.out.t 1
  have b2 := blk_cell HS.out.t 2
  have b3 := blk_cell HS.out.t 3
  have b4 := blk_cell HS.out.t 4
  have b5 := blk_cell HS.out.t 5
  have b6 := blk_cell HS.out.t 6
  have z0 := blk_frozen HS.out.t 0
  have z1 := blk_frozen HS.out.t 1
  have z2 := blk_frozen HS.out.t 2
  have z3 := blk_frozen HS.out.t 3
  have z4 := blk_frozen HS.out.t 4
  have z5 := blk_frozen HS.out.t 5
  have z6 := blk_frozen HS.out.t 6
  have c0 := blk_cell HS.out.f 0
  have c1 := blk_cell HS.out.f 1
  have y0 := blk_frozen HS.out.f 0
  have y1 := blk_frozen HS.out.f 1
  have hne := HS.out.n
  have k0 := blk_cell HS6.out.2 0
  have k1 := blk_cell HS6.out.2 1
  have k2 := blk_cell HS6.out.2 2
  have k3 := blk_cell HS6.out.2 3
  have k4 := blk_cell HS6.out.2 4
  have k5 := blk_cell HS6.out.2 5
  have k6 := blk_cell HS6.out.2 6
  clear hwA hga
  go_wp2
  refine bodyPost_ret (results_cc rfl _ _ w.heap.size g2 58 53 #[.int .i64 x0, .int .i64 x1, .int .i64 x2, .string x3, .string x4, .int .u64 x5, .bool x6] #[.int .i64 0, .int .i64 0] (0, 0) (0, 0) _ _ rfl (blk_far (blk_far (blk_put (blk_put (blk_put (blk_put (blk_put (blk_put (blk_put HS.out.t 0 _ rfl) 1 _ rfl) 2 _ rfl) 3 _ rfl) 4 _ rfl) 5 _ rfl) 6 _ rfl) (p := ⟨g2, 0, none⟩) HS.out.n _) (p := ⟨g2, 1, none⟩) HS.out.n _) Tryz.underlying58 rfl (by kernel_rfl) rfl (blk_put (blk_put (blk_far (blk_far (blk_far (blk_far (blk_far (blk_far (blk_far HS.out.f (p := ⟨w.heap.size, 0, none⟩) (Ne.symm HS.out.n) _) (p := ⟨w.heap.size, 1, none⟩) (Ne.symm HS.out.n) _) (p := ⟨w.heap.size, 2, none⟩) (Ne.symm HS.out.n) _) (p := ⟨w.heap.size, 3, none⟩) (Ne.symm HS.out.n) _) (p := ⟨w.heap.size, 4, none⟩) (Ne.symm HS.out.n) _) (p := ⟨w.heap.size, 5, none⟩) (Ne.symm HS.out.n) _) (p := ⟨w.heap.size, 6, none⟩) (Ne.symm HS.out.n) _) 0 _ rfl) 1 _ rfl) Tryz.underlying53 rfl (by kernel_rfl)) rfl ?_
  exact ⟨rfl, (Below.setCell (Below.setCell (Below.setCell (Below.setCell (Below.setCell (Below.setCell (Below.setCell (Below.setCell (Below.setCell HS.out.b (p := ⟨w.heap.size, 0, none⟩) (Nat.le_refl _) _) (p := ⟨w.heap.size, 1, none⟩) (Nat.le_refl _) _) (p := ⟨w.heap.size, 2, none⟩) (Nat.le_refl _) _) (p := ⟨w.heap.size, 3, none⟩) (Nat.le_refl _) _) (p := ⟨w.heap.size, 4, none⟩) (Nat.le_refl _) _) (p := ⟨w.heap.size, 5, none⟩) (Nat.le_refl _) _) (p := ⟨w.heap.size, 6, none⟩) (Nat.le_refl _) _) (p := ⟨g2, 0, none⟩) HS.out.le _) (p := ⟨g2, 1, none⟩) HS.out.le _)⟩
set_option maxHeartbeats 8000000 in
set_option maxRecDepth 100000 in
theorem next3b_c {w : World} {i c : Nat} {s : ByteArray} (hi : i < s.size) (hc : by_ s i = c) (hdg : digN c = false) (hq : c = 34) (hG : Glob w) (hC : ∀ W, Glob W → Calls Tryz.prog 49 #[.string s, .int .i64 (i : Int)] W fun e w' => e = .returned (.tuple #[.agg #[.int .i64 0, .int .i64 0, .int .i64 0, .string ⟨#[]⟩, .string ⟨#[]⟩, .int .u64 0, .bool false], .bool false]) ∧ Below W.heap.size W w') : Calls Tryz.prog 27 #[.string s, .int .i64 (i : Int)] w (NextD w PLx.z58 (i : Int) 80) := by
  have hbz : ((s[i]'hi).toNat : Int) = (c : Int) := by rw [by_at s i hi, hc]
  have hD := fun w' => dig_c c w'
  rw [hdg] at hD
  have HD := Lib.hid hD
  clear hD hdg hc
  have e39 : ((c : Int) == 39) = false := by rw [beq_eq_false_iff_ne]; omega
  have e34 : ((c : Int) == 34) = true := by rw [beq_iff_eq]; omega
  clear hq
  have HC := Lib.hid hC
  have HG := Lib.hid hG
  clear hC hG
  go_enter Tryz.func27, Tryz.ntmps27
  go_upto_region 1 with (fail)
  have HS := Lib.hid (NxB.of w)
  obtain ⟨g2, hg2⟩ : ∃ q, w.heap.size + 1 = q := ⟨_, rfl⟩
  obtain ⟨wB, hwB⟩ : ∃ q, (w.alloc zT).alloc zF = q := ⟨_, rfl⟩
  rw [hg2, hwB] at HS
  rw [hg2, hwB]
  clear hg2 hwB
  have HSB := HS
  clear HS
  go_upto_region 12 with (first
    | (go_at_call 46; refine (HD.out _).mono ?_; rintro e5 w5 ⟨rfl, h5⟩; subst h5)
    | (go_at_call 49; refine (HC.out _ (Glob.step HG.out HSB.out.b)).mono ?_; rintro e6 w6 ⟨rfl, hb6⟩; have HS6 := Lib.hid (HSB.out.box hb6 #[.int .i64 0, .int .i64 0, .int .i64 0, .string ⟨#[]⟩, .string ⟨#[]⟩, .int .u64 0, .bool false] 58); clear hb6))
  obtain ⟨wA, hwA⟩ : ∃ q, w6.alloc (.cells #[.int .i64 0, .int .i64 0, .int .i64 0, .string ⟨#[]⟩, .string ⟨#[]⟩, .int .u64 0, .bool false] 58) = q := ⟨_, rfl⟩
  obtain ⟨ga, hga⟩ : ∃ q, w6.heap.size = q := ⟨_, rfl⟩
  rw [hwA, hga] at HS6 ⊢
  have HS := Lib.hid HS6.out.1
  have b0 := blk_cell HS.out.t 0
  have b1 := blk_cell HS.out.t 1
  have b2 := blk_cell HS.out.t 2
  have b3 := blk_cell HS.out.t 3
  have b4 := blk_cell HS.out.t 4
  have b5 := blk_cell HS.out.t 5
  have b6 := blk_cell HS.out.t 6
  have z0 := blk_frozen HS.out.t 0
  have z1 := blk_frozen HS.out.t 1
  have z2 := blk_frozen HS.out.t 2
  have z3 := blk_frozen HS.out.t 3
  have z4 := blk_frozen HS.out.t 4
  have z5 := blk_frozen HS.out.t 5
  have z6 := blk_frozen HS.out.t 6
  have c0 := blk_cell HS.out.f 0
  have c1 := blk_cell HS.out.f 1
  have y0 := blk_frozen HS.out.f 0
  have y1 := blk_frozen HS.out.f 1
  have hne := HS.out.n
  have k0 := blk_cell HS6.out.2 0
  have k1 := blk_cell HS6.out.2 1
  have k2 := blk_cell HS6.out.2 2
  have k3 := blk_cell HS6.out.2 3
  have k4 := blk_cell HS6.out.2 4
  have k5 := blk_cell HS6.out.2 5
  have k6 := blk_cell HS6.out.2 6
  clear hwA hga
  go_wp2
  refine bodyPost_ret (results_cc rfl _ _ w.heap.size g2 58 53 #[.int .i64 0, .int .i64 0, .int .i64 0, .string ⟨#[]⟩, .string ⟨#[]⟩, .int .u64 0, .bool false] #[.int .i64 (i : Int), .int .i64 80] (0, 0) (0, 0) _ _ rfl (blk_far (blk_far (blk_put (blk_put (blk_put (blk_put (blk_put (blk_put (blk_put HS.out.t 0 _ rfl) 1 _ rfl) 2 _ rfl) 3 _ rfl) 4 _ rfl) 5 _ rfl) 6 _ rfl) (p := ⟨g2, 0, none⟩) HS.out.n _) (p := ⟨g2, 1, none⟩) HS.out.n _) Tryz.underlying58 rfl (by kernel_rfl) rfl (blk_put (blk_put (blk_far (blk_far (blk_far (blk_far (blk_far (blk_far (blk_far HS.out.f (p := ⟨w.heap.size, 0, none⟩) (Ne.symm HS.out.n) _) (p := ⟨w.heap.size, 1, none⟩) (Ne.symm HS.out.n) _) (p := ⟨w.heap.size, 2, none⟩) (Ne.symm HS.out.n) _) (p := ⟨w.heap.size, 3, none⟩) (Ne.symm HS.out.n) _) (p := ⟨w.heap.size, 4, none⟩) (Ne.symm HS.out.n) _) (p := ⟨w.heap.size, 5, none⟩) (Ne.symm HS.out.n) _) (p := ⟨w.heap.size, 6, none⟩) (Ne.symm HS.out.n) _) 0 _ rfl) 1 _ rfl) Tryz.underlying53 rfl (by kernel_rfl)) rfl ?_
  exact ⟨rfl, (Below.setCell (Below.setCell (Below.setCell (Below.setCell (Below.setCell (Below.setCell (Below.setCell (Below.setCell (Below.setCell HS.out.b (p := ⟨w.heap.size, 0, none⟩) (Nat.le_refl _) _) (p := ⟨w.heap.size, 1, none⟩) (Nat.le_refl _) _) (p := ⟨w.heap.size, 2, none⟩) (Nat.le_refl _) _) (p := ⟨w.heap.size, 3, none⟩) (Nat.le_refl _) _) (p := ⟨w.heap.size, 4, none⟩) (Nat.le_refl _) _) (p := ⟨w.heap.size, 5, none⟩) (Nat.le_refl _) _) (p := ⟨w.heap.size, 6, none⟩) (Nat.le_refl _) _) (p := ⟨g2, 0, none⟩) HS.out.le _) (p := ⟨g2, 1, none⟩) HS.out.le _)⟩
set_option maxHeartbeats 8000000 in
set_option maxRecDepth 100000 in
theorem next4_c {w : World} {i c : Nat} {s : ByteArray} (hi : i < s.size) (hc : by_ s i = c) (hs : s.size ≤ 100000) (hdg : digN c = false) (hq : c ≠ 39 ∧ c ≠ 34) (hmk : markS s i ≠ ⟨#[]⟩) : Calls Tryz.prog 27 #[.string s, .int .i64 (i : Int)] w (NextD w ⟨6, (i : Int), ((i + (markS s i).size : Nat) : Int), markS s i, ⟨#[]⟩, 0, false⟩ 0 0) := by
  have hbz : ((s[i]'hi).toNat : Int) = (c : Int) := by rw [by_at s i hi, hc]
  have hD := fun w' => dig_c c w'
  rw [hdg] at hD
  have HD := Lib.hid hD
  clear hD hdg hc
  have hms := markS_le s i
  have e39 : ((c : Int) == 39) = false := by rw [beq_eq_false_iff_ne]; omega
  have e34 : ((c : Int) == 34) = false := by rw [beq_eq_false_iff_ne]; omega
  have HM := Lib.hid (fun w' => mark_c hi hs w')
  obtain ⟨m, hm⟩ : ∃ m, markS s i = m := ⟨_, rfl⟩
  rw [hm] at HM hmk hms ⊢
  obtain ⟨j, hj⟩ : ∃ j, i + m.size = j := ⟨_, rfl⟩
  have wj : IntKind.i64.wrap ((i : Int) + (m.size : Int)) = (j : Int) := by rw [IntKind.wrap_i64]; omega
  rw [hj]
  have m0 : (m.toList == []) = false := by rw [beq_eq_false_iff_ne]; intro h; exact hmk (toList_nil h)
  have m1 : (m.toList != []) = true := by rw [bne_iff_ne]; intro h; exact hmk (toList_nil h)
  clear hm hms hj hq hmk hs
  go_enter Tryz.func27, Tryz.ntmps27
  go_upto_region 1 with (fail)
  have HS := Lib.hid (NxB.of w)
  obtain ⟨g2, hg2⟩ : ∃ q, w.heap.size + 1 = q := ⟨_, rfl⟩
  obtain ⟨wB, hwB⟩ : ∃ q, (w.alloc zT).alloc zF = q := ⟨_, rfl⟩
  rw [hg2, hwB] at HS
  rw [hg2, hwB]
  clear hg2 hwB
  have b0 := blk_cell HS.out.t 0
  have b1 := blk_cell HS.out.t 1
  have b2 := blk_cell HS.out.t 2
  have b3 := blk_cell HS.out.t 3
  have b4 := blk_cell HS.out.t 4
  have b5 := blk_cell HS.out.t 5
  have b6 := blk_cell HS.out.t 6
  have z0 := blk_frozen HS.out.t 0
  have z1 := blk_frozen HS.out.t 1
  have z2 := blk_frozen HS.out.t 2
  have z3 := blk_frozen HS.out.t 3
  have z4 := blk_frozen HS.out.t 4
  have z5 := blk_frozen HS.out.t 5
  have z6 := blk_frozen HS.out.t 6
  have c0 := blk_cell HS.out.f 0
  have c1 := blk_cell HS.out.f 1
  have y0 := blk_frozen HS.out.f 0
  have y1 := blk_frozen HS.out.f 1
  have hne := HS.out.n
  go_wp2_with (first
    | (go_at_call 46; refine (HD.out _).mono ?_; rintro e5 w5 ⟨rfl, h5⟩; subst h5)
    | (go_at_call 50; refine (HM.out _).mono ?_; rintro e7 w7 ⟨rfl, h7⟩; subst h7)
  )
  refine bodyPost_ret (results_cc rfl _ _ w.heap.size g2 58 53 #[.int .i64 6, .int .i64 i, .int .i64 j, .string m, .string ⟨#[]⟩, .int .u64 0, .bool false] #[.int .i64 0, .int .i64 0] (0, 0) (0, 0) _ _ rfl (blk_far (blk_far (blk_put (blk_put (blk_put (blk_put (blk_put (blk_put (blk_put HS.out.t 0 _ rfl) 1 _ rfl) 2 _ rfl) 3 _ rfl) 4 _ rfl) 5 _ rfl) 6 _ rfl) (p := ⟨g2, 0, none⟩) HS.out.n _) (p := ⟨g2, 1, none⟩) HS.out.n _) Tryz.underlying58 rfl (by kernel_rfl) rfl (blk_put (blk_put (blk_far (blk_far (blk_far (blk_far (blk_far (blk_far (blk_far HS.out.f (p := ⟨w.heap.size, 0, none⟩) (Ne.symm HS.out.n) _) (p := ⟨w.heap.size, 1, none⟩) (Ne.symm HS.out.n) _) (p := ⟨w.heap.size, 2, none⟩) (Ne.symm HS.out.n) _) (p := ⟨w.heap.size, 3, none⟩) (Ne.symm HS.out.n) _) (p := ⟨w.heap.size, 4, none⟩) (Ne.symm HS.out.n) _) (p := ⟨w.heap.size, 5, none⟩) (Ne.symm HS.out.n) _) (p := ⟨w.heap.size, 6, none⟩) (Ne.symm HS.out.n) _) 0 _ rfl) 1 _ rfl) Tryz.underlying53 rfl (by kernel_rfl)) rfl ?_
  exact ⟨rfl, (Below.setCell (Below.setCell (Below.setCell (Below.setCell (Below.setCell (Below.setCell (Below.setCell (Below.setCell (Below.setCell HS.out.b (p := ⟨w.heap.size, 0, none⟩) (Nat.le_refl _) _) (p := ⟨w.heap.size, 1, none⟩) (Nat.le_refl _) _) (p := ⟨w.heap.size, 2, none⟩) (Nat.le_refl _) _) (p := ⟨w.heap.size, 3, none⟩) (Nat.le_refl _) _) (p := ⟨w.heap.size, 4, none⟩) (Nat.le_refl _) _) (p := ⟨w.heap.size, 5, none⟩) (Nat.le_refl _) _) (p := ⟨w.heap.size, 6, none⟩) (Nat.le_refl _) _) (p := ⟨g2, 0, none⟩) HS.out.le _) (p := ⟨g2, 1, none⟩) HS.out.le _)⟩
set_option maxHeartbeats 8000000 in
set_option maxRecDepth 100000 in
theorem next5a_c {w : World} {i c : Nat} {s : ByteArray} (hi : i < s.size) (hc : by_ s i = c) (hs : s.size ≤ 100000) (hdg : digN c = false) (hq : c ≠ 39 ∧ c ≠ 34) (hmk : markS s i = ⟨#[]⟩) {x0 x1 x2 x5 : Int} {x3 x4 : ByteArray} {x6 : Bool} {r : Nat} (hr : r = 0) (hG : Glob w) (hC : ∀ W, Glob W → Calls Tryz.prog 51 #[.string s, .int .i64 (i : Int)] W fun e w' => e = .returned (.tuple #[.agg #[.int .i64 x0, .int .i64 x1, .int .i64 x2, .string x3, .string x4, .int .u64 x5, .bool x6], .int .i64 (r : Int)]) ∧ Below W.heap.size W w') : Calls Tryz.prog 27 #[.string s, .int .i64 (i : Int)] w (NextD w ⟨x0, x1, x2, x3, x4, x5, x6⟩ (i : Int) 80) := by
  have hbz : ((s[i]'hi).toNat : Int) = (c : Int) := by rw [by_at s i hi, hc]
  have hD := fun w' => dig_c c w'
  rw [hdg] at hD
  have HD := Lib.hid hD
  clear hD hdg hc
  have e39 : ((c : Int) == 39) = false := by rw [beq_eq_false_iff_ne]; omega
  have e34 : ((c : Int) == 34) = false := by rw [beq_eq_false_iff_ne]; omega
  have HM := Lib.hid (fun w' => mark_c hi hs w')
  obtain ⟨m, hm⟩ : ∃ m, markS s i = m := ⟨_, rfl⟩
  rw [hm] at HM hmk
  have m0 : (m.toList == []) = true := by rw [hmk]; exact toList_e
  have m1 : (m.toList != []) = false := by rw [hmk]; exact toList_e'
  clear hm hq hmk hs
  have r0 : ((r : Int) == 0) = true := by rw [beq_iff_eq]; omega
  clear hr
  have HC := Lib.hid hC
  have HG := Lib.hid hG
  clear hC hG
  go_enter Tryz.func27, Tryz.ntmps27
  go_upto_region 1 with (fail)
  have HS := Lib.hid (NxB.of w)
  obtain ⟨g2, hg2⟩ : ∃ q, w.heap.size + 1 = q := ⟨_, rfl⟩
  obtain ⟨wB, hwB⟩ : ∃ q, (w.alloc zT).alloc zF = q := ⟨_, rfl⟩
  rw [hg2, hwB] at HS
  rw [hg2, hwB]
  clear hg2 hwB
  have HSB := HS
  clear HS
  go_upto_region 19 with (first
    | (go_at_call 46; refine (HD.out _).mono ?_; rintro e5 w5 ⟨rfl, h5⟩; subst h5)
    | (go_at_call 50; refine (HM.out _).mono ?_; rintro e7 w7 ⟨rfl, h7⟩; subst h7)
    | (go_at_call 51; refine (HC.out _ (Glob.step HG.out HSB.out.b)).mono ?_; rintro e6 w6 ⟨rfl, hb6⟩; have HS6 := Lib.hid (HSB.out.box hb6 #[.int .i64 x0, .int .i64 x1, .int .i64 x2, .string x3, .string x4, .int .u64 x5, .bool x6] 58); clear hb6))
  obtain ⟨wA, hwA⟩ : ∃ q, w6.alloc (.cells #[.int .i64 x0, .int .i64 x1, .int .i64 x2, .string x3, .string x4, .int .u64 x5, .bool x6] 58) = q := ⟨_, rfl⟩
  obtain ⟨ga, hga⟩ : ∃ q, w6.heap.size = q := ⟨_, rfl⟩
  rw [hwA, hga] at HS6 ⊢
  have HS := Lib.hid HS6.out.1
  have b0 := blk_cell HS.out.t 0
  have b1 := blk_cell HS.out.t 1
  have b2 := blk_cell HS.out.t 2
  have b3 := blk_cell HS.out.t 3
  have b4 := blk_cell HS.out.t 4
  have b5 := blk_cell HS.out.t 5
  have b6 := blk_cell HS.out.t 6
  have z0 := blk_frozen HS.out.t 0
  have z1 := blk_frozen HS.out.t 1
  have z2 := blk_frozen HS.out.t 2
  have z3 := blk_frozen HS.out.t 3
  have z4 := blk_frozen HS.out.t 4
  have z5 := blk_frozen HS.out.t 5
  have z6 := blk_frozen HS.out.t 6
  have c0 := blk_cell HS.out.f 0
  have c1 := blk_cell HS.out.f 1
  have y0 := blk_frozen HS.out.f 0
  have y1 := blk_frozen HS.out.f 1
  have hne := HS.out.n
  have k0 := blk_cell HS6.out.2 0
  have k1 := blk_cell HS6.out.2 1
  have k2 := blk_cell HS6.out.2 2
  have k3 := blk_cell HS6.out.2 3
  have k4 := blk_cell HS6.out.2 4
  have k5 := blk_cell HS6.out.2 5
  have k6 := blk_cell HS6.out.2 6
  clear hwA hga
  go_wp2
  refine bodyPost_ret (results_cc rfl _ _ w.heap.size g2 58 53 #[.int .i64 x0, .int .i64 x1, .int .i64 x2, .string x3, .string x4, .int .u64 x5, .bool x6] #[.int .i64 (i : Int), .int .i64 80] (0, 0) (0, 0) _ _ rfl (blk_far (blk_far (blk_put (blk_put (blk_put (blk_put (blk_put (blk_put (blk_put HS.out.t 0 _ rfl) 1 _ rfl) 2 _ rfl) 3 _ rfl) 4 _ rfl) 5 _ rfl) 6 _ rfl) (p := ⟨g2, 0, none⟩) HS.out.n _) (p := ⟨g2, 1, none⟩) HS.out.n _) Tryz.underlying58 rfl (by kernel_rfl) rfl (blk_put (blk_put (blk_far (blk_far (blk_far (blk_far (blk_far (blk_far (blk_far HS.out.f (p := ⟨w.heap.size, 0, none⟩) (Ne.symm HS.out.n) _) (p := ⟨w.heap.size, 1, none⟩) (Ne.symm HS.out.n) _) (p := ⟨w.heap.size, 2, none⟩) (Ne.symm HS.out.n) _) (p := ⟨w.heap.size, 3, none⟩) (Ne.symm HS.out.n) _) (p := ⟨w.heap.size, 4, none⟩) (Ne.symm HS.out.n) _) (p := ⟨w.heap.size, 5, none⟩) (Ne.symm HS.out.n) _) (p := ⟨w.heap.size, 6, none⟩) (Ne.symm HS.out.n) _) 0 _ rfl) 1 _ rfl) Tryz.underlying53 rfl (by kernel_rfl)) rfl ?_
  exact ⟨rfl, (Below.setCell (Below.setCell (Below.setCell (Below.setCell (Below.setCell (Below.setCell (Below.setCell (Below.setCell (Below.setCell HS.out.b (p := ⟨w.heap.size, 0, none⟩) (Nat.le_refl _) _) (p := ⟨w.heap.size, 1, none⟩) (Nat.le_refl _) _) (p := ⟨w.heap.size, 2, none⟩) (Nat.le_refl _) _) (p := ⟨w.heap.size, 3, none⟩) (Nat.le_refl _) _) (p := ⟨w.heap.size, 4, none⟩) (Nat.le_refl _) _) (p := ⟨w.heap.size, 5, none⟩) (Nat.le_refl _) _) (p := ⟨w.heap.size, 6, none⟩) (Nat.le_refl _) _) (p := ⟨g2, 0, none⟩) HS.out.le _) (p := ⟨g2, 1, none⟩) HS.out.le _)⟩
set_option maxHeartbeats 8000000 in
set_option maxRecDepth 100000 in
theorem next5b_c {w : World} {i c : Nat} {s : ByteArray} (hi : i < s.size) (hc : by_ s i = c) (hs : s.size ≤ 100000) (hdg : digN c = false) (hq : c ≠ 39 ∧ c ≠ 34) (hmk : markS s i = ⟨#[]⟩) {x0 x1 x2 x5 : Int} {x3 x4 : ByteArray} {x6 : Bool} {r : Nat} (hr : 40 < r) (hG : Glob w) (hC : ∀ W, Glob W → Calls Tryz.prog 51 #[.string s, .int .i64 (i : Int)] W fun e w' => e = .returned (.tuple #[.agg #[.int .i64 x0, .int .i64 x1, .int .i64 x2, .string x3, .string x4, .int .u64 x5, .bool x6], .int .i64 (r : Int)]) ∧ Below W.heap.size W w') : Calls Tryz.prog 27 #[.string s, .int .i64 (i : Int)] w (NextD w ⟨x0, x1, x2, x3, x4, x5, x6⟩ (i : Int) 5) := by
  have hbz : ((s[i]'hi).toNat : Int) = (c : Int) := by rw [by_at s i hi, hc]
  have hD := fun w' => dig_c c w'
  rw [hdg] at hD
  have HD := Lib.hid hD
  clear hD hdg hc
  have e39 : ((c : Int) == 39) = false := by rw [beq_eq_false_iff_ne]; omega
  have e34 : ((c : Int) == 34) = false := by rw [beq_eq_false_iff_ne]; omega
  have HM := Lib.hid (fun w' => mark_c hi hs w')
  obtain ⟨m, hm⟩ : ∃ m, markS s i = m := ⟨_, rfl⟩
  rw [hm] at HM hmk
  have m0 : (m.toList == []) = true := by rw [hmk]; exact toList_e
  have m1 : (m.toList != []) = false := by rw [hmk]; exact toList_e'
  clear hm hq hmk hs
  have r0 : ((r : Int) == 0) = false := by rw [beq_eq_false_iff_ne]; omega
  have r1 : (40 : Int) < (r : Int) := by omega
  have r2 : decide ((40 : Int) < (r : Int)) = true := decide_eq_true r1
  clear hr
  have HC := Lib.hid hC
  have HG := Lib.hid hG
  clear hC hG
  go_enter Tryz.func27, Tryz.ntmps27
  go_upto_region 1 with (fail)
  have HS := Lib.hid (NxB.of w)
  obtain ⟨g2, hg2⟩ : ∃ q, w.heap.size + 1 = q := ⟨_, rfl⟩
  obtain ⟨wB, hwB⟩ : ∃ q, (w.alloc zT).alloc zF = q := ⟨_, rfl⟩
  rw [hg2, hwB] at HS
  rw [hg2, hwB]
  clear hg2 hwB
  have HSB := HS
  clear HS
  go_upto_region 19 with (first
    | (go_at_call 46; refine (HD.out _).mono ?_; rintro e5 w5 ⟨rfl, h5⟩; subst h5)
    | (go_at_call 50; refine (HM.out _).mono ?_; rintro e7 w7 ⟨rfl, h7⟩; subst h7)
    | (go_at_call 51; refine (HC.out _ (Glob.step HG.out HSB.out.b)).mono ?_; rintro e6 w6 ⟨rfl, hb6⟩; have HS6 := Lib.hid (HSB.out.box hb6 #[.int .i64 x0, .int .i64 x1, .int .i64 x2, .string x3, .string x4, .int .u64 x5, .bool x6] 58); clear hb6))
  obtain ⟨wA, hwA⟩ : ∃ q, w6.alloc (.cells #[.int .i64 x0, .int .i64 x1, .int .i64 x2, .string x3, .string x4, .int .u64 x5, .bool x6] 58) = q := ⟨_, rfl⟩
  obtain ⟨ga, hga⟩ : ∃ q, w6.heap.size = q := ⟨_, rfl⟩
  rw [hwA, hga] at HS6 ⊢
  have HS := Lib.hid HS6.out.1
  have b0 := blk_cell HS.out.t 0
  have b1 := blk_cell HS.out.t 1
  have b2 := blk_cell HS.out.t 2
  have b3 := blk_cell HS.out.t 3
  have b4 := blk_cell HS.out.t 4
  have b5 := blk_cell HS.out.t 5
  have b6 := blk_cell HS.out.t 6
  have z0 := blk_frozen HS.out.t 0
  have z1 := blk_frozen HS.out.t 1
  have z2 := blk_frozen HS.out.t 2
  have z3 := blk_frozen HS.out.t 3
  have z4 := blk_frozen HS.out.t 4
  have z5 := blk_frozen HS.out.t 5
  have z6 := blk_frozen HS.out.t 6
  have c0 := blk_cell HS.out.f 0
  have c1 := blk_cell HS.out.f 1
  have y0 := blk_frozen HS.out.f 0
  have y1 := blk_frozen HS.out.f 1
  have hne := HS.out.n
  have k0 := blk_cell HS6.out.2 0
  have k1 := blk_cell HS6.out.2 1
  have k2 := blk_cell HS6.out.2 2
  have k3 := blk_cell HS6.out.2 3
  have k4 := blk_cell HS6.out.2 4
  have k5 := blk_cell HS6.out.2 5
  have k6 := blk_cell HS6.out.2 6
  clear hwA hga
  go_wp2
  refine bodyPost_ret (results_cc rfl _ _ w.heap.size g2 58 53 #[.int .i64 x0, .int .i64 x1, .int .i64 x2, .string x3, .string x4, .int .u64 x5, .bool x6] #[.int .i64 (i : Int), .int .i64 5] (0, 0) (0, 0) _ _ rfl (blk_far (blk_far (blk_put (blk_put (blk_put (blk_put (blk_put (blk_put (blk_put HS.out.t 0 _ rfl) 1 _ rfl) 2 _ rfl) 3 _ rfl) 4 _ rfl) 5 _ rfl) 6 _ rfl) (p := ⟨g2, 0, none⟩) HS.out.n _) (p := ⟨g2, 1, none⟩) HS.out.n _) Tryz.underlying58 rfl (by kernel_rfl) rfl (blk_put (blk_put (blk_far (blk_far (blk_far (blk_far (blk_far (blk_far (blk_far HS.out.f (p := ⟨w.heap.size, 0, none⟩) (Ne.symm HS.out.n) _) (p := ⟨w.heap.size, 1, none⟩) (Ne.symm HS.out.n) _) (p := ⟨w.heap.size, 2, none⟩) (Ne.symm HS.out.n) _) (p := ⟨w.heap.size, 3, none⟩) (Ne.symm HS.out.n) _) (p := ⟨w.heap.size, 4, none⟩) (Ne.symm HS.out.n) _) (p := ⟨w.heap.size, 5, none⟩) (Ne.symm HS.out.n) _) (p := ⟨w.heap.size, 6, none⟩) (Ne.symm HS.out.n) _) 0 _ rfl) 1 _ rfl) Tryz.underlying53 rfl (by kernel_rfl)) rfl ?_
  exact ⟨rfl, (Below.setCell (Below.setCell (Below.setCell (Below.setCell (Below.setCell (Below.setCell (Below.setCell (Below.setCell (Below.setCell HS.out.b (p := ⟨w.heap.size, 0, none⟩) (Nat.le_refl _) _) (p := ⟨w.heap.size, 1, none⟩) (Nat.le_refl _) _) (p := ⟨w.heap.size, 2, none⟩) (Nat.le_refl _) _) (p := ⟨w.heap.size, 3, none⟩) (Nat.le_refl _) _) (p := ⟨w.heap.size, 4, none⟩) (Nat.le_refl _) _) (p := ⟨w.heap.size, 5, none⟩) (Nat.le_refl _) _) (p := ⟨w.heap.size, 6, none⟩) (Nat.le_refl _) _) (p := ⟨g2, 0, none⟩) HS.out.le _) (p := ⟨g2, 1, none⟩) HS.out.le _)⟩
set_option maxHeartbeats 8000000 in
set_option maxRecDepth 100000 in
theorem next5c_c {w : World} {i c : Nat} {s : ByteArray} (hi : i < s.size) (hc : by_ s i = c) (hs : s.size ≤ 100000) (hdg : digN c = false) (hq : c ≠ 39 ∧ c ≠ 34) (hmk : markS s i = ⟨#[]⟩) {x0 x1 x2 x5 : Int} {x3 x4 : ByteArray} {x6 : Bool} {r : Nat} (hr : r ≠ 0 ∧ r ≤ 40) (hG : Glob w) (hC : ∀ W, Glob W → Calls Tryz.prog 51 #[.string s, .int .i64 (i : Int)] W fun e w' => e = .returned (.tuple #[.agg #[.int .i64 x0, .int .i64 x1, .int .i64 x2, .string x3, .string x4, .int .u64 x5, .bool x6], .int .i64 (r : Int)]) ∧ Below W.heap.size W w') : Calls Tryz.prog 27 #[.string s, .int .i64 (i : Int)] w (NextD w ⟨x0, x1, x2, x3, x4, x5, x6⟩ 0 0) := by
  have hbz : ((s[i]'hi).toNat : Int) = (c : Int) := by rw [by_at s i hi, hc]
  have hD := fun w' => dig_c c w'
  rw [hdg] at hD
  have HD := Lib.hid hD
  clear hD hdg hc
  have e39 : ((c : Int) == 39) = false := by rw [beq_eq_false_iff_ne]; omega
  have e34 : ((c : Int) == 34) = false := by rw [beq_eq_false_iff_ne]; omega
  have HM := Lib.hid (fun w' => mark_c hi hs w')
  obtain ⟨m, hm⟩ : ∃ m, markS s i = m := ⟨_, rfl⟩
  rw [hm] at HM hmk
  have m0 : (m.toList == []) = true := by rw [hmk]; exact toList_e
  have m1 : (m.toList != []) = false := by rw [hmk]; exact toList_e'
  clear hm hq hmk hs
  have r0 : ((r : Int) == 0) = false := by rw [beq_eq_false_iff_ne]; omega
  have r1 : ¬ (40 : Int) < (r : Int) := by omega
  have r2 : decide ((40 : Int) < (r : Int)) = false := decide_eq_false r1
  clear hr
  have HC := Lib.hid hC
  have HG := Lib.hid hG
  clear hC hG
  go_enter Tryz.func27, Tryz.ntmps27
  go_upto_region 1 with (fail)
  have HS := Lib.hid (NxB.of w)
  obtain ⟨g2, hg2⟩ : ∃ q, w.heap.size + 1 = q := ⟨_, rfl⟩
  obtain ⟨wB, hwB⟩ : ∃ q, (w.alloc zT).alloc zF = q := ⟨_, rfl⟩
  rw [hg2, hwB] at HS
  rw [hg2, hwB]
  clear hg2 hwB
  have HSB := HS
  clear HS
  go_upto_region 19 with (first
    | (go_at_call 46; refine (HD.out _).mono ?_; rintro e5 w5 ⟨rfl, h5⟩; subst h5)
    | (go_at_call 50; refine (HM.out _).mono ?_; rintro e7 w7 ⟨rfl, h7⟩; subst h7)
    | (go_at_call 51; refine (HC.out _ (Glob.step HG.out HSB.out.b)).mono ?_; rintro e6 w6 ⟨rfl, hb6⟩; have HS6 := Lib.hid (HSB.out.box hb6 #[.int .i64 x0, .int .i64 x1, .int .i64 x2, .string x3, .string x4, .int .u64 x5, .bool x6] 58); clear hb6))
  obtain ⟨wA, hwA⟩ : ∃ q, w6.alloc (.cells #[.int .i64 x0, .int .i64 x1, .int .i64 x2, .string x3, .string x4, .int .u64 x5, .bool x6] 58) = q := ⟨_, rfl⟩
  obtain ⟨ga, hga⟩ : ∃ q, w6.heap.size = q := ⟨_, rfl⟩
  rw [hwA, hga] at HS6 ⊢
  have HS := Lib.hid HS6.out.1
  have b0 := blk_cell HS.out.t 0
  have b1 := blk_cell HS.out.t 1
  have b2 := blk_cell HS.out.t 2
  have b3 := blk_cell HS.out.t 3
  have b4 := blk_cell HS.out.t 4
  have b5 := blk_cell HS.out.t 5
  have b6 := blk_cell HS.out.t 6
  have z0 := blk_frozen HS.out.t 0
  have z1 := blk_frozen HS.out.t 1
  have z2 := blk_frozen HS.out.t 2
  have z3 := blk_frozen HS.out.t 3
  have z4 := blk_frozen HS.out.t 4
  have z5 := blk_frozen HS.out.t 5
  have z6 := blk_frozen HS.out.t 6
  have c0 := blk_cell HS.out.f 0
  have c1 := blk_cell HS.out.f 1
  have y0 := blk_frozen HS.out.f 0
  have y1 := blk_frozen HS.out.f 1
  have hne := HS.out.n
  have k0 := blk_cell HS6.out.2 0
  have k1 := blk_cell HS6.out.2 1
  have k2 := blk_cell HS6.out.2 2
  have k3 := blk_cell HS6.out.2 3
  have k4 := blk_cell HS6.out.2 4
  have k5 := blk_cell HS6.out.2 5
  have k6 := blk_cell HS6.out.2 6
  clear hwA hga
  go_wp2
  refine bodyPost_ret (results_cc rfl _ _ w.heap.size g2 58 53 #[.int .i64 x0, .int .i64 x1, .int .i64 x2, .string x3, .string x4, .int .u64 x5, .bool x6] #[.int .i64 0, .int .i64 0] (0, 0) (0, 0) _ _ rfl (blk_far (blk_far (blk_put (blk_put (blk_put (blk_put (blk_put (blk_put (blk_put HS.out.t 0 _ rfl) 1 _ rfl) 2 _ rfl) 3 _ rfl) 4 _ rfl) 5 _ rfl) 6 _ rfl) (p := ⟨g2, 0, none⟩) HS.out.n _) (p := ⟨g2, 1, none⟩) HS.out.n _) Tryz.underlying58 rfl (by kernel_rfl) rfl (blk_put (blk_put (blk_far (blk_far (blk_far (blk_far (blk_far (blk_far (blk_far HS.out.f (p := ⟨w.heap.size, 0, none⟩) (Ne.symm HS.out.n) _) (p := ⟨w.heap.size, 1, none⟩) (Ne.symm HS.out.n) _) (p := ⟨w.heap.size, 2, none⟩) (Ne.symm HS.out.n) _) (p := ⟨w.heap.size, 3, none⟩) (Ne.symm HS.out.n) _) (p := ⟨w.heap.size, 4, none⟩) (Ne.symm HS.out.n) _) (p := ⟨w.heap.size, 5, none⟩) (Ne.symm HS.out.n) _) (p := ⟨w.heap.size, 6, none⟩) (Ne.symm HS.out.n) _) 0 _ rfl) 1 _ rfl) Tryz.underlying53 rfl (by kernel_rfl)) rfl ?_
  exact ⟨rfl, (Below.setCell (Below.setCell (Below.setCell (Below.setCell (Below.setCell (Below.setCell (Below.setCell (Below.setCell (Below.setCell HS.out.b (p := ⟨w.heap.size, 0, none⟩) (Nat.le_refl _) _) (p := ⟨w.heap.size, 1, none⟩) (Nat.le_refl _) _) (p := ⟨w.heap.size, 2, none⟩) (Nat.le_refl _) _) (p := ⟨w.heap.size, 3, none⟩) (Nat.le_refl _) _) (p := ⟨w.heap.size, 4, none⟩) (Nat.le_refl _) _) (p := ⟨w.heap.size, 5, none⟩) (Nat.le_refl _) _) (p := ⟨w.heap.size, 6, none⟩) (Nat.le_refl _) _) (p := ⟨g2, 0, none⟩) HS.out.le _) (p := ⟨g2, 1, none⟩) HS.out.le _)⟩
end Go.Proofs.YtbmnifnahbehbaaGreatDoor
