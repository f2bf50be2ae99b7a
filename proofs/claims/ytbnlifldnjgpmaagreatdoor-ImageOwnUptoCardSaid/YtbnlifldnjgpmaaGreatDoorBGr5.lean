/- A file that Write makes, as a reader sees it: what stands where, and what a reader answers there. Plain lists. -/
import Derived.Test.YtbnlifldnjgpmaaGreatDoorBGr3
import Derived.Test.YtbnlifldnjgpmaaGreatDoorBGr4
import Derived.Lib.DecodeN
import Derived.Deep.QuietTactic
import Derived.BigQuiet
import Derived.Deep.RegionHeld2
import Derived.Deep.RegionHeld3
import Derived.Deep.DeepCutAuto
set_option linter.unusedVariables false
set_option linter.unusedSimpArgs false
namespace Go.Proofs.YtbnlifldnjgpmaaGreatDoor.PWri
open Go.RowKit Go.Lib Go.Proofs.YtbnlifldnjgpmaaGreatDoorW.PrintWords Go.Proofs.YtbnlifldnjgpmaaGreatDoorW.PrintLast
theorem aT_yes {α β : Type} {x : Res α} {f : α → Res β} {b : β} (h : andThen x f = .ok b) : ∃ a, x = .ok a ∧ f a = .ok b := by
 cases x with
 | ok a => exact ⟨a, rfl, h⟩
 | error e => cases h
theorem ck_yes {α : Type} {b : Bool} {a w : Int} {k : Res α} {r : α} (h : chk b a w k = .ok r) : b = true ∧ k = .ok r := by
 cases b with
 | true => exact ⟨rfl, h⟩
 | false => cases h
theorem turn_all : ∀ x : Fin 8, 0 ≤ turnV (x.val : Int) ∧ turnV (x.val : Int) ≤ 7 ∧ turnS (turnV (x.val : Int)) = (x.val : Int) ∧ 0 ≤ turnS (x.val : Int) ∧ turnS (x.val : Int) ≤ 7 := by decide +kernel
theorem turn_turn (x : Int) (h0 : 0 ≤ x) (h1 : x ≤ 7) : 0 ≤ turnV x ∧ turnV x ≤ 7 ∧ turnS (turnV x) = x := by
 have h := turn_all ⟨x.toNat, by omega⟩
 simp only [Int.toNat_of_nonneg h0] at h
 exact ⟨h.1, h.2.1, h.2.2.1⟩
theorem turnS_range (x : Int) (h0 : 0 ≤ x) (h1 : x ≤ 7) : 0 ≤ turnS x ∧ turnS x ≤ 7 := by
 have h := turn_all ⟨x.toNat, by omega⟩
 simp only [Int.toNat_of_nonneg h0] at h
 exact h.2.2.2
theorem ltY_at {x y : S82} (h1 : ltY x y = false) (h2 : ltY y x = false) : x = y := by
 obtain ⟨e1, e2⟩ := ltY_total h1 h2
 exact symEq_iff.1 (by unfold symEq; simp [e1, e2])
/-- No byte of a name is 0. -/
theorem decode_nz (s : ByteArray) (pos : Nat) (h : (Utf8.decode s pos).1 ≠ 0) : ∀ k, k < (Utf8.decode s pos).2 → (s.get! (pos + k)).toNat ≠ 0 := by
 rw [Lib.decode_at] at h ⊢
 unfold Lib.decodeN at h ⊢
 intro k hk
 split at hk
 ·rename_i h1
  rw [if_pos h1] at h
  have : k = 0 := by simp only at hk; omega
  subst this
  exact h
 ·rename_i h1
  split at hk
  ·rename_i h2
   split at hk
   ·simp only at hk
    obtain rfl | rfl : k = 0 ∨ k = 1 := by omega
    ·show (s.get! pos).toNat ≠ 0; omega
    ·omega
   ·simp only at hk
    obtain rfl : k = 0 := by omega
    show (s.get! pos).toNat ≠ 0; omega
  ·split at hk
   ·rename_i h2
    split at hk
    ·simp only at hk
     obtain rfl | rfl | rfl : k = 0 ∨ k = 1 ∨ k = 2 := by omega
     ·show (s.get! pos).toNat ≠ 0; omega
     ·omega
     ·omega
    ·simp only at hk
     obtain rfl : k = 0 := by omega
     show (s.get! pos).toNat ≠ 0; omega
   ·split at hk
    ·rename_i h2
     split at hk
     ·simp only at hk
      obtain rfl | rfl | rfl | rfl : k = 0 ∨ k = 1 ∨ k = 2 ∨ k = 3 := by omega
      ·show (s.get! pos).toNat ≠ 0; omega
      ·omega
      ·omega
      ·omega
     ·simp only at hk
      obtain rfl : k = 0 := by omega
      show (s.get! pos).toNat ≠ 0; omega
    ·simp only at hk
     obtain rfl : k = 0 := by omega
     show (s.get! pos).toNat ≠ 0; omega
theorem okRune_nz {first : Bool} {c : Nat} (h : okRune first c = true) : c ≠ 0 := by
 rintro rfl
 have hz : isLetterU ((0 : Nat) : Int) = false := by decide +kernel
 unfold okRune at h
 rw [hz] at h
 simp at h
theorem runes_nz (s : ByteArray) : ∀ (f pos : Nat), runesOk s f pos = true → s.size ≤ pos + f → ∀ i, pos ≤ i → i < s.size → (s.get! i).toNat ≠ 0
 | 0, pos, _, hf, i, h1, h2 => by omega
 | f + 1, pos, h, hf, i, h1, h2 => by
  rw [runesOk, if_pos (by omega)] at h
  simp only [Bool.and_eq_true] at h
  have hw := Lib.decode_width_pos s pos (by omega)
  by_cases hi : i < pos + (Utf8.decode s pos).2
  ·have := decode_nz s pos (okRune_nz h.1) (i - pos) (by omega)
   rwa [show pos + (i - pos) = i by omega] at this
  ·exact runes_nz s f _ h.2 (by omega) i (by omega) h2
theorem nameB_nz {s : ByteArray} (h : nameB s = true) : ∀ b ∈ s.data.toList, b.toNat ≠ 0 := by
 unfold nameB at h
 simp only [Bool.and_eq_true] at h
 intro b hb
 obtain ⟨i, hi, rfl⟩ := List.getElem_of_mem hb
 have hi2 : i < s.size := by simpa using hi
 have := runes_nz s s.size 0 h.2.2.2 (by omega) i (Nat.zero_le _) hi2
 have e : s.get! i = s.data.toList[i] := by
  show s.data.get!Internal i = _
  rw [Array.get!Internal_eq_getElem!, getElem!_pos s.data i (by simpa using hi), Array.getElem_toList]
 rwa [e] at this
theorem getD_l {x y : List Int} {i : Nat} (h : i < x.length) : (x ++ y).getD i 0 = x.getD i 0 := by
 rw [List.getD_eq_getElem?_getD, List.getD_eq_getElem?_getD, List.getElem?_append_left h]
theorem getD_r {x y : List Int} {i : Nat} (h : x.length ≤ i) : (x ++ y).getD i 0 = y.getD (i - x.length) 0 := by
 rw [List.getD_eq_getElem?_getD, List.getD_eq_getElem?_getD, List.getElem?_append_right h]
/-- At place p of b stands x. -/
def At (b : List Int) (p : Nat) (x : List Int) : Prop := ∀ i, i < x.length → p + i < b.length ∧ b.getD (p + i) 0 = x.getD i 0
theorem At.left {b x y : List Int} {p : Nat} (h : At b p (x ++ y)) : At b p x := fun i hi => by
 have := h i (by rw [List.length_append]; omega)
 rw [getD_l hi] at this
 exact this
theorem At.right {b x y : List Int} {p q : Nat} (h : At b p (x ++ y)) (hq : q = p + x.length) : At b q y := fun i hi => by
 have := h (x.length + i) (by rw [List.length_append]; omega)
 rw [getD_r (by omega), show x.length + i - x.length = i by omega] at this
 rw [hq, Nat.add_assoc]
 exact this
theorem At.self (x : List Int) : At x 0 x := fun i hi => by rw [Nat.zero_add]; exact ⟨hi, rfl⟩
theorem At.app {b x : List Int} {p : Nat} (h : At b p x) (r : List Int) : At (b ++ r) p x := fun i hi => by
 obtain ⟨h1, h2⟩ := h i hi
 exact ⟨by rw [List.length_append]; omega, by rw [getD_l h1, h2]⟩
theorem At.pre {b x : List Int} {p q : Nat} (h : At b p x) (r : List Int) (hq : q = r.length + p) : At (r ++ b) q x := fun i hi => by
 obtain ⟨h1, h2⟩ := h i hi
 exact ⟨by rw [List.length_append]; omega, by rw [getD_r (by omega), hq, show r.length + p + i - r.length = p + i by omega, h2]⟩
theorem At.in_ {b x y : List Int} {p q r : Nat} (h : At b p x) (hy : At x q y) (hr : r = p + q) : At b r y := fun i hi => by
 obtain ⟨h1, h2⟩ := hy i hi
 obtain ⟨h3, h4⟩ := h (q + i) h1
 rw [hr, Nat.add_assoc]
 exact ⟨h3, h4.trans h2⟩
theorem At.take {b x : List Int} {p n : Nat} (h : At b p x) (hn : p + x.length ≤ n) : At (b.take n) p x := fun i hi => by
 obtain ⟨h1, h2⟩ := h i hi
 refine ⟨by rw [List.length_take]; omega, ?_⟩
 rw [← h2, List.getD_eq_getElem?_getD, List.getD_eq_getElem?_getD, List.getElem?_take_of_lt (by omega)]
theorem At.set {b x : List Int} {p k : Nat} (h : At b p x) (v : Int) (hk : k < p ∨ p + x.length ≤ k) : At (b.set k v) p x := fun i hi => by
 obtain ⟨h1, h2⟩ := h i hi
 refine ⟨by rw [List.length_set]; exact h1, ?_⟩
 rw [← h2, List.getD_eq_getElem?_getD, List.getD_eq_getElem?_getD, List.getElem?_set_ne (by omega)]
theorem At.end_ {b x : List Int} {p : Nat} (h : At b p x) (hx : 0 < x.length) : p + x.length ≤ b.length := by
 have := (h (x.length - 1) (by omega)).1
 omega
theorem At.cut {b x : List Int} {p : Nat} (h : At b p x) : (b.drop p).take x.length = x := by
 apply List.ext_getElem?
 intro i
 by_cases hi : i < x.length
 ·obtain ⟨h1, h2⟩ := h i hi
  rw [List.getElem?_take_of_lt hi, List.getElem?_drop]
  rw [List.getD_eq_getElem?_getD, List.getD_eq_getElem?_getD, List.getElem?_eq_getElem h1, List.getElem?_eq_getElem hi] at h2
  rw [List.getElem?_eq_getElem h1, List.getElem?_eq_getElem hi]
  exact congrArg some h2
 ·rw [List.getElem?_eq_none (by rw [List.length_take]; omega), List.getElem?_eq_none (by omega)]
theorem valN_add (b : List Int) (p : Nat) : ∀ n, valN b p (n + 1) = b.getD p 0 + 256 * valN b (p + 1) n
 | 0 => by simp [valN]
 | n + 1 => by
  rw [valN, valN_add b p n, valN, show p + 1 + n = p + (n + 1) by omega, Int.pow_succ, Int.mul_add, Int.add_assoc]
  congr 2
  rw [Int.mul_comm (256 ^ n) 256, Int.mul_left_comm]
theorem At.val : ∀ (n : Nat) {b : List Int} {p : Nat} {v : Int}, At b p (le n v) → 0 ≤ v → v < 256 ^ n → valN b p n = v
 | 0, b, p, v, h, h0, h1 => by
  rw [valN]
  simp at h1
  omega
 | n + 1, b, p, v, h, h0, h1 => by
  have e0 := (h 0 (by rw [le_length]; omega)).2
  have h2 : At b (p + 1) (le n (v / 256)) := At.right (x := [v % 256]) (by simpa [le] using h) rfl
  have ih := At.val n h2 (by omega) (by rw [Int.pow_succ] at h1; omega)
  rw [valN_add, ih]
  have e1 : b.getD p 0 = v % 256 := by simpa [le] using e0
  rw [e1]
  omega
theorem putL_one (n : Nat) (v : Int) : putL n [v] = le n v := by simp [putL]
theorem putL_app (n : Nat) (x y : List Int) : putL n (x ++ y) = putL n x ++ putL n y := by simp [putL]
/-- The number that stands j numbers further. -/
theorem At.num {b : List Int} {p n : Nat} {xs : List Int} (h : At b p (putL n xs)) (j : Nat) (v : Int) (hv : xs[j]? = some v) (h0 : 0 ≤ v) (h1 : v < 256 ^ n) {q : Int} (hq : q = ((p + n * j : Nat) : Int)) : rdN b q n = v := by
 subst hq
 have hj : j < xs.length := (List.getElem?_eq_some_iff.1 hv).1
 have e : xs = xs.take j ++ v :: xs.drop (j + 1) := by
  rw [← (List.getElem?_eq_some_iff.1 hv).2, List.getElem_cons_drop, List.take_append_drop]
 rw [e, putL_app, show v :: xs.drop (j + 1) = [v] ++ xs.drop (j + 1) from rfl, putL_app, putL_one] at h
 have h2 := (At.right h (q := p + n * j) (by rw [putL_length, List.length_take, Nat.min_eq_left (by omega)])).left
 unfold rdN
 rw [Int.toNat_natCast]
 exact At.val n h2 h0 h1
/-- The head and the parts, as a reader sees them. -/
structure Shows (b : List Int) (a0 se cnt : Int) (l1 : List S55) (ds : List Int) : Prop where
 magic : At b 0 magicL
 h16 : At b 16 (putL 2 [2, 243])
 h20 : At b 20 (putL 4 [1])
 h24 : At b 24 (putL 8 [a0, 64, se])
 h48 : At b 48 (putL 4 [1])
 h52 : At b 52 (putL 2 [64, 56, (l1.length : Int), 64, cnt])
 end_ : 64 + 56 * l1.length ≤ b.length
 hd : ∀ j, j < l1.length → At b (64 + 56 * j) (putL 4 [1, IntKind.u64.wrap (turnV (l1.getD j z55).f2)]) ∧ At b (64 + 56 * j + 8) (putL 8 [ds.getD j 0]) ∧ At b (64 + 56 * j + 24) (putL 8 [(l1.getD j z55).f0, ((l1.getD j z55).f3.length : Int), (l1.getD j z55).f1])
 dt : ∀ j, j < l1.length → At b (ds.getD j 0).toNat (l1.getD j z55).f3
/-- The names' part. -/
structure ShowsN (b : List Int) (l2 : List S82) (tb tx ti se : Nat) : Prop where
 s0 : At b se (putL 4 [0, 0])
 s1 : At b (se + 64) (secB 1 2 tb (tx - tb) 2 1 8 24)
 s2 : At b (se + 128) (secB 9 3 tx (ti - tx) 0 0 1 0)
 end_ : se + 256 ≤ b.length
 rows : ∀ j, j < l2.length → At b (tb + 24 + 24 * j) (symB ((1 + total (l2.take j) : Nat) : Int) (l2.getD j z82))
 texts : At b tx ([0] ++ namesB l2)
/-- The bytes that nobody looks at in a file of n parts. -/
def Free (n i : Nat) : Prop := (7 ≤ i ∧ i ≤ 15) ∨ i = 62 ∨ i = 63 ∨ (64 ≤ i ∧ i < 64 + 56 * n ∧ ((16 ≤ (i - 64) % 56 ∧ (i - 64) % 56 < 24) ∨ 48 ≤ (i - 64) % 56))
theorem Shows.set {b : List Int} {a0 se cnt : Int} {l1 : List S55} {ds : List Int} (h : Shows b a0 se cnt l1 ds) (hp : ∀ j, j < l1.length → (l1.getD j z55).f3 = [] ∨ 64 + 56 * l1.length ≤ (ds.getD j 0).toNat) {k : Nat} (hk : Free l1.length k) (v : Int) : Shows (b.set k v) a0 se cnt l1 ds := by
 have hf := hk
 unfold Free at hf
 have hlt : k < 64 + 56 * l1.length := by omega
 refine ⟨h.magic.set v ?_, h.h16.set v ?_, h.h20.set v ?_, h.h24.set v ?_, h.h48.set v ?_, h.h52.set v ?_, by rw [List.length_set]; exact h.end_, fun j hj => ?_, fun j hj => ?_⟩
 ·show _ ∨ 7 ≤ k; omega
 ·rw [putL_length]; simp only [List.length_cons, List.length_nil]; omega
 ·rw [putL_length]; simp only [List.length_cons, List.length_nil]; omega
 ·rw [putL_length]; simp only [List.length_cons, List.length_nil]; omega
 ·rw [putL_length]; simp only [List.length_cons, List.length_nil]; omega
 ·rw [putL_length]; simp only [List.length_cons, List.length_nil]; omega
 ·obtain ⟨h1, h2, h3⟩ := h.hd j hj
  refine ⟨h1.set v ?_, h2.set v ?_, h3.set v ?_⟩
  all_goals
   rw [putL_length]
   simp only [List.length_cons, List.length_nil]
   rcases hf with hf | hf | hf | ⟨f1, f2, f3⟩
   ·omega
   ·omega
   ·omega
   ·obtain ⟨q, r, hq, hr⟩ : ∃ q r, k - 64 = 56 * q + r ∧ r < 56 := ⟨(k - 64) / 56, (k - 64) % 56, by omega, by omega⟩
    have hr2 : (k - 64) % 56 = r := by omega
    rw [hr2] at f3
    rcases Nat.lt_trichotomy q j with hqj | hqj | hqj <;> omega
 ·rcases hp j hj with h1 | h1
  ·rw [h1]; exact fun i hi => absurd hi (by simp)
  ·exact (h.dt j hj).set v (by omega)
theorem ShowsN.set {b : List Int} {l2 : List S82} {tb tx ti se : Nat} (h : ShowsN b l2 tb tx ti se) {k : Nat} (h1 : k < tb) (h2 : tb ≤ tx) (h3 : tx ≤ se) (v : Int) : ShowsN (b.set k v) l2 tb tx ti se :=
 ⟨h.s0.set v (by omega), h.s1.set v (by omega), h.s2.set v (by omega), by rw [List.length_set]; exact h.end_, fun j hj => (h.rows j hj).set v (by omega), h.texts.set v (by omega)⟩
theorem at_nil (b : List Int) (p : Nat) : At b p [] := fun i hi => absurd hi (by simp)
theorem dataB_pre : ∀ (L : List Int) (l : List S55), ∃ r, dataB L l = L ++ r
 | L, [] => ⟨[], by simp [dataB]⟩
 | L, s :: r => by
  rw [dataB]
  split
  ·obtain ⟨q, hq⟩ := dataB_pre (padB L ++ s.f3) r
   exact ⟨zs (upN L.length - L.length) ++ (s.f3 ++ q), by rw [hq, padB]; simp [List.append_assoc]⟩
  ·exact dataB_pre L r
theorem dataB_at : ∀ (l : List S55) (L : List Int) (j : Nat), j < l.length → At (dataB L l) ((placesN L.length l).getD j 0).toNat (l.getD j z55).f3
 | s :: r, L, 0, _ => by
  rw [dataB, placesN]
  by_cases hs : 0 < s.f3.length
  ·rw [if_pos hs, if_pos hs]
   obtain ⟨q, hq⟩ := dataB_pre (padB L ++ s.f3) r
   rw [hq]
   simp only [List.getD_cons_zero, Int.toNat_natCast]
   exact ((At.self s.f3).pre (padB L) (by rw [padB_length]; rfl)).app q
  ·rw [if_neg hs, if_neg hs]
   have e : s.f3 = [] := List.eq_nil_of_length_eq_zero (by omega)
   simp only [List.getD_cons_zero, e]
   exact at_nil _ _
 | s :: r, L, j + 1, hj => by
  rw [dataB, placesN]
  by_cases hs : 0 < s.f3.length
  ·rw [if_pos hs, if_pos hs]
   have ih := dataB_at r (padB L ++ s.f3) j (by simpa using hj)
   rw [List.length_append, padB_length] at ih
   simpa using ih
  ·rw [if_neg hs, if_neg hs]
   simpa using dataB_at r L j (by simpa using hj)
theorem phB_at : ∀ (ds : List Int) (l : List S55) (j : Nat), ds.length = l.length → j < l.length →
 At (phB ds l) (56 * j) (putL 4 [1, IntKind.u64.wrap (turnV (l.getD j z55).f2)] ++ putL 8 [ds.getD j 0, (l.getD j z55).f0, (l.getD j z55).f0, ((l.getD j z55).f3.length : Int), (l.getD j z55).f1, 1])
 | [], s :: r, _, h, _ => by simp at h
 | _, [], _, _, hj => absurd hj (by simp)
 | d :: ds, s :: r, 0, h, _ => by
  rw [phB]
  exact (At.self _).app _
 | d :: ds, s :: r, j + 1, h, hj => by
  rw [phB]
  have ih := phB_at ds r j (by simpa using h) (by simpa using hj)
  exact At.pre ih _ (by simp only [List.length_append, putL_length, List.length_cons, List.length_nil]; omega)
theorem body_shows (a0 se cnt third : Int) (l1 : List S55) : Shows (bodyB a0 se cnt third l1) a0 se cnt l1 (placesN (64 + 56 * l1.length) l1) := by
 have hL : (headB a0 se l1.length cnt third ++ phB (placesN (64 + 56 * l1.length) l1) l1).length = 64 + 56 * l1.length := by rw [List.length_append, headB_length, phB_length _ _ (placesN_length _ _)]
 obtain ⟨r, hr⟩ := dataB_pre (headB a0 se l1.length cnt third ++ phB (placesN (64 + 56 * l1.length) l1) l1) l1
 have h0 : At (headB a0 se l1.length cnt third) 0 (headB a0 se l1.length cnt third) := At.self _
 have h1 := h0
 have l16 : (strL elfB).length = 16 := by rw [strL_length]; rfl
 unfold headB at h1
 simp only [List.append_assoc] at h1
 have g0 := h1.left
 have t1 := h1.right (q := 16) (by rw [l16])
 have g1 := t1.left
 have t2 := t1.right (q := 20) (by simp only [putL_length, List.length_cons, List.length_nil])
 have g2 := t2.left
 have t3 := t2.right (q := 24) (by simp only [putL_length, List.length_cons, List.length_nil])
 have g3 := t3.left
 have t4 := t3.right (q := 48) (by simp only [putL_length, List.length_cons, List.length_nil])
 have g4 := t4.left
 have t5 := t4.right (q := 52) (by simp only [putL_length, List.length_cons, List.length_nil])
 rw [show ([64, 56, (l1.length : Int), 64, cnt, third] : List Int) = [64, 56, (l1.length : Int), 64, cnt] ++ [third] from rfl, putL_app] at t5
 have g5 := t5.left
 have up : ∀ {p : Nat} {x : List Int}, At (headB a0 se l1.length cnt third) p x → At (bodyB a0 se cnt third l1) p x := fun h => by
  unfold bodyB
  rw [hr]
  exact (h.app _).app _
 refine ⟨up ?_, up g1, up g2, up g3, up g4, up g5, ?_, fun j hj => ?_, fun j hj => ?_⟩
 ·have e : strL elfB = magicL ++ [0, 0, 0, 0, 0, 0, 0, 0, 0] := by rfl
  rw [e] at g0
  exact g0.left
 ·rw [bodyB_length]
  exact endN_ge _ _
 ·have hp := phB_at (placesN (64 + 56 * l1.length) l1) l1 j (placesN_length _ _) hj
  have hq := (hp.pre (headB a0 se l1.length cnt third) (q := 64 + 56 * j) (by rw [headB_length])).app r
  rw [← hr] at hq
  have hq : At (bodyB a0 se cnt third l1) (64 + 56 * j) _ := hq
  have q2 := hq.right (q := 64 + 56 * j + 8) (by simp only [putL_length, List.length_cons, List.length_nil])
  refine ⟨hq.left, ?_, ?_⟩
  ·rw [show ∀ a b c d e f : Int, ([a, b, c, d, e, f] : List Int) = [a] ++ [b, c, d, e, f] from fun _ _ _ _ _ _ => rfl, putL_app] at q2
   exact q2.left
  ·rw [show ∀ a b c d e f : Int, ([a, b, c, d, e, f] : List Int) = [a, b] ++ ([c, d, e] ++ [f]) from fun _ _ _ _ _ _ => rfl, putL_app, putL_app] at q2
   exact (q2.right (q := 64 + 56 * j + 24) (by simp only [putL_length, List.length_cons, List.length_nil])).left
 ·have hd := dataB_at l1 (headB a0 se l1.length cnt third ++ phB (placesN (64 + 56 * l1.length) l1) l1) j hj
  rw [hL] at hd
  exact hd
theorem Shows.app {b : List Int} {a0 se cnt : Int} {l1 : List S55} {ds : List Int} (h : Shows b a0 se cnt l1 ds) (r : List Int) : Shows (b ++ r) a0 se cnt l1 ds :=
 ⟨h.magic.app r, h.h16.app r, h.h20.app r, h.h24.app r, h.h48.app r, h.h52.app r, by rw [List.length_append]; have := h.end_; omega, fun j hj => ⟨(h.hd j hj).1.app r, (h.hd j hj).2.1.app r, (h.hd j hj).2.2.app r⟩, fun j hj => (h.dt j hj).app r⟩
theorem nextPl_nat (pl : Nat) (s : S82) (h1 : pl ≤ 1099511627776) (h2 : s.f0.size ≤ 1099511627776) : nextPl (pl : Int) s = ((pl + s.f0.size + 1 : Nat) : Int) := by
 unfold nextPl
 simp only [IntKind.wrap_u64]
 omega
theorem total_le {s : S82} {l : List S82} (h : s ∈ l) : s.f0.size ≤ total l := by
 induction l with
 | nil => cases h
 | cons a l ih =>
  rw [total]
  rcases List.mem_cons.1 h with rfl | h
  ·omega
  ·have := ih h; omega
theorem symsB_at : ∀ (l : List S82) (pl j : Nat), pl + total l ≤ 1099511627776 → j < l.length → At (symsB (pl : Int) l) (24 * j) (symB ((pl + total (l.take j) : Nat) : Int) (l.getD j z82))
 | s :: r, pl, 0, h, _ => by
  rw [symsB]
  simp only [List.take_zero, total, Nat.add_zero, List.getD_cons_zero]
  have e : putL 4 [(pl : Int)] ++ putL 1 [16, 0] ++ putL 2 [65521] ++ putL 8 [s.f1, 0] = symB (pl : Int) s := rfl
  rw [e]
  exact (At.self _).app _
 | s :: r, pl, j + 1, h, hj => by
  rw [total] at h
  rw [symsB, nextPl_nat pl s (by omega) (by omega)]
  have ih := symsB_at r (pl + s.f0.size + 1) j (by omega) (by simpa using hj)
  simp only [List.take_succ_cons, total, List.getD_cons_succ]
  rw [show pl + (s.f0.size + 1 + total (r.take j)) = pl + s.f0.size + 1 + total (r.take j) by omega]
  exact At.pre ih _ (by simp only [List.length_append, putL_length, List.length_cons, List.length_nil]; omega)
theorem tail_shows (D : List Int) (l : List S82) (hl : total l ≤ 1000000000) (tb tx ti se : Nat) (h1 : tb = D.length) (h2 : tx = tb + 24 + 24 * l.length) (h3 : ti = tx + 1 + total l) (h4 : se = upN (ti + 27)) :
 ShowsN (tailB D l) l tb tx ti se ∧ ∃ r, tailB D l = D ++ r ∧ (tailB D l).length = se + 256 := by
 have l27 : (strL titlesB).length = 27 := by rw [strL_length]; rfl
 have hu := upN_le (ti + 27)
 have e1 : (D ++ zs 24 ++ symsB 1 l).length = tx := by simp only [List.length_append, zs_length, symsB_length]; omega
 have e2 : (D ++ zs 24 ++ symsB 1 l ++ ([0] ++ namesB l)).length = ti := by rw [List.length_append, e1, List.length_append, namesB_length]; simp only [List.length_cons, List.length_nil]; omega
 have e3 : (D ++ zs 24 ++ symsB 1 l ++ ([0] ++ namesB l) ++ strL titlesB).length = ti + 27 := by rw [List.length_append, e2, l27]
 have h0 := At.self (tailB D l)
 obtain ⟨f, hf⟩ : ∃ f, tailB D l = f := ⟨_, rfl⟩
 rw [hf] at h0 ⊢
 have hf2 := hf
 unfold tailB at hf2
 simp only [] at hf2
 rw [e1, e2, ← h1] at hf2
 rw [padB, e3] at hf2
 have hlen : f.length = se + 256 := by
  rw [← hf2]
  simp only [List.length_append, zs_length, secB_length, List.length_append] at e3 ⊢
  omega
 have a := At.self f
 rw (occs := .pos [2]) [← hf2] at a
 simp only [List.append_assoc] at a
 have a0 := a.left
 have a1 := a.right (q := tb) (by omega)
 have a2 := a1.right (q := tb + 24) (by rw [zs_length])
 have a3 := a2.right (q := tx) (by rw [symsB_length]; omega)
 have b3 := a3
 rw [← List.append_assoc] at b3
 have a4 := b3.right (q := ti) (by simp only [List.length_append, namesB_length, List.length_cons, List.length_nil]; omega)
 have a5 := a4.right (q := ti + 27) (by rw [l27])
 have a6 := a5.right (q := se) (by rw [zs_length]; omega)
 have a7 := a6.right (q := se + 64) (by rw [zs_length])
 have a8 := a7.right (q := se + 128) (by rw [secB_length])
 refine ⟨⟨?_, a7.left, a8.left, by omega, fun j hj => ?_, b3.left⟩, ?_⟩
 ·have e : zs 64 = putL 4 [0, 0] ++ zs 56 := by decide
  have := a6.left
  rw [e] at this
  exact this.left
 ·exact At.in_ a2.left (symsB_at l 1 j (by omega) hj) rfl
 ·rw [← hf2]
  simp only [List.append_assoc]
  exact ⟨_, rfl, by rw [← hlen, ← hf2]; simp only [List.append_assoc]⟩
theorem p8 : (256 : Int) ^ 8 = 18446744073709551616 := by decide
theorem p4 : (256 : Int) ^ 4 = 4294967296 := by decide
theorem p2 : (256 : Int) ^ 2 = 65536 := by decide
/-- An image that can be written, but for its length. -/
structure Good (a0 : Int) (l1 : List S55) (l2 : List S82) : Prop where
 en : 0 ≤ a0 ∧ a0 < 18446744073709551616 ∧ a0 % 2 = 0
 c1 : l1.length ≤ 16
 c2 : l2.length ≤ 400
 nums : ∀ s ∈ l1, 0 ≤ s.f0 ∧ s.f0 < 18446744073709551616 ∧ 0 < s.f1 ∧ s.f1 < 18446744073709551616 ∧ 0 ≤ s.f2 ∧ s.f2 ≤ 7 ∧ (s.f3.length : Int) ≤ s.f1 ∧ s.f0 ≤ sumU s.f0 s.f1
 apart : l1.Pairwise fun p q => sumU p.f0 p.f1 < q.f0
 name : ∀ s ∈ l2, nameB s.f0 = true ∧ 0 ≤ s.f1 ∧ s.f1 < 18446744073709551616
 rise : l2.Pairwise fun p q => ltY p q = true
theorem getD_mem_seg {l : List S55} {j : Nat} (h : j < l.length) : l.getD j z55 ∈ l := by
 rw [List.getD_eq_getElem?_getD, List.getElem?_eq_getElem h]
 exact List.getElem_mem h
theorem getD_mem_sym {l : List S82} {j : Nat} (h : j < l.length) : l.getD j z82 ∈ l := by
 rw [List.getD_eq_getElem?_getD, List.getElem?_eq_getElem h]
 exact List.getElem_mem h
theorem take_seg {l : List S55} {j : Nat} (h : j < l.length) : l.take (j + 1) = l.take j ++ [l.getD j z55] := by
 rw [List.take_succ_eq_append_getElem h, List.getD_eq_getElem?_getD, List.getElem?_eq_getElem h]
 rfl
theorem take_sym {l : List S82} {j : Nat} (h : j < l.length) : l.take (j + 1) = l.take j ++ [l.getD j z82] := by
 rw [List.take_succ_eq_append_getElem h, List.getD_eq_getElem?_getD, List.getElem?_eq_getElem h]
 rfl
theorem room_yes {b : List Int} {a n : Int} (h : a + n ≤ (b.length : Int)) (h0 : 0 ≤ n) : roomS b a n = true := by
 unfold roomS
 simp only [Bool.and_eq_true, decide_eq_true_eq]
 omega
theorem magicS_at (b : List Int) : ∀ (m : List Int) (i : Nat) (k : Res Unit), At b i m → magicS b i m k = k
 | [], i, k, h => by rw [magicS]
 | c :: m, i, k, h => by
  have h0 := h 0 (by simp)
  simp only [Nat.add_zero, List.getD_cons_zero] at h0
  rw [magicS, chk_ok (decide_eq_true (by omega)), chk_ok (by rw [h0.2]; exact beq_self_eq_true c)]
  exact magicS_at b m (i + 1) k (At.right (x := [c]) (y := m) h rfl)
section
variable {b : List Int} {a0 se cnt : Int} {l1 : List S55} {l2 : List S82} {ds : List Int}
/-- The head's numbers. -/
structure HeadN (b : List Int) (a0 se cnt : Int) (n : Nat) : Prop where
 n16 : rdN b 16 2 = 2
 n18 : rdN b 18 2 = 243
 n20 : rdN b 20 4 = 1
 n24 : rdN b 24 8 = a0
 n32 : rdN b 32 8 = 64
 n40 : rdN b 40 8 = se
 n48 : rdN b 48 4 = 1
 n52 : rdN b 52 2 = 64
 n54 : rdN b 54 2 = 56
 n56 : rdN b 56 2 = (n : Int)
 n58 : rdN b 58 2 = 64
 n60 : rdN b 60 2 = cnt
theorem Shows.nums (S : Shows b a0 se cnt l1 ds) (G : Good a0 l1 l2) (hse : 0 ≤ se ∧ se < 18446744073709551616) (hc : 0 ≤ cnt ∧ cnt < 65536) : HeadN b a0 se cnt l1.length := by
 have := G.en
 have := G.c1
 exact ⟨S.h16.num 0 2 rfl (by decide) (by decide) rfl, S.h16.num 1 243 rfl (by decide) (by decide) rfl, S.h20.num 0 1 rfl (by decide) (by decide) rfl,
  S.h24.num 0 a0 rfl (by omega) (by simp only [p8, p4, p2]; omega) rfl, S.h24.num 1 64 rfl (by decide) (by decide) rfl, S.h24.num 2 se rfl (by omega) (by simp only [p8, p4, p2]; omega) rfl,
  S.h48.num 0 1 rfl (by decide) (by decide) rfl, S.h52.num 0 64 rfl (by decide) (by decide) rfl, S.h52.num 1 56 rfl (by decide) (by decide) rfl,
  S.h52.num 2 _ rfl (by omega) (by simp only [p8, p4, p2]; omega) rfl, S.h52.num 3 64 rfl (by decide) (by decide) rfl, S.h52.num 4 cnt rfl (by omega) (by simp only [p8, p4, p2]; omega) rfl⟩
theorem Shows.head (S : Shows b a0 se cnt l1 ds) (G : Good a0 l1 l2) (N : HeadN b a0 se cnt l1.length) : headS b = .ok () := by
 have h1 := S.end_
 have h2 := G.c1
 have h3 := G.en
 unfold headS
 rw [magicS_at b magicL 0 _ S.magic, headR1, headR2, headR3, N.n16, N.n18, N.n20, N.n24, N.n48, N.n52, N.n54, N.n56, N.n32]
 rw [chk_ok (decide_eq_true (by omega)), (chk_ok (by decide : ((2 : Int) == 2) = true)), (chk_ok (by decide : ((243 : Int) == 243) = true)), (chk_ok (by decide : ((1 : Int) == 1) = true)), h3.2.2, (chk_ok (by decide : ((0 : Int) == 0) = true)), (chk_ok (by decide : decide ((1 : Int) ≤ 1) = true)), (chk_ok (by decide : ((64 : Int) == 64) = true)), chk_ok (b := ((l1.length : Int) == 0 || (56 : Int) == 56)) (by simp), chk_ok (decide_eq_true (by omega)), chk_ok (room_yes (by omega) (by omega))]
theorem Shows.parts (S : Shows b a0 se cnt l1 ds) (G : Good a0 l1 l2) (hb : b.length ≤ 200000) (hd : ∀ j, j < l1.length → 0 ≤ ds.getD j 0 ∧ ds.getD j 0 + ((l1.getD j z55).f3.length : Int) ≤ (b.length : Int)) :
 ∀ m i : Nat, i + m = l1.length → partsS b 64 m (i : Int) (l1.take i) = .ok l1
 | 0, i, h => by rw [partsS, List.take_of_length_le (by omega)]
 | m + 1, i, h => by
  have hi : i < l1.length := by omega
  obtain ⟨h1, h2, h3⟩ := S.hd i hi
  obtain ⟨d0, d1⟩ := hd i hi
  have hdt := S.dt i hi
  have hmem := getD_mem_seg hi
  have hap := G.apart
  rw [partsS]
  have e2 : partS b (64 + 56 * (i : Int)) (l1.take i) = .ok (l1.take (i + 1)) := by
   rw [take_seg hi]
   have hall : ∀ s ∈ l1.take i, sumU s.f0 s.f1 < (l1.getD i z55).f0 := by
    intro s hs
    rw [← List.take_append_drop i l1, List.pairwise_append] at hap
    refine hap.2.2 s hs _ ?_
    rw [List.drop_eq_getElem_cons hi, List.getD_eq_getElem?_getD, List.getElem?_eq_getElem hi]
    exact List.mem_cons_self
   obtain ⟨s, hs⟩ : ∃ s, l1.getD i z55 = s := ⟨_, rfl⟩
   rw [hs] at h1 h3 d1 hdt hmem hall ⊢
   obtain ⟨k1, k2, k3, k4, k5, k6, k7, k8⟩ := G.nums s hmem
   obtain ⟨t1, t2, t3⟩ := turn_turn s.f2 k5 k6
   have ht : IntKind.u64.wrap (turnV s.f2) = turnV s.f2 := by rw [IntKind.wrap_u64]; omega
   rw [ht] at h1
   have n0 : rdN b (64 + 56 * (i : Int)) 4 = 1 := h1.num 0 1 rfl (by decide) (by decide) (by omega)
   have n4 : rdN b (64 + 56 * (i : Int) + 4) 4 = turnV s.f2 := h1.num 1 _ rfl t1 (by simp only [p8, p4, p2]; omega) (by omega)
   have n8 : rdN b (64 + 56 * (i : Int) + 8) 8 = ds.getD i 0 := h2.num 0 _ rfl d0 (by simp only [p8, p4, p2]; omega) (by omega)
   have n24 : rdN b (64 + 56 * (i : Int) + 24) 8 = s.f0 := h3.num 0 _ rfl k1 (by simp only [p8, p4, p2]; omega) (by omega)
   have n32 : rdN b (64 + 56 * (i : Int) + 32) 8 = (s.f3.length : Int) := h3.num 1 _ rfl (by omega) (by simp only [p8, p4, p2]; omega) (by omega)
   have n40 : rdN b (64 + 56 * (i : Int) + 40) 8 = s.f1 := h3.num 2 _ rfl (by omega) (by simp only [p8, p4, p2]; omega) (by omega)
   unfold partS
   rw [n0, n32, n40, if_neg (by omega)]
   unfold segS
   rw [n4, n32, n40, n8, n24, chk_ok (decide_eq_true t2), chk_ok (decide_eq_true k7), chk_ok (room_yes d1 (by omega)), chk_ok (b := fitsB s.f0 s.f1) (decide_eq_true k8)]
   rw [chk_ok (List.all_eq_true.2 (fun q hq => by unfold apartB; simp [hall q hq]))]
   have hcut := hdt.cut
   rw [t3, Int.toNat_natCast, hcut]
  rw [e2, andThen_ok]
  have := Shows.parts S G hb hd m (i + 1) (by omega)
  rwa [show ((i : Int) + 1) = ((i + 1 : Nat) : Int) from rfl]
end
theorem strOf_strL (s : ByteArray) : strOfNums (strL s) = s := by
 unfold strOfNums strL
 rw [List.map_map]
 have e : (fun n : Int => UInt8.ofNat n.toNat) ∘ (fun b : UInt8 => (b.toNat : Int)) = id := by
  funext b
  simp
 rw [e, List.map_id]
theorem upto0_str : ∀ (l r : List Int), (∀ x ∈ l, x ≠ 0) → upto0 (l ++ 0 :: r) = some l
 | [], r, _ => by simp [upto0]
 | c :: l, r, h => by
  rw [List.cons_append, upto0, if_neg (h c List.mem_cons_self), upto0_str l r (fun x hx => h x (List.mem_cons_of_mem _ hx))]
  rfl
theorem namesB_app : ∀ l r : List S82, namesB (l ++ r) = namesB l ++ namesB r
 | [], r => rfl
 | s :: l, r => by rw [List.cons_append, namesB, namesB, namesB_app l r]; simp only [List.append_assoc]
theorem total_app : ∀ l r : List S82, total (l ++ r) = total l + total r
 | [], r => by simp [total]
 | s :: l, r => by rw [List.cons_append, total, total, total_app l r]; omega
theorem strL_nz {s : ByteArray} (h : nameB s = true) : ∀ x ∈ strL s, x ≠ 0 := by
 intro x hx
 unfold strL at hx
 obtain ⟨u, hu, rfl⟩ := List.mem_map.1 hx
 have := nameB_nz h u hu
 omega
theorem sec_at {b : List Int} {p : Nat} {x0 x1 x2 x3 x4 x5 x6 x7 : Int} (h : At b p (secB x0 x1 x2 x3 x4 x5 x6 x7)) : At b p (putL 4 [x0, x1]) ∧ At b (p + 8) (putL 8 [0, 0, x2, x3]) ∧ At b (p + 40) (putL 4 [x4, x5]) ∧ At b (p + 48) (putL 8 [x6, x7]) := by
 unfold secB at h
 simp only [List.append_assoc] at h
 have h1 := h.right (q := p + 8) (by simp only [putL_length, List.length_cons, List.length_nil])
 have h2 := h1.right (q := p + 40) (by simp only [putL_length, List.length_cons, List.length_nil])
 exact ⟨h.left, h1.left, h2.left, h2.right (by simp only [putL_length, List.length_cons, List.length_nil])⟩
theorem sym_at {b : List Int} {p : Nat} {pl : Int} {s : S82} (h : At b p (symB pl s)) : At b p (putL 4 [pl]) ∧ At b (p + 4) (putL 1 [16, 0]) ∧ At b (p + 6) (putL 2 [65521]) ∧ At b (p + 8) (putL 8 [s.f1, 0]) := by
 unfold symB at h
 simp only [List.append_assoc] at h
 have h1 := h.right (q := p + 4) (by simp only [putL_length, List.length_cons, List.length_nil])
 have h2 := h1.right (q := p + 6) (by simp only [putL_length, List.length_cons, List.length_nil])
 exact ⟨h.left, h1.left, h2.left, h2.right (by simp only [putL_length, List.length_cons, List.length_nil])⟩
theorem ltY_ne {x y : S82} (h : ltY x y = true) : x ≠ y := by
 rintro rfl
 unfold ltY at h
 rw [bl_irrefl] at h
 simp at h
section
variable {b : List Int} {a0 : Int} {l1 : List S55} {l2 : List S82} {tb tx ti se : Nat}
theorem ShowsN.syms (S : ShowsN b l2 tb tx ti se) (G : Good a0 l1 l2) (ht : total l2 ≤ 1000000000) :
 ∀ m i : Nat, i + m = l2.length → symsS b ([0] ++ namesB l2) (tb : Int) m ((i + 1 : Nat) : Int) (l2.take i) = .ok l2
 | 0, i, h => by rw [symsS, List.take_of_length_le (by omega)]
 | m + 1, i, h => by
  have hi : i < l2.length := by omega
  have hr := S.rows i hi
  have hmem := getD_mem_sym hi
  have hrise := G.rise
  have hsplit : l2 = l2.take i ++ l2.getD i z82 :: l2.drop (i + 1) := by
   rw [show l2.getD i z82 = l2[i] by rw [List.getD_eq_getElem?_getD, List.getElem?_eq_getElem hi]; rfl, List.getElem_cons_drop, List.take_append_drop]
  rw [symsS]
  have e2 : symS b ([0] ++ namesB l2) ((tb : Int) + 24 * ((i + 1 : Nat) : Int)) (l2.take i) = .ok (l2.take (i + 1)) := by
   rw [take_sym hi]
   obtain ⟨s, hs⟩ : ∃ s, l2.getD i z82 = s := ⟨_, rfl⟩
   rw [hs] at hr hmem hsplit ⊢
   have hni : s ∉ l2.take i := fun hin => by
    rw [hsplit, List.pairwise_append] at hrise
    exact ltY_ne (hrise.2.2 s hin s List.mem_cons_self) rfl
   obtain ⟨k1, k2, k3⟩ := G.name s hmem
   obtain ⟨r1, r2, r3, r4⟩ := sym_at hr
   have hlen : (namesB l2).length = total l2 := namesB_length l2
   have htot : total l2 = total (l2.take i) + (s.f0.size + 1 + total (l2.drop (i + 1))) := by
    have e := congrArg total hsplit
    rw [total_app, total] at e
    exact e
   have n0 : rdN b ((tb : Int) + 24 * ((i + 1 : Nat) : Int)) 4 = ((1 + total (l2.take i) : Nat) : Int) := r1.num 0 _ rfl (by omega) (by simp only [p8, p4, p2]; omega) (by omega)
   have n4 : rdN b ((tb : Int) + 24 * ((i + 1 : Nat) : Int) + 4) 1 = 16 := r2.num 0 _ rfl (by decide) (by decide) (by omega)
   have n6 : rdN b ((tb : Int) + 24 * ((i + 1 : Nat) : Int) + 6) 2 = 65521 := r3.num 0 _ rfl (by decide) (by decide) (by omega)
   have n8 : rdN b ((tb : Int) + 24 * ((i + 1 : Nat) : Int) + 8) 8 = s.f1 := r4.num 0 _ rfl k2 (by simp only [p8, p4, p2]; omega) (by omega)
   have hdrop : ([0] ++ namesB l2).drop (((1 + total (l2.take i) : Nat) : Int).toNat) = strL s.f0 ++ 0 :: namesB (l2.drop (i + 1)) := by
    have e := congrArg namesB hsplit
    rw [namesB_app, namesB] at e
    rw [e, Int.toNat_natCast, ← List.append_assoc, List.drop_left' (by rw [List.length_append, namesB_length]; rfl)]
    simp
   unfold symS
   rw [n0, n8, chk_ok (decide_eq_true (by rw [List.length_append, hlen]; simp only [List.length_cons, List.length_nil]; omega)), hdrop, upto0_str _ _ (strL_nz k1)]
   simp only []
   rw [strOf_strL]
   have hskip : skipB b ((tb : Int) + 24 * ((i + 1 : Nat) : Int)) s.f0 (l2.take i) = false := by
    unfold skipB
    rw [k1, n4, n6, n8]
    have : ((l2.take i).any fun x => symEq x ⟨s.f0, s.f1⟩) = false := by
     rw [List.any_eq_false]
     intro x hx he
     rw [symEq_iff] at he
     exact hni (by rw [he] at hx; exact hx)
    rw [this]
    rfl
   rw [hskip, if_neg (by simp), chk_ok (decide_eq_true (by rw [List.length_take]; have := G.c2; omega))]
  rw [e2, andThen_ok]
  have := ShowsN.syms S G ht m (i + 1) (by omega)
  rwa [show (((i + 1 : Nat) : Int) + 1) = ((i + 1 + 1 : Nat) : Int) from rfl]
theorem ShowsN.names (S : ShowsN b l2 tb tx ti se) (G : Good a0 l1 l2) (N : HeadN b a0 se 4 l1.length) (hb : b.length ≤ 200000) (h1 : tx = tb + 24 + 24 * l2.length) (h2 : ti = tx + 1 + total l2) (h3 : ti ≤ se) (h0 : 0 < se) : namesS b = .ok l2 := by
 have he := S.end_
 obtain ⟨p1, p2, p3, p4⟩ := sec_at S.s1
 obtain ⟨q1, q2, q3, q4⟩ := sec_at S.s2
 have k0 : rdN b ((se : Int) + 64 * 0 + 4) 4 = 0 := S.s0.num 1 0 rfl (by decide) (by decide) (by omega)
 have k1 : rdN b ((se : Int) + 64 * (0 + 1) + 4) 4 = 2 := p1.num 1 2 rfl (by decide) (by decide) (by omega)
 have htab : tableS b = .ok (some ((se : Int) + 64 * (0 + 1))) := by
  unfold tableS
  rw [N.n60, N.n40, N.n58, if_neg (by omega), (chk_ok (by decide : ((64 : Int) == 64) = true)), chk_ok (room_yes (by omega) (by omega))]
  have e : findS b (4 : Int).toNat 0 = some ((se : Int) + 64 * (0 + 1)) := by
   show findS b 4 0 = _
   rw [findS, N.n40, k0, if_neg (by decide), findS, N.n40, k1, if_pos rfl]
  rw [e]
 have es : (se : Int) + 64 * (0 + 1) = ((se + 64 : Nat) : Int) := by omega
 have m56 : rdN b (((se + 64 : Nat) : Int) + 56) 8 = 24 := p4.num 1 24 rfl (by decide) (by decide) (by omega)
 have m32 : rdN b (((se + 64 : Nat) : Int) + 32) 8 = ((24 + 24 * l2.length : Nat) : Int) := p2.num 3 _ (by simp only [List.getElem?_cons_succ, List.getElem?_cons_zero]; congr 1; omega) (by omega) (by simp only [p8, p4, p2]; omega) (by omega)
 have m24 : rdN b (((se + 64 : Nat) : Int) + 24) 8 = (tb : Int) := p2.num 2 _ rfl (by omega) (by simp only [p8, p4, p2]; omega) (by omega)
 have m40 : rdN b (((se + 64 : Nat) : Int) + 40) 4 = 2 := p3.num 0 2 rfl (by decide) (by decide) (by omega)
 have esec : secS b 2 = ((se + 128 : Nat) : Int) := by unfold secS; rw [N.n40]; omega
 have u4 : rdN b (((se + 128 : Nat) : Int) + 4) 4 = 3 := q1.num 1 3 rfl (by decide) (by decide) (by omega)
 have u24 : rdN b (((se + 128 : Nat) : Int) + 24) 8 = (tx : Int) := q2.num 2 _ rfl (by omega) (by simp only [p8, p4, p2]; omega) (by omega)
 have u32 : rdN b (((se + 128 : Nat) : Int) + 32) 8 = ((1 + total l2 : Nat) : Int) := q2.num 3 _ (by simp only [List.getElem?_cons_succ, List.getElem?_cons_zero]; congr 1; omega) (by omega) (by simp only [p8, p4, p2]; omega) (by omega)
 unfold namesS
 rw [htab, andThen_ok, es]
 simp only []
 rw [m56, m32, m24, m40, esec, u4, u24, u32, N.n60]
 rw [(chk_ok (by decide : ((24 : Int) == 24) = true)), chk_ok (b := (((24 + 24 * l2.length : Nat) : Int) % 24 == 0)) (by rw [beq_iff_eq]; omega), chk_ok (room_yes (by omega) (by omega)), (chk_ok (by decide : (decide ((2 : Int) < 4) && ((3 : Int) == 3)) = true)), chk_ok (room_yes (by omega) (by omega))]
 have etx : (b.drop (tx : Int).toNat).take ((1 + total l2 : Nat) : Int).toNat = [0] ++ namesB l2 := by
  have := S.texts.cut
  rw [List.length_append, namesB_length] at this
  rw [Int.toNat_natCast, Int.toNat_natCast]
  exact this
 rw [etx, show (((24 + 24 * l2.length : Nat) : Int) / 24).toNat - 1 = l2.length by omega]
 exact ShowsN.syms S G (by omega) l2.length 0 (by omega)
end
theorem names_none {b : List Int} {a0 se : Int} {n : Nat} (N : HeadN b a0 se 0 n) : namesS b = .ok [] := by
 unfold namesS tableS
 rw [N.n60, if_pos (.inl rfl), andThen_ok]
/-- What is read where an image is shown. -/
theorem read_shown {b : List Int} {a0 : Int} {l1 : List S55} {l2 : List S82} {ds : List Int} {tb tx ti se : Nat} {cnt : Int} (G : Good a0 l1 l2) (S : Shows b a0 se cnt l1 ds) (hb : b.length ≤ 200000)
 (hd : ∀ j, j < l1.length → 0 ≤ ds.getD j 0 ∧ ds.getD j 0 + ((l1.getD j z55).f3.length : Int) ≤ (b.length : Int)) (hse : se ≤ 200000)
 (hn : (l2 = [] ∧ cnt = 0) ∨ (cnt = 4 ∧ ShowsN b l2 tb tx ti se ∧ tx = tb + 24 + 24 * l2.length ∧ ti = tx + 1 + total l2 ∧ ti ≤ se ∧ 0 < se)) : readS b = .ok (a0, l1, l2) := by
 have N := S.nums (l2 := l2) G (by omega) (by rcases hn with h | h <;> omega)
 unfold readS
 rw [chk_ok (decide_eq_true (by omega)), S.head G N, andThen_ok, N.n32, N.n56, N.n24]
 have hp := S.parts G hb hd l1.length 0 (by omega)
 rw [List.take_zero] at hp
 rw [Int.toNat_natCast, show (0 : Int) = ((0 : Nat) : Int) from rfl, hp, andThen_ok]
 rcases hn with ⟨rfl, rfl⟩ | ⟨rfl, SN, h1, h2, h3, h4⟩
 ·rw [names_none N, andThen_ok]
 ·rw [SN.names G N hb h1 h2 h3 h4, andThen_ok]
end Go.Proofs.YtbnlifldnjgpmaaGreatDoor.PWri
/- There and back: what is written is read as it was; bytes that nobody looks at; a beginning of a file; what is read can be written. Plain lists. -/
set_option linter.unusedVariables false
set_option linter.unusedSimpArgs false
namespace Go.Proofs.YtbnlifldnjgpmaaGreatDoor.PWri
open Go.RowKit Go.Lib Go.Proofs.YtbnlifldnjgpmaaGreatDoorW.PrintWords Go.Proofs.YtbnlifldnjgpmaaGreatDoorW.PrintLast
theorem rdSeg {l : List Seg} {j : Nat} (h : j < l.length) : rd_T55 l (j : Int) = l[j] := by
 unfold rd_T55
 rw [Int.toNat_natCast, List.getD_eq_getElem?_getD, List.getElem?_eq_getElem h]
 rfl
theorem rdSym {l : List Sym} {j : Nat} (h : j < l.length) : rd_T82 l (j : Int) = l[j] := by
 unfold rd_T82
 rw [Int.toNat_natCast, List.getD_eq_getElem?_getD, List.getElem?_eq_getElem h]
 rfl
theorem rdSeg1 {l : List Seg} {j : Nat} (h0 : 0 < j) (h : j < l.length) : rd_T55 l ((j : Int) - 1) = l[j - 1] := by
 have e : (j : Int) - 1 = ((j - 1 : Nat) : Int) := by omega
 rw [e, rdSeg (by omega)]
theorem rdSym1 {l : List Sym} {j : Nat} (h0 : 0 < j) (h : j < l.length) : rd_T82 l ((j : Int) - 1) = l[j - 1] := by
 have e : (j : Int) - 1 = ((j - 1 : Nat) : Int) := by omega
 rw [e, rdSym (by omega)]
theorem partsK_none (l : List Seg) : ∀ (d i : Nat), i + d = l.length → (partsK l d i = none ↔ ∀ j, i ≤ j → (h : j < l.length) → ¬ badS l[j] ∧ (0 < j → ¬ l[j].f0 ≤ lastS l[j - 1]))
 | 0, i, hi => by
  rw [partsK]
  exact ⟨fun _ j h1 h2 => by omega, fun _ => rfl⟩
 | d + 1, i, hi => by
  have hlt : i < l.length := by omega
  have ih := partsK_none l d (i + 1) (by omega)
  rw [partsK, rdSeg hlt]
  by_cases hb : badS l[i]
  ·rw [if_pos hb]
   exact ⟨fun h => (by cases h), fun h => absurd hb (h i (Nat.le_refl _) hlt).1⟩
  ·rw [if_neg hb]
   by_cases hs : 0 < i ∧ l[i].f0 ≤ lastS (rd_T55 l ((i : Int) - 1))
   ·rw [if_pos hs]
    refine ⟨fun h => (by cases h), fun h => ?_⟩
    have h2 := hs.2
    rw [rdSeg1 hs.1 hlt] at h2
    exact absurd h2 ((h i (Nat.le_refl _) hlt).2 hs.1)
   ·rw [if_neg hs, ih]
    refine ⟨fun h j h1 h2 => ?_, fun h j h1 h2 => h j (by omega) h2⟩
    rcases Nat.eq_or_lt_of_le h1 with rfl | h3
    ·refine ⟨hb, fun h0 hle => hs ⟨h0, ?_⟩⟩
     rw [rdSeg1 h0 hlt]
     exact hle
    ·exact h j h3 h2
theorem symsK_none (l : List Sym) : ∀ (d i : Nat), i + d = l.length → (symsK l d i = none ↔ ∀ j, i ≤ j → (h : j < l.length) → nameB l[j].f0 = true ∧ (0 < j → behindS l[j - 1] l[j] = true))
 | 0, i, hi => by
  rw [symsK]
  exact ⟨fun _ j h1 h2 => by omega, fun _ => rfl⟩
 | d + 1, i, hi => by
  have hlt : i < l.length := by omega
  have ih := symsK_none l d (i + 1) (by omega)
  rw [symsK, rdSym hlt]
  by_cases hb : nameB l[i].f0 = false
  ·rw [if_pos hb]
   exact ⟨fun h => (by cases h), fun h => absurd hb (by rw [(h i (Nat.le_refl _) hlt).1]; simp)⟩
  ·rw [if_neg hb]
   by_cases hs : 0 < i ∧ behindS (rd_T82 l ((i : Int) - 1)) l[i] = false
   ·rw [if_pos hs]
    refine ⟨fun h => (by cases h), fun h => ?_⟩
    have h2 := hs.2
    rw [rdSym1 hs.1 hlt, (h i (Nat.le_refl _) hlt).2 hs.1] at h2
    cases h2
   ·rw [if_neg hs, ih]
    refine ⟨fun h j h1 h2 => ?_, fun h j h1 h2 => h j (by omega) h2⟩
    rcases Nat.eq_or_lt_of_le h1 with rfl | h3
    ·refine ⟨by simpa using hb, fun h0 => ?_⟩
     cases e : behindS l[i - 1] l[i] with
     | true => rfl
     | false => exact absurd ⟨h0, by rw [rdSym1 h0 hlt]; exact e⟩ hs
    ·exact h j h3 h2
theorem behind_lt (x y : Sym) : behindS x y = ltY x y := by
 unfold behindS ltY
 have e1 : decide (y.f1 > x.f1) = decide (x.f1 < y.f1) := rfl
 have e2 : decide (y.f1 = x.f1) = decide (x.f1 = y.f1) := by simp [eq_comm]
 rw [e1, e2]
theorem ltY_tr {x y z : Sym} (h1 : ltY x y = true) (h2 : ltY y z = true) : ltY x z = true := by
 unfold ltY at *
 simp only [Bool.or_eq_true, decide_eq_true_eq, Bool.and_eq_true] at h1 h2 ⊢
 rcases h1 with h1 | ⟨h1, h3⟩
 ·rcases h2 with h2 | ⟨h2, h4⟩
  ·exact .inl (by omega)
  ·exact .inl (by omega)
 ·rcases h2 with h2 | ⟨h2, h4⟩
  ·exact .inl (by omega)
  ·exact .inr ⟨by omega, bl_trans _ _ _ h3 h4⟩
theorem steps_pairwise {α : Type} {R : α → α → Prop} {l : List α} (tr : ∀ x y z, y ∈ l → R x y → R y z → R x z) (h : ∀ j, (h0 : 0 < j) → (hj : j < l.length) → R l[j - 1] l[j]) : l.Pairwise R := by
 rw [List.pairwise_iff_getElem]
 intro i j hi hj hij
 induction j with
 | zero => omega
 | succ j ih =>
  have hs := h (j + 1) (by omega) hj
  simp only [Nat.add_sub_cancel] at hs
  rcases Nat.lt_or_ge i j with h1 | h1
  ·exact tr _ _ _ (List.getElem_mem _) (ih (by omega) h1) hs
  ·have : i = j := by omega
   subst this
   exact hs
theorem pairwise_step {α : Type} {R : α → α → Prop} {l : List α} (h : l.Pairwise R) {j : Nat} (h0 : 0 < j) (hj : j < l.length) : R l[j - 1] l[j] :=
 List.pairwise_iff_getElem.1 h (j - 1) j (by omega) hj (by omega)
/-- The numbers fit. -/
structure NumsL (e : Int) (l1 : List Seg) (l2 : List Sym) : Prop where
 en : 0 ≤ e ∧ e < 18446744073709551616
 seg : ∀ s ∈ l1, 0 ≤ s.f0 ∧ s.f0 < 18446744073709551616 ∧ 0 ≤ s.f1 ∧ s.f1 < 18446744073709551616 ∧ s.f3.length ≤ 1048576
 sym : ∀ s ∈ l2, 0 ≤ s.f1 ∧ s.f1 < 18446744073709551616
theorem last_sum (s : Seg) : lastS s = sumU s.f0 s.f1 := rfl
theorem check_good {e : Int} {l1 : List Seg} {l2 : List Sym} (N : NumsL e l1 l2) : checkS e l1 l2 = 0 ↔ Good e l1 l2 ∧ sizeS l1 l2 ≤ 200000 := by
 have key : Good e l1 l2 ↔ e % 2 = 0 ∧ l1.length ≤ 16 ∧ l2.length ≤ 400 ∧ partsK l1 l1.length 0 = none ∧ symsK l2 l2.length 0 = none := by
  rw [partsK_none l1 l1.length 0 (by omega), symsK_none l2 l2.length 0 (by omega)]
  constructor
  ·intro G
   refine ⟨G.en.2.2, G.c1, G.c2, fun j _ h => ⟨?_, fun h0 => ?_⟩, fun j _ h => ⟨(G.name _ (List.getElem_mem h)).1, fun h0 => ?_⟩⟩
   ·obtain ⟨k1, k2, k3, k4, k5, k6, k7, k8⟩ := G.nums _ (List.getElem_mem h)
    unfold badS
    rw [last_sum, IntKind.wrap_u64]
    omega
   ·have := pairwise_step G.apart h0 h
    rw [last_sum]
    omega
   ·rw [behind_lt]
    exact pairwise_step G.rise h0 h
  ·rintro ⟨h1, h2, h3, h4, h5⟩
   have hb : ∀ s ∈ l1, ¬ badS s := fun s hs => by
    obtain ⟨j, hj, rfl⟩ := List.getElem_of_mem hs
    exact (h4 j (Nat.zero_le _) hj).1
   have hs8 : ∀ s ∈ l1, s.f0 ≤ sumU s.f0 s.f1 := fun s hs => by
    have := hb s hs
    unfold badS at this
    rw [last_sum] at this
    omega
   refine ⟨⟨N.en.1, N.en.2, h1⟩, h2, h3, fun s hs => ?_, ?_, fun s hs => ?_, ?_⟩
   ·obtain ⟨n1, n2, n3, n4, n5⟩ := N.seg s hs
    have h8 := hs8 s hs
    have := hb s hs
    unfold badS at this
    rw [last_sum, IntKind.wrap_u64] at this
    omega
   ·refine steps_pairwise (fun x y z hy h1 h2 => ?_) (fun j h0 hj => ?_)
    ·have := hs8 y hy
     omega
    ·have := (h4 j (Nat.zero_le _) hj).2 h0
     rw [last_sum] at this
     omega
   ·obtain ⟨j, hj, rfl⟩ := List.getElem_of_mem hs
    exact ⟨(h5 j (Nat.zero_le _) hj).1, N.sym _ hs⟩
   ·refine steps_pairwise (fun x y z _ h1 h2 => ltY_tr h1 h2) (fun j h0 hj => ?_)
    have := (h5 j (Nat.zero_le _) hj).2 h0
    rwa [behind_lt] at this
 rw [key]
 unfold checkS restS
 by_cases c1 : e % 2 = 0
 ·rw [if_pos c1]
  by_cases c2 : l1.length > 16
  ·rw [if_pos c2]; exact ⟨fun h => (by cases h), fun h => by omega⟩
  ·rw [if_neg c2]
   by_cases c3 : l2.length > 400
   ·rw [if_pos c3]; exact ⟨fun h => (by cases h), fun h => by omega⟩
   ·rw [if_neg c3]
    cases hp : partsK l1 l1.length 0 with
    | some z =>
     refine ⟨fun h => ?_, fun h => (by cases h.1.2.2.2.1)⟩
     exact absurd (hp.trans (by rw [show z = 0 from h])) (partsS_ne l1 _ _)
    | none =>
     cases hq : symsK l2 l2.length 0 with
     | some z =>
      refine ⟨fun h => ?_, fun h => (by cases h.1.2.2.2.2)⟩
      exact absurd (hq.trans (by rw [show z = 0 from h])) (symsS_ne l2 _ _)
     | none =>
      simp only [Option.getD_none]
      constructor
      ·intro h
       split at h
       ·cases h
       ·exact ⟨⟨c1, by omega, by omega, trivial, trivial⟩, by omega⟩
      ·intro h
       rw [if_neg (by omega)]
 ·rw [if_neg c1]
  exact ⟨fun h => (by cases h), fun h => absurd h.1.1 c1⟩
theorem check_of_good {e : Int} {l1 : List Seg} {l2 : List Sym} (N : NumsL e l1 l2) (G : Good e l1 l2) : checkS e l1 l2 = if sizeS l1 l2 > 200000 then 3 else 0 := by
 by_cases h : sizeS l1 l2 > 200000
 ·rw [if_pos h]
  have hn : ¬ checkS e l1 l2 = 0 := fun h0 => by
   have := ((check_good N).1 h0).2
   omega
  unfold checkS restS at hn ⊢
  rw [if_pos G.en.2.2, if_neg (by have := G.c1; omega), if_neg (by have := G.c2; omega)] at hn ⊢
  have hp : partsK l1 l1.length 0 = none := (partsK_none l1 l1.length 0 (by omega)).2 fun j _ hj => ⟨by
   obtain ⟨k1, k2, k3, k4, k5, k6, k7, k8⟩ := G.nums _ (List.getElem_mem hj)
   unfold badS
   rw [last_sum, IntKind.wrap_u64]
   omega, fun h0 => by
   have := pairwise_step G.apart h0 hj
   rw [last_sum]
   omega⟩
  have hq : symsK l2 l2.length 0 = none := (symsK_none l2 l2.length 0 (by omega)).2 fun j _ hj => ⟨(G.name _ (List.getElem_mem hj)).1, fun h0 => by
   rw [behind_lt]
   exact pairwise_step G.rise h0 hj⟩
  rw [hp, hq]
  simp only [Option.getD_none]
  rw [if_pos h]
 ·rw [if_neg h]
  exact (check_good N).2 ⟨G, by omega⟩
theorem dataS_N (l : List Seg) : ∀ (d i n : Nat), i + d = l.length → dataS l d i (n : Int) = (endN n (l.drop i) : Int)
 | 0, i, n, hi => by
  rw [dataS, List.drop_eq_nil_of_le (by omega), endN]
 | d + 1, i, n, hi => by
  have hlt : i < l.length := by omega
  rw [dataS, rdSeg hlt, List.drop_eq_getElem_cons hlt, endN]
  by_cases h : 0 < l[i].f3.length
  ·rw [if_pos h, if_pos h, upS_N, ← Int.natCast_add, dataS_N l d (i + 1) _ (by omega)]
  ·rw [if_neg h, if_neg h, dataS_N l d (i + 1) _ (by omega)]
theorem namesK_N (l : List Sym) : ∀ (d i : Nat) (n : Int), i + d = l.length → namesK l d i n = n + (total (l.drop i) : Int)
 | 0, i, n, hi => by
  rw [namesK, List.drop_eq_nil_of_le (by omega), total]
  omega
 | d + 1, i, n, hi => by
  have hlt : i < l.length := by omega
  rw [namesK, rdSym hlt, List.drop_eq_getElem_cons hlt, total, namesK_N l d (i + 1) _ (by omega)]
  omega
theorem size_nat (l1 : List Seg) (l2 : List Sym) : sizeS l1 l2 = if l2.length = 0 then (endN (64 + 56 * l1.length) l1 : Int) else ((seN (endN (64 + 56 * l1.length) l1) l2 + 256 : Nat) : Int) := by
 unfold sizeS
 simp only []
 have e1 : dataS l1 l1.length 0 (64 + 56 * (l1.length : Int)) = (endN (64 + 56 * l1.length) l1 : Int) := by
  have := dataS_N l1 l1.length 0 (64 + 56 * l1.length) (by omega)
  rw [List.drop_zero] at this
  rw [← this]
  congr 1
 rw [e1]
 split
 ·rfl
 ·rw [namesK_N l2 l2.length 0 _ (by omega), List.drop_zero, upS_N]
  unfold seN tiN txN
  rw [show ((upN (endN (64 + 56 * l1.length) l1) : Nat) : Int) + 24 + 24 * (l2.length : Int) + 1 + (total l2 : Int) + 27 = ((upN (endN (64 + 56 * l1.length) l1) + 24 + 24 * l2.length + 1 + total l2 + 27 : Nat) : Int) by omega, upS_N]
  omega
theorem body_ds {l1 : List Seg} {j : Nat} (hj : j < l1.length) : 0 ≤ (placesN (64 + 56 * l1.length) l1).getD j 0 ∧ (placesN (64 + 56 * l1.length) l1).getD j 0 + ((l1.getD j z55).f3.length : Int) ≤ endN (64 + 56 * l1.length) l1 := places_in l1 _ j hj
theorem padB_pre (L : List Int) : ∃ r, padB L = L ++ r := ⟨_, rfl⟩
/-- What the file shows. -/
theorem file_shows {e : Int} {l1 : List Seg} {l2 : List Sym} (hz : sizeS l1 l2 ≤ 200000) :
 ((fileB e l1 l2).length : Int) = sizeS l1 l2 ∧ endN (64 + 56 * l1.length) l1 ≤ (fileB e l1 l2).length ∧ ∃ (se cnt : Int) (tb tx ti : Nat), Shows (fileB e l1 l2) e se cnt l1 (placesN (64 + 56 * l1.length) l1) ∧ se ≤ 200000 ∧
  ((l2 = [] ∧ cnt = 0 ∧ se = 0) ∨ (∃ sn : Nat, se = (sn : Int) ∧ cnt = 4 ∧ ShowsN (fileB e l1 l2) l2 tb tx ti sn ∧ tx = tb + 24 + 24 * l2.length ∧ ti = tx + 1 + total l2 ∧ ti ≤ sn ∧ 0 < sn ∧ 64 + 56 * l1.length ≤ tb ∧ endN (64 + 56 * l1.length) l1 ≤ tb ∧ (fileB e l1 l2).length = sn + 256)) := by
 rw [size_nat] at hz ⊢
 have hge := endN_ge (64 + 56 * l1.length) l1
 by_cases h : l2.length = 0
 ·have hl : l2 = [] := List.eq_nil_of_length_eq_zero h
  subst hl
  rw [if_pos h]
  have ef : fileB e l1 [] = bodyB e 0 0 0 l1 := by unfold fileB; rw [if_neg (by simp)]
  rw [ef, bodyB_length]
  exact ⟨rfl, Nat.le_refl _, 0, 0, 0, 0, 0, body_shows e 0 0 0 l1, by decide, .inl ⟨rfl, rfl, rfl⟩⟩
 ·rw [if_neg h] at hz ⊢
  obtain ⟨m, hm⟩ : ∃ m, endN (64 + 56 * l1.length) l1 = m := ⟨_, rfl⟩
  rw [hm] at hz hge ⊢
  have ef : fileB e l1 l2 = tailB (padB (bodyB e (seN m l2) 4 3 l1)) l2 := by unfold fileB; rw [if_pos (by omega), hm]
  have hu := upN_le m
  have hlb : (padB (bodyB e (seN m l2) 4 3 l1)).length = upN m := by rw [padB_length, bodyB_length, hm]
  have hu2 := upN_le (tiN m l2 + 27)
  have e1 : seN m l2 = upN (tiN m l2 + 27) := rfl
  have e2 : tiN m l2 = upN m + 24 + 24 * l2.length + 1 + total l2 := rfl
  obtain ⟨TS, r, hr, hlen⟩ := tail_shows (padB (bodyB e (seN m l2) 4 3 l1)) l2 (by omega) (upN m) (txN m l2) (tiN m l2) (seN m l2) hlb.symm rfl rfl rfl
  obtain ⟨r2, hr2⟩ := padB_pre (bodyB e (seN m l2) 4 3 l1)
  have hS : Shows (fileB e l1 l2) e (seN m l2) 4 l1 (placesN (64 + 56 * l1.length) l1) := by
   rw [ef, hr, hr2]
   exact ((body_shows e (seN m l2) 4 3 l1).app r2).app r
  rw [← ef] at TS hlen
  exact ⟨by rw [hlen], by omega, (seN m l2 : Int), 4, upN m, txN m l2, tiN m l2, hS, by omega, .inr ⟨seN m l2, rfl, rfl, TS, rfl, rfl, by omega, by omega, by omega, by omega, hlen⟩⟩
/-- P2.5: what is written is read as it was. -/
theorem file_back {e : Int} {l1 : List Seg} {l2 : List Sym} (G : Good e l1 l2) (hz : sizeS l1 l2 ≤ 200000) : readS (fileB e l1 l2) = .ok (e, l1, l2) := by
 obtain ⟨h1, h2, se, cnt, tb, tx, ti, S, hse, hn⟩ := file_shows (e := e) hz
 have hd : ∀ j, j < l1.length → 0 ≤ (placesN (64 + 56 * l1.length) l1).getD j 0 ∧ (placesN (64 + 56 * l1.length) l1).getD j 0 + ((l1.getD j z55).f3.length : Int) ≤ ((fileB e l1 l2).length : Int) := fun j hj => by
  have := body_ds hj
  omega
 rcases hn with ⟨rfl, rfl, rfl⟩ | ⟨sn, rfl, rfl, SN, e1, e2, e3, e4, _⟩
 ·exact read_shown (se := 0) (tb := 0) (tx := 0) (ti := 0) G S (by omega) hd (by decide) (.inl ⟨rfl, rfl⟩)
 ·exact read_shown G S (by omega) hd (by omega) (.inr ⟨rfl, SN, e1, e2, e3, e4⟩)
theorem places_ge : ∀ (l : List Seg) (n j : Nat), j < l.length → (l.getD j z55).f3 = [] ∨ n ≤ ((placesN n l).getD j 0).toNat
 | s :: r, n, 0, _ => by
  rw [placesN]
  have := upN_le n
  split
  ·rename_i h
   right
   simp only [List.getD_cons_zero, Int.toNat_natCast]
   omega
  ·rename_i h
   left
   simp only [List.getD_cons_zero]
   exact List.eq_nil_of_length_eq_zero (by omega)
 | s :: r, n, j + 1, hj => by
  rw [placesN]
  have := upN_le n
  split
  ·have ih := places_ge r (upN n + s.f3.length) j (by simpa using hj)
   simp only [List.getD_cons_succ]
   rcases ih with h | h
   ·exact .inl h
   ·exact .inr (by omega)
  ·simpa using places_ge r n j (by simpa using hj)
/-- P2.3. -/
theorem file_unseen {e : Int} {l1 : List Seg} {l2 : List Sym} (G : Good e l1 l2) (hz : sizeS l1 l2 ≤ 200000) {k : Nat} (hk : Free l1.length k) (v : Int) : readS ((fileB e l1 l2).set k v) = .ok (e, l1, l2) := by
 obtain ⟨h1, h2, se, cnt, tb, tx, ti, S, hse, hn⟩ := file_shows (e := e) hz
 have hlen : ((fileB e l1 l2).set k v).length = (fileB e l1 l2).length := List.length_set
 have hd : ∀ j, j < l1.length → 0 ≤ (placesN (64 + 56 * l1.length) l1).getD j 0 ∧ (placesN (64 + 56 * l1.length) l1).getD j 0 + ((l1.getD j z55).f3.length : Int) ≤ (((fileB e l1 l2).set k v).length : Int) := fun j hj => by
  have := body_ds hj
  omega
 have S2 := S.set (fun j hj => places_ge l1 _ j hj) hk v
 have hk2 : k < 64 + 56 * l1.length := by unfold Free at hk; omega
 rcases hn with ⟨rfl, rfl, rfl⟩ | ⟨sn, rfl, rfl, SN, e1, e2, e3, e4, e5, _⟩
 ·exact read_shown (se := 0) (tb := 0) (tx := 0) (ti := 0) G S2 (by omega) hd (by decide) (.inl ⟨rfl, rfl⟩)
 ·exact read_shown G S2 (by omega) hd (by omega) (.inr ⟨rfl, SN.set (by omega) (by omega) (by omega) v, e1, e2, e3, e4⟩)
theorem end_last : ∀ (l : List Seg) (n : Nat), endN n l = n ∨ ∃ j, j < l.length ∧ 0 < (l.getD j z55).f3.length ∧ (placesN n l).getD j 0 + ((l.getD j z55).f3.length : Int) = endN n l
 | [], n => .inl rfl
 | s :: r, n => by
  rw [endN, placesN]
  have := upN_le n
  split
  ·rename_i h
   rcases end_last r (upN n + s.f3.length) with h1 | ⟨j, h1, h2, h3⟩
   ·right
    refine ⟨0, by simp, by simpa using h, ?_⟩
    rw [h1]
    simp
   ·right
    exact ⟨j + 1, by simpa using h1, by simpa using h2, by simpa using h3⟩
  ·rename_i h
   rcases end_last r n with h1 | ⟨j, h1, h2, h3⟩
   ·exact .inl h1
   ·right
    exact ⟨j + 1, by simpa using h1, by simpa using h2, by simpa using h3⟩
theorem seg_room {b : List Int} {h : Int} {out r : List Seg} (hs : segS b h out = .ok r) : roomS b (rdN b (h + 8) 8) (rdN b (h + 32) 8) = true := by
 unfold segS at hs
 obtain ⟨_, hs⟩ := ck_yes hs
 obtain ⟨_, hs⟩ := ck_yes hs
 exact (ck_yes hs).1
theorem parts_room {b : List Int} {h0 : Int} {r : List Seg} : ∀ (m : Nat) (i : Int) (out : List Seg), partsS b h0 m i out = .ok r → ∀ j : Nat, j < m → rdN b (h0 + 56 * (i + j)) 4 = 1 → ¬ (rdN b (h0 + 56 * (i + j) + 32) 8 = 0) → roomS b (rdN b (h0 + 56 * (i + j) + 8) 8) (rdN b (h0 + 56 * (i + j) + 32) 8) = true
 | m + 1, i, out, h, j, hj, h1, h2 => by
  rw [partsS] at h
  obtain ⟨o2, ha, hb⟩ := aT_yes h
  cases j with
  | zero =>
   have e : i + ((0 : Nat) : Int) = i := by omega
   rw [e] at h1 h2 ⊢
   unfold partS at ha
   rw [if_neg (by omega)] at ha
   exact seg_room ha
  | succ j =>
   have e : i + ((j + 1 : Nat) : Int) = (i + 1) + (j : Int) := by omega
   rw [e] at h1 h2 ⊢
   exact parts_room m (i + 1) o2 hb j (by omega) h1 h2
/-- P2.6. -/
theorem file_cut {e : Int} {l1 : List Seg} {l2 : List Sym} (G : Good e l1 l2) (hz : sizeS l1 l2 ≤ 200000) (hne : 0 < l1.length + l2.length) {n : Nat} (hn : n < (fileB e l1 l2).length) (r : Int × List Seg × List Sym) : readS ((fileB e l1 l2).take n) ≠ .ok r := by
 intro hr
 obtain ⟨h1, h2, se, cnt, tb, tx, ti, S, hse, hc⟩ := file_shows (e := e) hz
 obtain ⟨f, hf⟩ : ∃ f, fileB e l1 l2 = f := ⟨_, rfl⟩
 rw [hf] at hr hn h1 h2 S hc
 have hlen : (f.take n).length = n := by rw [List.length_take]; omega
 unfold readS at hr
 obtain ⟨_, hr⟩ := ck_yes hr
 obtain ⟨_, hh, hr⟩ := aT_yes hr
 obtain ⟨h64, _, hroom, _⟩ := head_gives hh
 obtain ⟨segs, hp, hr⟩ := aT_yes hr
 obtain ⟨syms, hnm, _⟩ := aT_yes hr
 have c1 := G.c1
 have hse0 : 0 ≤ se := by rcases hc with h | ⟨sn, h, _⟩ <;> omega
 have n32 : rdN (f.take n) 32 8 = 64 := (S.h24.take (by rw [putL_length]; simp only [List.length_cons, List.length_nil]; omega)).num 1 64 rfl (by decide) (by decide) rfl
 have n40 : rdN (f.take n) 40 8 = se := (S.h24.take (by rw [putL_length]; simp only [List.length_cons, List.length_nil]; omega)).num 2 se rfl (by omega) (by simp only [p8]; omega) rfl
 have S52 : At (f.take n) 52 _ := S.h52.take (by rw [putL_length]; simp only [List.length_cons, List.length_nil]; omega)
 have n56 : rdN (f.take n) 56 2 = (l1.length : Int) := S52.num 2 _ rfl (by omega) (by simp only [p2]; omega) rfl
 rw [n32, n56] at hroom hp
 obtain ⟨_, hroom⟩ := room_le hroom
 rw [hlen] at hroom
 rcases hc with ⟨rfl, rfl, rfl⟩ | ⟨sn, rfl, rfl, SN, e1, e2, e3, e4, e5, e6, e7⟩
 ·rw [size_nat, if_pos (by simp)] at h1 hz
  rcases end_last l1 (64 + 56 * l1.length) with h | ⟨j, hj, hpos, he⟩
  ·rw [h] at h1
   omega
  ·obtain ⟨g1, g2, g3⟩ := S.hd j hj
   have hmem := getD_mem_seg hj
   obtain ⟨k1, k2, k3, k4, k5, k6, k7, k8⟩ := G.nums _ hmem
   obtain ⟨d0, d1⟩ := body_ds hj
   have u0 : rdN (f.take n) (64 + 56 * ((0 : Int) + j)) 4 = 1 := (g1.take (by rw [putL_length]; simp only [List.length_cons, List.length_nil]; omega)).num 0 1 rfl (by decide) (by decide) (by omega)
   have u8 : rdN (f.take n) (64 + 56 * ((0 : Int) + j) + 8) 8 = (placesN (64 + 56 * l1.length) l1).getD j 0 := (g2.take (by rw [putL_length]; simp only [List.length_cons, List.length_nil]; omega)).num 0 _ rfl d0 (by simp only [p8]; omega) (by omega)
   have u32 : rdN (f.take n) (64 + 56 * ((0 : Int) + j) + 32) 8 = ((l1.getD j z55).f3.length : Int) := (g3.take (by rw [putL_length]; simp only [List.length_cons, List.length_nil]; omega)).num 1 _ rfl (by omega) (by simp only [p8]; omega) (by omega)
   have hq := parts_room _ _ _ hp j (by omega) u0 (by rw [u32]; omega)
   rw [u8, u32] at hq
   have := (room_le hq).2
   rw [hlen] at this
   omega
 ·have n60 : rdN (f.take n) 60 2 = 4 := S52.num 4 4 rfl (by decide) (by decide) rfl
  unfold namesS at hnm
  obtain ⟨o, ht, _⟩ := aT_yes hnm
  unfold tableS at ht
  rw [n60, n40, if_neg (by omega)] at ht
  obtain ⟨_, ht⟩ := ck_yes ht
  have := (room_le (ck_yes ht).1).2
  rw [hlen] at this
  omega
/-- A part that was read. -/
def SegOk (n : Nat) (s : Seg) : Prop := 0 ≤ s.f0 ∧ s.f0 < 18446744073709551616 ∧ 0 < s.f1 ∧ s.f1 < 18446744073709551616 ∧ 0 ≤ s.f2 ∧ s.f2 ≤ 7 ∧ (s.f3.length : Int) ≤ s.f1 ∧ s.f0 ≤ sumU s.f0 s.f1 ∧ s.f3.length ≤ n ∧ Bytes s.f3
def Off (p q : Seg) : Prop := sumU p.f0 p.f1 < q.f0 ∨ sumU q.f0 q.f1 < p.f0
theorem parts_good {b : List Int} (hB : Bytes b) {h0 : Int} {r : List Seg} : ∀ (m : Nat) (i : Int) (out : List Seg), partsS b h0 m i out = .ok r → (∀ s ∈ out, SegOk b.length s) → out.Pairwise Off → (∀ s ∈ r, SegOk b.length s) ∧ r.Pairwise Off ∧ r.length ≤ out.length + m
 | 0, i, out, h, h1, h2 => by
  rw [partsS] at h
  cases h
  exact ⟨h1, h2, Nat.le_refl _⟩
 | m + 1, i, out, h, h1, h2 => by
  rw [partsS] at h
  obtain ⟨o2, ha, hb⟩ := aT_yes h
  obtain ⟨H, hH⟩ : ∃ H, h0 + 56 * i = H := ⟨_, rfl⟩
  rw [hH] at ha
  have key : (∀ s ∈ o2, SegOk b.length s) ∧ o2.Pairwise Off ∧ o2.length ≤ out.length + 1 := by
   unfold partS at ha
   split at ha
   ·cases ha
    exact ⟨h1, h2, by omega⟩
   ·rename_i hz
    unfold segS at ha
    obtain ⟨q1, ha⟩ := ck_yes ha
    obtain ⟨q2, ha⟩ := ck_yes ha
    obtain ⟨q3, ha⟩ := ck_yes ha
    obtain ⟨q4, ha⟩ := ck_yes ha
    obtain ⟨q5, ha⟩ := ck_yes ha
    have q1 := of_decide_eq_true q1
    have q2 := of_decide_eq_true q2
    have q3 := room_le q3
    have q4 := of_decide_eq_true q4
    have z4 := rd4 hB (H + 4)
    have z8 := rd8 hB (H + 8)
    have z24 := rd8 hB (H + 24)
    have z32 := rd8 hB (H + 32)
    have z40 := rd8 hB (H + 40)
    have tr := turnS_range _ z4.1 q1
    have hl : ((b.drop (rdN b (H + 8) 8).toNat).take (rdN b (H + 32) 8).toNat).length ≤ (rdN b (H + 32) 8).toNat := by rw [List.length_take]; omega
    cases ha
    refine ⟨fun s hs => ?_, ?_, by rw [List.length_append]; simp⟩
    ·rcases List.mem_append.1 hs with hs | hs
     ·exact h1 s hs
     ·rw [List.mem_singleton] at hs
      subst hs
      refine ⟨z24.1, z24.2, ?_, z40.2, tr.1, tr.2, ?_, q4, ?_, fun x hx => hB x (List.mem_of_mem_drop (List.mem_of_mem_take hx))⟩
      ·show 0 < rdN b (H + 40) 8
       omega
      ·show (((b.drop (rdN b (H + 8) 8).toNat).take (rdN b (H + 32) 8).toNat).length : Int) ≤ rdN b (H + 40) 8
       omega
      ·show ((b.drop (rdN b (H + 8) 8).toNat).take (rdN b (H + 32) 8).toNat).length ≤ b.length
       rw [List.length_take, List.length_drop]
       omega
    ·rw [List.pairwise_append]
     refine ⟨h2, List.pairwise_singleton _ _, fun p hp q hq => ?_⟩
     rw [List.mem_singleton] at hq
     subst hq
     have := List.all_eq_true.1 q5 p hp
     unfold apartB at this
     simp only [Bool.or_eq_true, decide_eq_true_eq] at this
     exact this
  obtain ⟨k1, k2, k3⟩ := key
  obtain ⟨g1, g2, g3⟩ := parts_good hB m (i + 1) o2 hb k1 k2
  exact ⟨g1, g2, by omega⟩
theorem sN_size (nm : List Int) : (strOfNums nm).size = nm.length := by
 show ((nm.map fun n => UInt8.ofNat n.toNat).toArray).size = nm.length
 simp
/-- A name that was read. -/
def SymOk (n : Nat) (s : Sym) : Prop := nameB s.f0 = true ∧ 0 ≤ s.f1 ∧ s.f1 < 18446744073709551616 ∧ s.f0.size ≤ n
theorem syms_good {b t : List Int} (hB : Bytes b) {f : Int} {r : List Sym} : ∀ (m : Nat) (i : Int) (out : List Sym), symsS b t f m i out = .ok r → (∀ s ∈ out, SymOk t.length s) → out.Nodup → out.length ≤ 400 → (∀ s ∈ r, SymOk t.length s) ∧ r.Nodup ∧ r.length ≤ 400
 | 0, i, out, h, h1, h2, h3 => by
  rw [symsS] at h
  cases h
  exact ⟨h1, h2, h3⟩
 | m + 1, i, out, h, h1, h2, h3 => by
  rw [symsS] at h
  obtain ⟨o2, ha, hb⟩ := aT_yes h
  obtain ⟨y, hy⟩ : ∃ y, f + 24 * i = y := ⟨_, rfl⟩
  rw [hy] at ha
  have key : (∀ s ∈ o2, SymOk t.length s) ∧ o2.Nodup ∧ o2.length ≤ 400 := by
   unfold symS at ha
   obtain ⟨_, ha⟩ := ck_yes ha
   split at ha
   ·cases ha
   ·rename_i nm hnm
    split at ha
    ·cases ha
     exact ⟨h1, h2, h3⟩
    ·rename_i hsk
     obtain ⟨q, ha⟩ := ck_yes ha
     have q := of_decide_eq_true q
     have z8 := rd8 hB (y + 8)
     simp only [Bool.not_eq_true] at hsk
     unfold skipB at hsk
     simp only [Bool.or_eq_false_iff, Bool.not_eq_false'] at hsk
     obtain ⟨k1, k2, k3, k4, k5⟩ := hsk
     have hni : (⟨strOfNums nm, rdN b (y + 8) 8⟩ : Sym) ∉ out := fun hin => by
      have := List.any_eq_false.1 k5 _ hin
      exact this (symEq_iff.2 rfl)
     cases ha
     refine ⟨fun s hs => ?_, ?_, by rw [List.length_append]; simp; omega⟩
     ·rcases List.mem_append.1 hs with hs | hs
      ·exact h1 s hs
      ·rw [List.mem_singleton] at hs
       subst hs
       exact ⟨k1, z8.1, z8.2, by show (strOfNums nm).size ≤ _; rw [sN_size]; have := (upto0_take hnm).2; rw [List.length_drop] at this; omega⟩
     ·unfold List.Nodup at *
      rw [List.pairwise_append]
      refine ⟨h2, List.pairwise_singleton _ _, fun p hp q hq => ?_⟩
      rw [List.mem_singleton] at hq
      subst hq
      rintro rfl
      exact hni hp
  exact syms_good hB m (i + 1) o2 hb key.1 key.2.1 key.2.2
theorem read_good {b : List Int} (hB : Bytes b) {en : Int} {segs ps : List Seg} {syms ys : List Sym} (h : readS b = .ok (en, segs, syms)) (p1 : ps.Perm segs) (s1 : ps.Pairwise fun p q => p.f0 ≤ q.f0) (p2 : ys.Perm syms) (s2 : ys.Pairwise fun p q => ltY q p = false) : Good en ps ys ∧ (∀ s ∈ ps, s.f3.length ≤ b.length ∧ Bytes s.f3) ∧ ∀ s ∈ ys, s.f0.size ≤ b.length := by
 unfold readS at h
 obtain ⟨_, h⟩ := ck_yes h
 obtain ⟨_, hh, h⟩ := aT_yes h
 obtain ⟨h64, h16, _, hev⟩ := head_gives hh
 obtain ⟨sg, hp, h⟩ := aT_yes h
 obtain ⟨sy, hn, h⟩ := aT_yes h
 cases h
 obtain ⟨g1, g2, g3⟩ := parts_good hB _ _ _ hp (fun s hs => by cases hs) .nil
 have z24 := rd8 hB 24
 have z56 := rd2 hB 56
 have hsy : (∀ s ∈ syms, SymOk b.length s) ∧ syms.Nodup ∧ syms.length ≤ 400 := by
  unfold namesS at hn
  obtain ⟨o, ht, hn⟩ := aT_yes hn
  cases o with
  | none => cases hn; exact ⟨fun s hs => (by cases hs), List.nodup_nil, by simp⟩
  | some s =>
   dsimp only at hn
   obtain ⟨_, hn⟩ := ck_yes hn
   obtain ⟨_, hn⟩ := ck_yes hn
   obtain ⟨_, hn⟩ := ck_yes hn
   obtain ⟨_, hn⟩ := ck_yes hn
   obtain ⟨_, hn⟩ := ck_yes hn
   have g := syms_good hB _ _ _ hn (fun s hs => by cases hs) List.nodup_nil (by simp)
   refine ⟨fun s hs => ?_, g.2⟩
   obtain ⟨q1, q2, q3, q4⟩ := g.1 s hs
   rw [List.length_take, List.length_drop] at q4
   exact ⟨q1, q2, q3, by omega⟩
 have ok : ∀ s ∈ ps, SegOk b.length s := fun s hs => g1 s (p1.mem_iff.1 hs)
 refine ⟨⟨⟨z24.1, z24.2, hev⟩, ?_, ?_, fun s hs => ?_, ?_, fun s hs => ?_, ?_⟩, fun s hs => ?_, fun s hs => (hsy.1 s (p2.mem_iff.1 hs)).2.2.2⟩
 ·rw [p1.length_eq]
  simp only [List.length_nil, Nat.zero_add] at g3
  omega
 ·rw [p2.length_eq]; exact hsy.2.2
 ·obtain ⟨a1, a2, a3, a4, a5, a6, a7, a8, a9, _⟩ := ok s hs
  exact ⟨a1, a2, a3, a4, a5, a6, a7, a8⟩
 ·have hoff : ps.Pairwise Off := (p1.pairwise_iff (fun {x y} h => h.symm)).2 g2
  have := List.Pairwise.and s1 hoff
  refine List.Pairwise.imp_of_mem ?_ this
  rintro p q hp hq ⟨hle, h | h⟩
  ·exact h
  ·have a8 := (ok q hq).2.2.2.2.2.2.2.1
   omega
 ·obtain ⟨q1, q2, q3, _⟩ := hsy.1 s (p2.mem_iff.1 hs)
  exact ⟨q1, q2, q3⟩
 ·have hnd : ys.Nodup := p2.nodup_iff.2 hsy.2.1
  have := List.Pairwise.and s2 hnd
  refine this.imp ?_
  rintro p q ⟨h1, h2⟩
  cases h3 : ltY p q with
  | true => rfl
  | false => exact absurd (ltY_at h3 h1) h2
 ·exact (ok s hs).2.2.2.2.2.2.2.2
/-- Sorted lists of the same members are one. -/
theorem sorted_segs {e : Int} {l1 ps : List Seg} {l2 : List Sym} (G : Good e l1 l2) (p1 : ps.Perm l1) (s1 : ps.Pairwise fun p q => p.f0 ≤ q.f0) : ps = l1 := by
 refine p1.eq_of_pairwise (le := fun p q => p.f0 ≤ q.f0) ?_ s1 ?_
 ·intro x y hx hy h1 h2
  have hy2 := hy
  have hx2 := p1.mem_iff.1 hx
  obtain ⟨i, hi, rfl⟩ := List.getElem_of_mem hx2
  obtain ⟨j, hj, rfl⟩ := List.getElem_of_mem hy2
  rcases Nat.lt_trichotomy i j with h | h | h
  ·have := List.pairwise_iff_getElem.1 G.apart i j hi hj h
   have := (G.nums _ hx2).2.2.2.2.2.2.2
   omega
  ·subst h; rfl
  ·have := List.pairwise_iff_getElem.1 G.apart j i hj hi h
   have := (G.nums _ hy2).2.2.2.2.2.2.2
   omega
 ·refine List.Pairwise.imp_of_mem ?_ G.apart
  intro p q hp hq h
  have := (G.nums _ hp).2.2.2.2.2.2.2
  omega
theorem ltY_as {x y : Sym} (h : ltY x y = true) : ltY y x = false := by
 cases h2 : ltY y x with
 | false => rfl
 | true => exact absurd rfl (ltY_ne (ltY_tr h h2))
theorem sorted_syms {e : Int} {l1 : List Seg} {l2 ys : List Sym} (G : Good e l1 l2) (p2 : ys.Perm l2) (s2 : ys.Pairwise fun p q => ltY q p = false) : ys = l2 :=
 p2.eq_of_pairwise (le := fun p q => ltY q p = false) (fun x y _ _ h1 h2 => ltY_at h2 h1) s2 (G.rise.imp fun h => ltY_as h)
end Go.Proofs.YtbnlifldnjgpmaaGreatDoor.PWri
/- An image is like itself, by the law's mirror of 'alike'. -/
set_option linter.unusedVariables false
set_option linter.unusedSimpArgs false
namespace Go.Proofs.YtbnlifldnjgpmaaGreatDoor.PWri
open Go.RowKit Go.Lib Go.Proofs.YtbnlifldnjgpmaaGreatDoorW.PrintWords Go.Proofs.YtbnlifldnjgpmaaGreatDoorW.PrintLast
theorem segEq_refl (s : Seg) : segEq s s = true := by simp [segEq]
theorem segsEq_refl : ∀ l : List Seg, segsEq l l = true
 | [] => rfl
 | s :: r => by rw [segsEq, segEq_refl, segsEq_refl r]; rfl
theorem names_l0 (syms : List Sym) (H : syms.length ≤ 1048576) : ∀ (d i : Nat), i + d = syms.length → Ev (fun k => anvillaw02_names.l0 k syms syms (i : Int)) true := by
 intro d
 induction d with
 | zero =>
  intro i hi
  refine Ev.step (f := fun _ => some true) (fun k => ?_) (Ev.now _)
  rw [anvillaw02_names.l0, if_neg (by omega)]
 | succ d ih =>
  intro i hi
  refine Ev.step (fun k => ?_) (ih (i + 1) (by omega))
  rw [anvillaw02_names.l0, if_pos (by omega), if_pos (by omega), if_pos (by omega)]
  simp
  rw [w64 (by omega) (by omega)]
theorem alike_is (e : Int) (segs : List Seg) (syms : List Sym) (H : syms.length ≤ 1048576) : Ev (fun k => anvillaw02_alike.f k e segs syms e segs syms) true := by
 unfold anvillaw02_alike.f
 refine Ev.congr (f := fun k => (anvillaw02_names.f k syms syms).bind fun t368 => (some t368)) (fun k => ?_) ?_
 ·rw [if_pos rfl]
  simp only [anvillaw02_parts.f, Option.bind_some, segsEq_refl, beq_self_eq_true, Bool.and_self, if_true]
 ·refine Ev.bind (a := true) ?_ (Ev.now _)
  unfold anvillaw02_names.f
  exact Ev.congr (fun k => by rw [if_pos rfl]; rfl) (names_l0 syms H syms.length 0 (by omega))
end Go.Proofs.YtbnlifldnjgpmaaGreatDoor.PWri
/- Write, Read, twin and alike as the laws need them: by what they answer. -/
set_option linter.unusedVariables false
set_option linter.unusedSimpArgs false
namespace Go.Proofs.YtbnlifldnjgpmaaGreatDoor.PWri
open Go.RowKit Go.Lib Go.Proofs.YtbnlifldnjgpmaaGreatDoorW.PrintWords Go.Proofs.YtbnlifldnjgpmaaGreatDoorW.PrintLast
/-- A fact that stays whatever is laid behind. -/
def Still (W : World) (P : World → Prop) : Prop := ∀ W', Below W.heap.size W W' → P W'
theorem Still.now {W : World} {P : World → Prop} (h : Still W P) : P W := h W (Below.refl _ _)
theorem Still.step {W W' : World} {P : World → Prop} (h : Still W P) (hb : Below W.heap.size W W') : Still W' P := fun W2 h2 => h W2 (hb.trans (h2.mono hb.size))
theorem Still.alloc {W : World} {P : World → Prop} (h : Still W P) (o : Obj) : Still (W.alloc o) P := h.step ((Below.refl _ W).alloc (Nat.le_refl _) o)
theorem Still.drew {W : World} {P : World → Prop} (h : Still W P) : Still W.drew P := h.step (below_drew (Below.refl _ W))
theorem Still.and {W : World} {P Q : World → Prop} (h : Still W P) (k : Still W Q) : Still W (fun W' => P W' ∧ Q W') := fun W' hb => ⟨h W' hb, k W' hb⟩
theorem Still.imp {W : World} {P Q : World → Prop} (h : Still W P) (k : ∀ W', P W' → Q W') : Still W Q := fun W' hb => k W' (h W' hb)
/-- A box that stands. -/
theorem still_box (W : World) (o : Obj) : Still (W.alloc o) (fun W' => W'.heap[W.heap.size]? = some o) := fun W' hb => kBe (blk_new W o) hb
structure Base (w W : World) : Prop where
 below : Below w.heap.size w W
 glob : Glob W
 errT : ErrT W
theorem still0 (w : World) (hG : Glob w) (hE : ErrT w) : Still w (Base w) := fun W hb => ⟨hb, Glob.step hG hb, hE.below hb⟩
theorem still_C {α : Type} {d : Kd α} {w : World} {A : Option Addr} {n c : Nat} {l : List α} (h : Kd.C d w A n l ∧ l.length ≤ c) : Still w (fun W => Kd.C d W A n l ∧ l.length ≤ c) := fun W hb => ⟨Kd.C_below h.1 hb, h.2⟩
theorem still_R {w : World} {base : Nat} {ok : Nat → Prop} {v : Value} {l : List Int} (h : Kd.R (Kd.int .u8) 5 w base ok v l) : Still w (fun W => Kd.R (Kd.int .u8) 5 W base ok v l) := fun W hb => Kd.R_below h hb
theorem R_as {w : World} {base : Nat} {ok : Nat → Prop} {A : Option Addr} {n c m : Nat} {F : List Int} (h : Kd.R (Kd.int .u8) 5 w base ok (.slice A n c) F) (hn : n = m) (hm : F.length = m) : m ≤ c ∧ Kd.C (Kd.int .u8) w A m F := by
 subst hn
 rw [← hm] at h ⊢
 exact (Kd.R_reads' h).2
theorem R_cut {w : World} {base : Nat} {ok : Nat → Prop} {A : Option Addr} {c : Nat} {F : List Int} (h : Kd.R (Kd.int .u8) 5 w base ok (.slice A F.length c) F) (m : Nat) (hm : m ≤ F.length) : (F.take m).length ≤ c ∧ Kd.C (Kd.int .u8) w A (F.take m).length (F.take m) := by
 have h2 := Kd.R_reads' (Kd.R_take h (m := m) hm)
 rw [show (F.take m).length = m by rw [List.length_take]; omega] at h2 ⊢
 exact h2.2
abbrev ImgV (en : Int) (A1 : Option Addr) (n1 c1 : Nat) (A2 : Option Addr) (n2 c2 : Nat) : Value := .agg #[.int .u64 en, .slice A1 n1 c1, .slice A2 n2 c2]
/-- The file that Write gives, or none. -/
def fileS (e : Int) (l1 : List Seg) (l2 : List Sym) : List Int := (writeS e l1 l2).1
theorem file_yes {e : Int} {l1 : List Seg} {l2 : List Sym} (h : checkS e l1 l2 = 0) : fileS e l1 l2 = fileB e l1 l2 := by unfold fileS writeS; rw [if_pos h]
theorem file_no {e : Int} {l1 : List Seg} {l2 : List Sym} (h : ¬ checkS e l1 l2 = 0) : fileS e l1 l2 = [] := by unfold fileS writeS; rw [if_neg h]
theorem write_snd (e : Int) (l1 : List Seg) (l2 : List Sym) : (writeS e l1 l2).2 = checkS e l1 l2 := by
 unfold writeS
 split
 ·rename_i h; exact h.symm
 ·rfl
section
variable {e : Int} {l1 : List Seg} {l2 : List Sym} {A1 A2 : Option Addr} {c1 c2 : Nat}
theorem check_law (H : Small l1 l2) (h0 : 0 ≤ e) (w : World) (hr1 : Kd.C k55 w A1 l1.length l1) (hc1 : l1.length ≤ c1) (hr2 : Kd.C k82 w A2 l2.length l2) (hc2 : l2.length ≤ c2) (hG : Glob w) :
 Calls Tryz.prog 18 #[ImgV e A1 l1.length c1 A2 l2.length c2] w fun en w' => en = .returned (.int .i64 (checkS e l1 l2)) ∧ Below w.heap.size w w' := by
 obtain ⟨k, hk⟩ := chkK e h0 l1 l2 H
 exact image_Check.calls k e A1 c1 l1 A2 c2 l2 _ w hr1 hc1 hr2 hc2 hG (hk k (Nat.le_refl _))
theorem write_law (H : Small l1 l2) (h0 : 0 ≤ e) (w : World) (hr1 : Kd.C k55 w A1 l1.length l1) (hc1 : l1.length ≤ c1) (hr2 : Kd.C k82 w A2 l2.length l2) (hc2 : l2.length ≤ c2) (hG : Glob w) :
 Calls Tryz.prog 20 #[ImgV e A1 l1.length c1 A2 l2.length c2] w fun en w' => ∃ A n, en = .returned (.tuple #[.slice A (fileS e l1 l2).length n, .int .i64 (checkS e l1 l2)]) ∧
  Kd.R (Kd.int .u8) 5 w' w.heap.size (fun _ => True) (.slice A (fileS e l1 l2).length n) (fileS e l1 l2) ∧ Below w.heap.size w w' := by
 obtain ⟨k, hk⟩ := write_is e h0 l1 l2 H
 refine (image_Write.calls k e A1 c1 l1 A2 c2 l2 (fileS e l1 l2) (checkS e l1 l2) w hr1 hc1 hr2 hc2 hG ((hk k (Nat.le_refl _)).trans (congrArg some (Prod.ext rfl (write_snd e l1 l2))))).mono ?_
 rintro en w' ⟨v, rfl, hR, hb⟩
 obtain ⟨A, n, rfl⟩ := Kd.R_slice hR
 exact ⟨A, n, rfl, hR, hb⟩
theorem twin_law (H : Small l1 l2) (w : World) (hr1 : Kd.C k55 w A1 l1.length l1) (hc1 : l1.length ≤ c1) (hr2 : Kd.C k82 w A2 l2.length l2) (hc2 : l2.length ≤ c2) :
 Calls Tryz.prog 19 #[ImgV e A1 l1.length c1 A2 l2.length c2] w fun en w' => ∃ B1 d1 B2 d2, en = .returned (ImgV e B1 l1.length d1 B2 l2.length d2) ∧
  (Kd.C k55 w' B1 l1.length l1 ∧ l1.length ≤ d1) ∧ (Kd.C k82 w' B2 l2.length l2 ∧ l2.length ≤ d2) ∧ Below w.heap.size w w' := by
 obtain ⟨k, hk⟩ := twin_is e l1 l2 H
 refine (anvillaw02_twin.calls k e A1 c1 l1 A2 c2 l2 e l1 l2 w hr1 hc1 hr2 hc2 (hk k (Nat.le_refl _))).mono ?_
 rintro en w' ⟨v1, v2, rfl, hS, hR, hb⟩
 have hR1 := Kd.S_R hS
 obtain ⟨B1, d1, rfl⟩ := Kd.R_slice hR1
 obtain ⟨B2, d2, rfl⟩ := Kd.R_slice hR
 obtain ⟨_, g1, g2⟩ := Kd.R_reads' hR1
 obtain ⟨_, g3, g4⟩ := Kd.R_reads' hR
 exact ⟨B1, d1, B2, d2, rfl, ⟨g2, g1⟩, ⟨g4, g3⟩, hb⟩
theorem alike_two {B1 B2 : Option Addr} {d1 d2 : Nat} (hs : l2.length ≤ 1048576) (w : World) (hr1 : Kd.C k55 w A1 l1.length l1 ∧ l1.length ≤ c1) (hr2 : Kd.C k82 w A2 l2.length l2 ∧ l2.length ≤ c2) (hr3 : Kd.C k55 w B1 l1.length l1 ∧ l1.length ≤ d1) (hr4 : Kd.C k82 w B2 l2.length l2 ∧ l2.length ≤ d2) :
 Calls Tryz.prog 16 #[ImgV e A1 l1.length c1 A2 l2.length c2, ImgV e B1 l1.length d1 B2 l2.length d2] w fun en w' => en = .returned (.bool true) ∧ Below w.heap.size w w' := by
 obtain ⟨k, hk⟩ := alike_is e l1 l2 hs
 exact anvillaw02_alike.calls k e A1 c1 l1 A2 c2 l2 e B1 d1 l1 B2 d2 l2 true w hr1.1 hr1.2 hr2.1 hr2.2 hr3.1 hr3.2 hr4.1 hr4.2 (hk k (Nat.le_refl _))
end
abbrev zeroV : Value := .agg #[.int .u64 0, .slice none 0 0, .slice none 0 0]
theorem C_none {α : Type} (d : Kd α) (w : World) : Kd.C d w none 0 ([] : List α) := (Kd.R_reads' (Kd.R_nil d 0 w 0 (fun _ => True))).2.2
theorem alike_zero (w : World) : Calls Tryz.prog 16 #[zeroV, zeroV] w fun en w' => en = .returned (.bool true) ∧ Below w.heap.size w w' :=
 alike_two (e := 0) (l1 := []) (l2 := []) (by decide) w ⟨C_none _ w, Nat.le_refl _⟩ ⟨C_none _ w, Nat.le_refl _⟩ ⟨C_none _ w, Nat.le_refl _⟩ ⟨C_none _ w, Nat.le_refl _⟩
/-- An image of the reader's own. -/
def OwnIm (w' : World) (B : Nat) (A1 : Option Addr) (c1 : Nat) (l1 : List Seg) (A2 : Option Addr) (c2 : Nat) (l2 : List Sym) : Prop :=
 Kd.R k55 55 w' B (fun k => B ≤ k) (.slice A1 l1.length c1) l1 ∧ Kd.R k82 82 w' B (fun k => B ≤ k) (.slice A2 l2.length c2) l2
theorem OwnIm.step {w w' : World} {B : Nat} {A1 A2 : Option Addr} {c1 c2 : Nat} {l1 : List Seg} {l2 : List Sym} (h : OwnIm w B A1 c1 l1 A2 c2 l2) (hb : Below w.heap.size w w') : OwnIm w' B A1 c1 l1 A2 c2 l2 := ⟨Kd.R_below h.1 hb, Kd.R_below h.2 hb⟩
theorem OwnIm.c1 {w : World} {B : Nat} {A1 A2 : Option Addr} {c1 c2 : Nat} {l1 : List Seg} {l2 : List Sym} (h : OwnIm w B A1 c1 l1 A2 c2 l2) : Kd.C k55 w A1 l1.length l1 ∧ l1.length ≤ c1 := ⟨(Kd.R_reads' h.1).2.2, (Kd.R_reads' h.1).2.1⟩
theorem OwnIm.c2 {w : World} {B : Nat} {A1 A2 : Option Addr} {c1 c2 : Nat} {l1 : List Seg} {l2 : List Sym} (h : OwnIm w B A1 c1 l1 A2 c2 l2) : Kd.C k82 w A2 l2.length l2 ∧ l2.length ≤ c2 := ⟨(Kd.R_reads' h.2).2.2, (Kd.R_reads' h.2).2.1⟩
theorem still_own {w : World} {B : Nat} {A1 A2 : Option Addr} {c1 c2 : Nat} {l1 : List Seg} {l2 : List Sym} (h : OwnIm w B A1 c1 l1 A2 c2 l2) : Still w (fun W => OwnIm W B A1 c1 l1 A2 c2 l2) := fun W hb => h.step hb
section
variable {l : List Int} {A : Option Addr} {c : Nat}
theorem read_yes (h : Bytes l) (hl : l.length ≤ 1099511627776) (hc : l.length ≤ c) {en : Int} {l1 : List Seg} {l2 : List Sym} (G : Good en l1 l2) (hr : readS l = .ok (en, l1, l2)) (w : World) (hC : Kd.C (Kd.int .u8) w A l.length l) (hG : Glob w) (hE : ErrT w) :
 Calls Tryz.prog 11 #[.slice A l.length c] w fun e w' => ∃ A1 c1 A2 c2, e = .returned (.tuple #[ImgV en A1 l1.length c1 A2 l2.length c2, .nilIface]) ∧ OwnIm w' w.heap.size A1 c1 l1 A2 c2 l2 ∧ Below w.heap.size w w' := by
 refine (read_c l A c h hl hc w hC hG hE).mono ?_
 rintro e w' (⟨en', segs, syms, v1, v2, ps, qs, ys, h1, h2, h3, h4, h5, h6, h7, h8, h9, h10⟩ | ⟨at_, why, a, h1, h2, h3, h4, h5⟩)
 ·rw [hr] at h1
  cases h1
  have p1 : (ps.map (·.1)).Perm l1 := h3 ▸ h4.map _
  have e1 := sorted_segs G p1 (List.pairwise_map.2 h5)
  have e2 := sorted_syms G h7 h8
  have R1 := Kd.R_mono (Kd.R_bound h6.R) (ok' := fun k => w.heap.size ≤ k) (fun k hk => hk.2.1)
  have R2 := Kd.R_mono (Kd.R_bound (R_of_ownY h9)) (ok' := fun k => w.heap.size ≤ k) (fun k hk => hk.2.1)
  rw [e1] at R1
  rw [e2] at R2
  obtain ⟨A1, c1, rfl⟩ := Kd.R_slice R1
  obtain ⟨A2, c2, rfl⟩ := Kd.R_slice R2
  exact ⟨A1, c1, A2, c2, h2, ⟨R1, R2⟩, h10⟩
 ·rw [hr] at h1
  cases h1
theorem read_no (h : Bytes l) (hl : l.length ≤ 1099511627776) (hc : l.length ≤ c) (hr : ∀ r, readS l ≠ .ok r) (w : World) (hC : Kd.C (Kd.int .u8) w A l.length l) (hG : Glob w) (hE : ErrT w) :
 Calls Tryz.prog 11 #[.slice A l.length c] w fun e w' => ∃ a, e = .returned (.tuple #[zeroV, .iface 75 (.pointer (some ⟨a, 0, none⟩))]) ∧ Below w.heap.size w w' := by
 refine (read_c l A c h hl hc w hC hG hE).mono ?_
 rintro e w' (⟨en', segs, syms, v1, v2, ps, qs, ys, h1, h2, h3, h4, h5, h6, h7, h8, h9, h10⟩ | ⟨at_, why, a, h1, h2, h3, h4, h5⟩)
 ·exact absurd h1 (hr _)
 ·exact ⟨a, h2, h5⟩
/-- Bytes that are read: an image that can be written, but for its length. -/
theorem read_some (h : Bytes l) (hl : l.length ≤ 1099511627776) (hc : l.length ≤ c) {r : Int × List Seg × List Sym} (hr : readS l = .ok r) (w : World) (hC : Kd.C (Kd.int .u8) w A l.length l) (hG : Glob w) (hE : ErrT w) :
 Calls Tryz.prog 11 #[.slice A l.length c] w fun e w' => ∃ en l1 l2 A1 c1 A2 c2, e = .returned (.tuple #[ImgV en A1 l1.length c1 A2 l2.length c2, .nilIface]) ∧ Good en l1 l2 ∧ (∀ s ∈ l1, s.f3.length ≤ l.length ∧ Bytes s.f3) ∧ (∀ s ∈ l2, s.f0.size ≤ l.length) ∧ OwnIm w' w.heap.size A1 c1 l1 A2 c2 l2 ∧ Below w.heap.size w w' := by
 refine (read_c l A c h hl hc w hC hG hE).mono ?_
 rintro e w' (⟨en', segs, syms, v1, v2, ps, qs, ys, h1, h2, h3, h4, h5, h6, h7, h8, h9, h10⟩ | ⟨at_, why, a, h1, h2, h3, h4, h5⟩)
 ·have p1 : (ps.map (·.1)).Perm segs := h3 ▸ h4.map _
  obtain ⟨G, hd, hn⟩ := read_good h h1 p1 (List.pairwise_map.2 h5) h7 h8
  have R1 := Kd.R_mono (Kd.R_bound h6.R) (ok' := fun k => w.heap.size ≤ k) (fun k hk => hk.2.1)
  have R2 := Kd.R_mono (Kd.R_bound (R_of_ownY h9)) (ok' := fun k => w.heap.size ≤ k) (fun k hk => hk.2.1)
  obtain ⟨A1, c1, rfl⟩ := Kd.R_slice R1
  obtain ⟨A2, c2, rfl⟩ := Kd.R_slice R2
  exact ⟨en', ps.map (·.1), ys, A1, c1, A2, c2, h2, G, hd, hn, ⟨R1, R2⟩, h10⟩
 ·rw [hr] at h1
  cases h1
end
theorem fileB_bytes {e : Int} {l1 : List Seg} {l2 : List Sym} (N : ∀ s ∈ l1, Bytes s.f3) : Bytes (fileB e l1 l2) := by
 have hle : ∀ (n : Nat) (v : Int), Bytes (le n v) := by
  intro n
  induction n with
  | zero => intro v x hx; cases hx
  | succ n ih =>
   intro v x hx
   rw [le, List.mem_cons] at hx
   rcases hx with rfl | hx
   ·omega
   ·exact ih _ x hx
 have hput : ∀ (n : Nat) (l : List Int), Bytes (putL n l) := by
  intro n l x hx
  unfold putL at hx
  obtain ⟨v, _, hv⟩ := List.mem_flatMap.1 hx
  exact hle n v x hv
 have happ : ∀ {a b : List Int}, Bytes a → Bytes b → Bytes (a ++ b) := by
  intro a b ha hb x hx
  rcases List.mem_append.1 hx with h | h
  ·exact ha x h
  ·exact hb x h
 have hzs : ∀ n, Bytes (zs n) := by
  intro n x hx
  have := List.eq_of_mem_replicate hx
  omega
 have hstr : ∀ s : ByteArray, Bytes (strL s) := by
  intro s x hx
  unfold strL at hx
  obtain ⟨u, _, rfl⟩ := List.mem_map.1 hx
  have := u.toNat_lt
  omega
 have hph : ∀ (ds : List Int) (l : List Seg), Bytes (phB ds l) := by
  intro ds
  induction ds with
  | nil => intro l x hx; simp [phB] at hx
  | cons d ds ih =>
   intro l
   cases l with
   | nil => intro x hx; simp [phB] at hx
   | cons s r => rw [phB]; exact happ (happ (hput _ _) (hput _ _)) (ih r)
 have hpad : ∀ {L : List Int}, Bytes L → Bytes (padB L) := fun h => happ h (hzs _)
 have hdata : ∀ (l : List Seg) (L : List Int), (∀ s ∈ l, Bytes s.f3) → Bytes L → Bytes (dataB L l) := by
  intro l
  induction l with
  | nil => intro L _ h; rw [dataB]; exact h
  | cons s r ih =>
   intro L hs h
   rw [dataB]
   split
   ·exact ih _ (fun q hq => hs q (List.mem_cons_of_mem _ hq)) (happ (hpad h) (hs s List.mem_cons_self))
   ·exact ih _ (fun q hq => hs q (List.mem_cons_of_mem _ hq)) h
 have hhead : ∀ a b c d f : Int, Bytes (headB a b c d f) := fun a b c d f => happ (happ (happ (happ (happ (hstr _) (hput _ _)) (hput _ _)) (hput _ _)) (hput _ _)) (hput _ _)
 have hbody : ∀ a b c d : Int, Bytes (bodyB a b c d l1) := fun a b c d => hdata l1 _ N (happ (hhead _ _ _ _ _) (hph _ _))
 have hsyms : ∀ (l : List Sym) (p : Int), Bytes (symsB p l) := by
  intro l
  induction l with
  | nil => intro p x hx; simp [symsB] at hx
  | cons s r ih => intro p; rw [symsB]; exact happ (happ (happ (happ (hput _ _) (hput _ _)) (hput _ _)) (hput _ _)) (ih _)
 have h0 : Bytes [0] := fun x hx => by rw [List.mem_singleton] at hx; omega
 have hnames : ∀ l : List Sym, Bytes (namesB l) := by
  intro l
  induction l with
  | nil => intro x hx; simp [namesB] at hx
  | cons s r ih => rw [namesB]; exact happ (happ (hstr _) h0) ih
 have hsec : ∀ a b c d f g h i : Int, Bytes (secB a b c d f g h i) := fun a b c d f g h i => happ (happ (happ (hput _ _) (hput _ _)) (hput _ _)) (hput _ _)
 unfold fileB
 split
 ·exact happ (happ (happ (happ (hpad (happ (happ (happ (happ (hpad (hbody _ _ _ _)) (hzs _)) (hsyms _ _)) (happ h0 (hnames _))) (hstr _))) (hzs _)) (hsec _ _ _ _ _ _ _ _)) (hsec _ _ _ _ _ _ _ _)) (hsec _ _ _ _ _ _ _ _)
 ·exact hbody _ _ _ _
def sl1 : List Seg := [⟨2147483648, 6, 5, [1, 2, 3, 4]⟩]
def sl2 : List Sym := [⟨⟨#[95, 115, 116, 97, 114, 116]⟩, 2147483648⟩]
theorem sl_check : checkS 2147483648 sl1 sl2 = 0 := by decide +kernel
theorem sl_nums : NumsL 2147483648 sl1 sl2 := ⟨by decide, fun s hs => by rw [List.mem_singleton.1 hs]; decide, fun s hs => by rw [List.mem_singleton.1 hs]; decide⟩
theorem small_lists {l1 : List Seg} {l2 : List Sym} (h1 : l1.length ≤ 1048576) (h2 : l2.length ≤ 1048576) (h3 : ∀ s ∈ l1, s.f3.length ≤ 1048576) (h4 : ∀ s ∈ l2, s.f0.size ≤ 1048576) : Small l1 l2 := by
 refine ⟨h1, h2, fun i => ?_, fun i => ?_⟩
 ·unfold rd_T55
  rw [List.getD_eq_getElem?_getD]
  cases h : l1[i.toNat]? with
  | none => exact Nat.zero_le _
  | some x => exact h3 x (List.mem_of_getElem? h)
 ·unfold rd_T82
  rw [List.getD_eq_getElem?_getD]
  cases h : l2[i.toNat]? with
  | none => exact Nat.zero_le _
  | some x => exact h4 x (List.mem_of_getElem? h)
theorem sl_small : Small sl1 sl2 := small_lists (by decide) (by decide) (fun s hs => by rw [List.mem_singleton.1 hs]; decide) (fun s hs => by rw [List.mem_singleton.1 hs]; decide)
theorem sl_good : Good 2147483648 sl1 sl2 := ((check_good sl_nums).1 sl_check).1
theorem sl_size : sizeS sl1 sl2 = 472 := by decide +kernel
theorem sl_file : ∃ F : List Int, F.length = 472 ∧ fileS 2147483648 sl1 sl2 = F ∧ Bytes F ∧ readS F = .ok (2147483648, sl1, sl2) := by
 refine ⟨_, ?_, file_yes sl_check, fileB_bytes (fun s hs => by rw [List.mem_singleton.1 hs]; intro x hx; revert x; decide), file_back sl_good (by rw [sl_size]; decide)⟩
 have := (file_shows (e := 2147483648) (l1 := sl1) (l2 := sl2) (by rw [sl_size]; decide)).1
 rw [sl_size] at this
 omega
theorem read_nil : ∀ r, readS [] ≠ .ok r := by
 intro r h
 unfold readS at h
 obtain ⟨_, h⟩ := ck_yes h
 obtain ⟨_, h, _⟩ := aT_yes h
 have := (head_gives h).1
 simp at this
theorem sample_law (w : World) : Calls Tryz.prog 21 #[] w fun en w' => ∃ B1 d1 B2 d2, en = .returned (ImgV 2147483648 B1 sl1.length d1 B2 sl2.length d2) ∧
 (Kd.C k55 w' B1 sl1.length sl1 ∧ sl1.length ≤ d1) ∧ (Kd.C k82 w' B2 sl2.length sl2 ∧ sl2.length ≤ d2) ∧ Below w.heap.size w w' := by
 refine (anvillaw02_sample.calls 2147483648 sl1 sl2 w rfl).mono ?_
 rintro en w' ⟨v1, v2, rfl, hN, hR, hb⟩
 obtain ⟨B1, d1, rfl⟩ := Kd.N_slice hN
 obtain ⟨B2, d2, rfl⟩ := Kd.R_slice hR
 obtain ⟨_, g1, g2⟩ := Kd.N_reads' hN
 obtain ⟨_, g3, g4⟩ := Kd.R_reads' hR
 exact ⟨B1, d1, B2, d2, rfl, ⟨g2, g1⟩, ⟨g4, g3⟩, hb⟩
end Go.Proofs.YtbnlifldnjgpmaaGreatDoor.PWri
/- 'first' comes true: the sample is written and read again, and no file is none. -/
set_option linter.unusedVariables false
set_option linter.unusedSimpArgs false
namespace Go.Proofs.YtbnlifldnjgpmaaGreatDoor.PWri
open Go.RowKit Go.Lib Go.Proofs.YtbnlifldnjgpmaaGreatDoorW.PrintWords Go.Proofs.YtbnlifldnjgpmaaGreatDoorW.PrintLast
set_option maxHeartbeats 16000000 in
set_option maxRecDepth 1000000 in
theorem first_c (w : World) (hG : Glob w) (hE : ErrT w) : Calls Tryz.prog 17 #[] w fun e w' => e = .returned (.bool true) ∧ Below w.heap.size w w' := by
 obtain ⟨F, hF1, hF2, hF3, hF4⟩ := sl_file
 have CW := Lib.hid (fun A1 c1 A2 c2 w hr1 hc1 hr2 hc2 hG => write_law (e := 2147483648) (l1 := sl1) (l2 := sl2) (A1 := A1) (A2 := A2) (c1 := c1) (c2 := c2) sl_small (by decide) w hr1 hc1 hr2 hc2 hG)
 have CR := Lib.hid (fun A c (hc : F.length ≤ c) w hC hG hE => read_yes (A := A) (c := c) hF3 (by omega) hc sl_good hF4 w hC hG hE)
 have CN := Lib.hid (fun w hG hE => read_no (l := []) (A := none) (c := 0) (fun x hx => by cases hx) (by decide) (Nat.le_refl _) read_nil w (C_none _ w) hG hE)
 rw [hF2, sl_check, hF1] at CW
 rw [hF1] at CR
 simp only [List.length_nil] at CN
 have HS := Lib.hid (still0 w hG hE)
 have HF1 := Lib.hid hF1
 clear hG hE hF1 hF2 hF3 hF4
 go_enter Tryz.func17, Tryz.ntmps17
 go_upto_region 2 with (first
  | (go_at_call 21; refine (sample_law _).mono ?_; rintro e w1 ⟨A1, c1, A2, c2, rfl, ha, hb, hd⟩; have hS2 := ((HS.out.step hd).and (still_C ha)).and (still_C hb); clear HS ha hb hd; have HS := Lib.hid hS2; clear hS2)
  | (go_at_call 20; refine (CW.out A1 c1 A2 c2 _ HS.out.now.1.2.1 HS.out.now.1.2.2 HS.out.now.2.1 HS.out.now.2.2 HS.out.now.1.1.glob).mono ?_; rintro e w2 ⟨A, n, rfl, hR, hd⟩; have hS2 := (HS.out.step hd).and (still_R hR); clear HS hR hd; have HS := Lib.hid hS2; clear hS2))
 have hS2 := HS.out.imp (fun W' h => And.intro h.1.1.1 h.2)
 clear HS
 have HS := Lib.hid hS2
 clear hS2 CW
 go_upto_region 5 with (first
  | (go_at_call 14; refine (anvillaw02_num.calls _ _ _ rfl).mono ?_; rintro e w' ⟨he, hdd⟩; subst he; have hd := hdd.below; clear hdd; have hS2 := HS.out.step hd; clear HS hd; have HS := Lib.hid hS2; clear hS2)
  | (go_at_call 11; refine (CR.out A n (R_as HS.out.now.2 rfl HF1.out).1 _ (R_as HS.out.now.2 rfl HF1.out).2 HS.out.now.1.glob HS.out.now.1.errT).mono ?_; rintro e w3 ⟨B1, d1, B2, d2, rfl, ho, hd⟩; have hS2 := (HS.out.step hd).and (still_own ho); clear HS ho hd; have HS := Lib.hid hS2; clear hS2))
 have hS2 := (HS.out.alloc (.cells #[.int .u64 2147483648, .slice B1 sl1.length d1, .slice B2 sl2.length d2] 28)).and (still_box w3 _)
 clear HS
 have HS := Lib.hid hS2
 clear hS2 CR
 obtain ⟨p3, hp3⟩ : ∃ p3, w3.heap.size = p3 := ⟨_, rfl⟩
 obtain ⟨W4, hW4⟩ : ∃ W4, w3.alloc (.cells #[.int .u64 2147483648, .slice B1 sl1.length d1, .slice B2 sl2.length d2] 28) = W4 := ⟨_, rfl⟩
 rw [hW4, hp3] at HS ⊢
 clear hW4 hp3
 go_upto_region 6 with (first
  | (go_at_call 11; refine (CN.out _ HS.out.now.1.1.1.glob HS.out.now.1.1.1.errT).mono ?_; rintro e w5 ⟨a, rfl, hd⟩; have hS2 := HS.out.step hd; clear HS hd; have HS := Lib.hid hS2; clear hS2))
 have hS2 := HS.out.alloc (.cells #[.int .u64 0, .slice none 0 0, .slice none 0 0] 28)
 clear HS
 have HS := Lib.hid hS2
 clear hS2 CN
 obtain ⟨W6, hW6⟩ : ∃ W6, w5.alloc (.cells #[.int .u64 0, .slice none 0 0, .slice none 0 0] 28) = W6 := ⟨_, rfl⟩
 rw [hW6] at HS ⊢
 clear hW6
 have hS2 := HS.out.drew
 clear HS
 have HS := Lib.hid hS2
 clear hS2
 have c0 := kCe HS.out.now.2 0
 have c1 := kCe HS.out.now.2 1
 have c2 := kCe HS.out.now.2 2
 go_region_held3 (fun w' => w'.cell? ⟨p3, 0, none⟩ = some (.int .u64 2147483648) ∧ w'.cell? ⟨p3, 1, none⟩ = some (.slice B1 sl1.length d1) ∧ w'.cell? ⟨p3, 2, none⟩ = some (.slice B2 sl2.length d2)) (first | exact ⟨c0, c1, c2⟩ | exact ⟨kCe HS.out.now.1.1.2 0, kCe HS.out.now.1.1.2 1, kCe HS.out.now.1.1.2 2⟩ | exact ⟨kCe HS.out.now.2 0, kCe HS.out.now.2 1, kCe HS.out.now.2 2⟩ | go_keep) (first
  | (go_at_call 21; refine (sample_law _).mono ?_; rintro e w1 ⟨D1, f1, D2, f2, rfl, ha, hb, hd⟩; have hS2 := ((HS.out.step hd).and (still_C ha)).and (still_C hb); clear HS ha hb hd; have HS := Lib.hid hS2; clear hS2)
  | (go_at_call 16; refine (alike_two (by decide) _ HS.out.now.1.1.1.2.c1 HS.out.now.1.1.1.2.c2 HS.out.now.1.2 HS.out.now.2).mono ?_; rintro e w' ⟨he, hd⟩; subst he; have hS2 := HS.out.step hd; clear HS hd; have HS := Lib.hid hS2; clear hS2))
 go_wp2
 go_ret
 exact ⟨rfl, HS.out.now.1.1.1.1.1.below⟩
end Go.Proofs.YtbnlifldnjgpmaaGreatDoor.PWri
