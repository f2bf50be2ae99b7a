-- BY PROGRAM of this session (wip/tools/home.sh): the parts of the print in which these stand: image_Write image_Check image_lay anvillaw02_twin anvillaw02_sample anvillaw02_num anvillaw02_alike anvillaw02_same anvillaw02_parts anvillaw02_names image_compareSyms image_up
import Derived.Test.YtbnlifldnjgpmaaGreatDoorBGr1
import Derived.Test.YtbnlifldnjgpmaaGreatDoorBWrix10
import Derived.Test.YtbnlifldnjgpmaaGreatDoorBWrix11
import Derived.Test.YtbnlifldnjgpmaaGreatDoorBGr2
import Derived.Test.YtbnlifldnjgpmaaGreatDoorBWrix2
import Derived.Test.YtbnlifldnjgpmaaGreatDoorBWrix9
import Derived.Test.YtbnlifldnjgpmaaGreatDoorBWrix3
import Derived.Laws.BitsLemmas
import Derived.Test.YtbnlifldnjgpmaaGreatDoorProg
import Derived.WalkKit
import Derived.WalkMore
import Derived.WalkLawsBesides
import Derived.Below
import Derived.Lib.Hide
import Derived.Deep.QuietTactic
import Derived.BigQuiet
import Derived.Deep.RegionHeld2
import Derived.Deep.RegionHeld3
import Derived.Ground.SlsfProg
import Derived.Shelf.SlSortCmp.WholeK
import Derived.Shelf.SlSortCmp.NoneTotal
import Derived.Sort.OwnSorted
import Derived.Deep.DeepCutAuto
import Derived.Deep.LoopGhost
import Derived.DeepKeys4
import Derived.Maps.Keyed
/- The file that image.Write writes, byte by byte, as one list: each write over zeros puts its bytes behind what stands there. Plain lists. -/
set_option linter.unusedVariables false
set_option linter.unusedSimpArgs false
namespace Go.Proofs.YtbnlifldnjgpmaaGreatDoor.PWri
open Go.RowKit Go.Lib Go.Proofs.YtbnlifldnjgpmaaGreatDoorW.PrintWords
theorem zs_length (n : Nat) : (zs n).length = n := by simp [zs]
theorem zs_add (a b : Nat) : zs (a + b) = zs a ++ zs b := by simp [zs, List.replicate_append_replicate]
/-- A write into zeros, k behind the end of what is done. -/
theorem putAt_zs (D b : List Int) (n k p : Nat) (hp : p = D.length + k) (h : k + b.length ≤ n) : putAt (D ++ zs n) p b = (D ++ zs k ++ b) ++ zs (n - k - b.length) := by
 subst hp
 have e : n = k + (b.length + (n - k - b.length)) := by omega
 have e2 : zs n = zs k ++ (zs b.length ++ zs (n - k - b.length)) := by rw [← zs_add, ← zs_add, ← e]
 unfold putAt
 rw [e2, ← List.append_assoc D]
 rw [List.take_append_of_le_length (by simp [zs_length]), List.take_of_length_le (by simp [zs_length])]
 rw [show D.length + k + b.length = (D ++ zs k).length + b.length by simp [zs_length], List.drop_append, List.drop_eq_nil_of_le (by simp)]
 simp [zs_length, List.append_assoc]
theorem putAt_end (D b : List Int) (n p : Nat) (hp : p = D.length) (h : b.length ≤ n) : putAt (D ++ zs n) p b = (D ++ b) ++ zs (n - b.length) := by
 have := putAt_zs D b n 0 p (by omega) (by omega)
 simpa [zs] using this
theorem zs_skip (D : List Int) (n k : Nat) (h : k ≤ n) : D ++ zs n = (D ++ zs k) ++ zs (n - k) := by
 rw [List.append_assoc, ← zs_add]
 congr 2
 omega
def upN (n : Nat) : Nat := (n + 7) / 8 * 8
theorem upN_le (n : Nat) : n ≤ upN n ∧ upN n ≤ n + 7 := by unfold upN; omega
def headB (a0 se n cnt third : Int) : List Int := strL elfB ++ putL 2 [2, 243] ++ putL 4 [1] ++ putL 8 [a0, 64, se] ++ putL 4 [1] ++ putL 2 [64, 56, n, 64, cnt, third]
theorem headB_length (a0 se n cnt third : Int) : (headB a0 se n cnt third).length = 64 := by simp only [headB, List.length_append, putL_length, strL_length]; rfl
def phB : List Int → List S55 → List Int
 | d :: ds, s :: r => putL 4 [1, IntKind.u64.wrap (turnV s.f2)] ++ putL 8 [d, s.f0, s.f0, (s.f3.length : Int), s.f1, 1] ++ phB ds r
 | _, _ => []
theorem phB_length : ∀ (ds : List Int) (l : List S55), ds.length = l.length → (phB ds l).length = 56 * l.length
 | [], [], _ => rfl
 | d :: ds, s :: r, h => by
  simp only [phB, List.length_append, putL_length, phB_length ds r (by simpa using h), List.length_cons, List.length_nil]
  omega
def padB (L : List Int) : List Int := L ++ zs (upN L.length - L.length)
theorem padB_length (L : List Int) : (padB L).length = upN L.length := by
 have := upN_le L.length
 simp [padB, zs_length]
 omega
def dataB : List Int → List S55 → List Int
 | L, [] => L
 | L, s :: r => if 0 < s.f3.length then dataB (padB L ++ s.f3) r else dataB L r
def placesN : Nat → List S55 → List Int
 | _, [] => []
 | n, s :: r => if 0 < s.f3.length then (upN n : Int) :: placesN (upN n + s.f3.length) r else 0 :: placesN n r
def endN : Nat → List S55 → Nat
 | n, [] => n
 | n, s :: r => if 0 < s.f3.length then endN (upN n + s.f3.length) r else endN n r
theorem placesN_length : ∀ (n : Nat) (l : List S55), (placesN n l).length = l.length
 | _, [] => rfl
 | n, s :: r => by
  rw [placesN]
  split <;> simp [placesN_length]
theorem endN_ge : ∀ (n : Nat) (l : List S55), n ≤ endN n l
 | _, [] => Nat.le_refl _
 | n, s :: r => by
  rw [endN]
  have := upN_le n
  split
  ·exact Nat.le_trans (by omega) (endN_ge _ r)
  ·exact endN_ge _ r
theorem dataB_length : ∀ (L : List Int) (l : List S55), (dataB L l).length = endN L.length l
 | _, [] => rfl
 | L, s :: r => by
  rw [dataB, endN]
  split
  ·rw [dataB_length, List.length_append, padB_length]
  ·exact dataB_length L r
theorem places_in : ∀ (l : List S55) (n j : Nat), j < l.length → 0 ≤ (placesN n l).getD j 0 ∧ (placesN n l).getD j 0 + ((l.getD j z55).f3.length : Int) ≤ endN n l
 | s :: r, n, 0, _ => by
  rw [placesN, endN]
  have := upN_le n
  split
  ·rename_i h
   have := endN_ge (upN n + s.f3.length) r
   simp
   omega
  ·rename_i h
   have := endN_ge n r
   simp
   omega
 | s :: r, n, j + 1, h => by
  rw [placesN, endN]
  split
  ·simpa using places_in r (upN n + s.f3.length) j (by simpa using h)
  ·simpa using places_in r n j (by simpa using h)
theorem places_lt : ∀ (l : List S55) (n j : Nat), j < l.length → 0 < n → (placesN n l).getD j 0 < endN n l
 | s :: r, n, 0, _, hn => by
  rw [placesN, endN]
  have := upN_le n
  split
  ·have := endN_ge (upN n + s.f3.length) r
   simp
   omega
  ·have := endN_ge n r
   simp
   omega
 | s :: r, n, j + 1, h, hn => by
  rw [placesN, endN]
  have := upN_le n
  split
  ·simpa using places_lt r (upN n + s.f3.length) j (by simpa using h) (by omega)
  ·simpa using places_lt r n j (by simpa using h) hn
def symsB : Int → List S82 → List Int
 | _, [] => []
 | pl, s :: r => putL 4 [pl] ++ putL 1 [16, 0] ++ putL 2 [65521] ++ putL 8 [s.f1, 0] ++ symsB (nextPl pl s) r
theorem symsB_length : ∀ (l : List S82) (pl : Int), (symsB pl l).length = 24 * l.length
 | [], _ => rfl
 | s :: r, pl => by
  simp only [symsB, List.length_append, putL_length, symsB_length r, List.length_cons, List.length_nil]
  omega
def namesB : List S82 → List Int
 | [] => []
 | s :: r => strL s.f0 ++ [0] ++ namesB r
theorem namesB_length : ∀ (l : List S82), (namesB l).length = total l
 | [] => rfl
 | s :: r => by
  simp only [namesB, List.length_append, strL_length, namesB_length r, List.length_cons, List.length_nil, total]
def secB (x0 x1 x2 x3 x4 x5 x6 x7 : Int) : List Int := putL 4 [x0, x1] ++ putL 8 [0, 0, x2, x3] ++ putL 4 [x4, x5] ++ putL 8 [x6, x7]
theorem secB_length (x0 x1 x2 x3 x4 x5 x6 x7 : Int) : (secB x0 x1 x2 x3 x4 x5 x6 x7).length = 64 := by simp only [secB, List.length_append, putL_length]; rfl
/-- The names' part behind D (which is a multiple of 8 long). -/
def tailB (D : List Int) (l : List S82) : List Int :=
 let tb : Int := D.length
 let D1 := D ++ zs 24 ++ symsB 1 l
 let tx : Int := D1.length
 let D2 := D1 ++ ([0] ++ namesB l)
 let ti : Int := D2.length
 padB (D2 ++ strL titlesB) ++ zs 64 ++ secB 1 2 tb (tx - tb) 2 1 8 24 ++ secB 9 3 tx (ti - tx) 0 0 1 0 ++ secB 17 3 ti 27 0 0 1 0
theorem headPut_is (a0 se n cnt third : Int) (sz : Nat) (h : 64 ≤ sz) : headPut (zs sz) a0 se n cnt third = headB a0 se n cnt third ++ zs (sz - 64) := by
 unfold headPut headB
 have l16 : (strL elfB).length = 16 := by rw [strL_length]; rfl
 have e0 := putAt_end [] (strL elfB) sz 0 rfl (by omega)
 rw [List.nil_append, List.nil_append, l16] at e0
 rw [e0]
 rw [putAt_end _ (putL 2 [2, 243]) _ 16 (by rw [l16]) (by rw [putL_length]; simp; omega)]
 rw [putAt_end _ (putL 4 [1]) _ 20 (by simp only [List.length_append, l16, putL_length]; rfl) (by simp only [putL_length, List.length_cons, List.length_nil]; omega)]
 rw [putAt_end _ (putL 8 [a0, 64, se]) _ 24 (by simp only [List.length_append, l16, putL_length]; rfl) (by simp only [putL_length, List.length_cons, List.length_nil]; omega)]
 rw [putAt_end _ (putL 4 [1]) _ 48 (by simp only [List.length_append, l16, putL_length]; rfl) (by simp only [putL_length, List.length_cons, List.length_nil]; omega)]
 rw [putAt_end _ (putL 2 [64, 56, n, 64, cnt, third]) _ 52 (by simp only [List.length_append, l16, putL_length]; rfl) (by simp only [putL_length, List.length_cons, List.length_nil]; omega)]
 congr 2
theorem phPut_is : ∀ (ds : List Int) (l : List S55) (D : List Int) (n : Nat), ds.length = l.length → 56 * l.length ≤ n → phPut (D ++ zs n) D.length ds l = (D ++ phB ds l) ++ zs (n - 56 * l.length)
 | [], [], D, n, _, _ => by simp [phPut, phB]
 | d :: ds, s :: r, D, n, h, hn => by
  simp only [List.length_cons] at hn h
  rw [phPut, phB]
  rw [putAt_end D (putL 4 [1, IntKind.u64.wrap (turnV s.f2)]) n D.length rfl (by simp only [putL_length, List.length_cons, List.length_nil]; omega)]
  rw [putAt_end _ (putL 8 [d, s.f0, s.f0, (s.f3.length : Int), s.f1, 1]) _ (D.length + 8) (by simp only [List.length_append, putL_length, List.length_cons, List.length_nil]) (by simp only [putL_length, List.length_cons, List.length_nil]; omega)]
  have hl : D.length + 56 = (D ++ putL 4 [1, IntKind.u64.wrap (turnV s.f2)] ++ putL 8 [d, s.f0, s.f0, (s.f3.length : Int), s.f1, 1]).length := by simp only [List.length_append, putL_length, List.length_cons, List.length_nil]
  rw [hl, phPut_is ds r _ _ (by omega) (by simp only [putL_length, List.length_cons, List.length_nil]; omega)]
  simp only [List.append_assoc, putL_length, List.length_cons, List.length_nil]
  congr 5
  omega
theorem dataPut_is : ∀ (l : List S55) (D : List Int) (n : Nat), endN D.length l ≤ D.length + n → dataPut (D ++ zs n) (placesN D.length l) l = dataB D l ++ zs (D.length + n - endN D.length l)
 | [], D, n, _ => by simp [placesN, dataPut, dataB, endN]
 | s :: r, D, n, h => by
  have hu := upN_le D.length
  rw [endN] at h ⊢
  rw [placesN, dataB]
  by_cases hs : 0 < s.f3.length
  ·rw [if_pos hs] at h ⊢
   rw [if_pos hs, if_pos hs, dataPut, Int.toNat_natCast]
   have hge := endN_ge (upN D.length + s.f3.length) r
   rw [putAt_zs D s.f3 n (upN D.length - D.length) (upN D.length) (by omega) (by omega)]
   have e : D ++ zs (upN D.length - D.length) ++ s.f3 = padB D ++ s.f3 := rfl
   rw [e]
   have hl : (padB D ++ s.f3).length = upN D.length + s.f3.length := by rw [List.length_append, padB_length]
   have ih := dataPut_is r (padB D ++ s.f3) (n - (upN D.length - D.length) - s.f3.length) (by rw [hl]; omega)
   rw [hl] at ih
   rw [ih]
   congr 2
   omega
  ·rw [if_neg hs] at h ⊢
   rw [if_neg hs, if_neg hs, dataPut]
   have e : s.f3 = [] := List.eq_nil_of_length_eq_zero (by omega)
   have e2 : ∀ L : List Int, putAt L (0 : Int).toNat s.f3 = L := fun L => by rw [e]; simp [putAt]
   rw [e2]
   exact dataPut_is r D n h
theorem symsPut_is : ∀ (l : List S82) (D : List Int) (n : Nat) (pl : Int), 24 * l.length ≤ n → symsPut (D ++ zs n) D.length pl l = (D ++ symsB pl l) ++ zs (n - 24 * l.length)
 | [], D, n, pl, _ => by simp [symsPut, symsB]
 | s :: r, D, n, pl, hn => by
  simp only [List.length_cons] at hn
  rw [symsPut, symsB]
  rw [putAt_end D (putL 4 [pl]) n D.length rfl (by simp only [putL_length, List.length_cons, List.length_nil]; omega)]
  rw [putAt_end _ (putL 1 [16, 0]) _ (D.length + 4) (by simp only [List.length_append, putL_length, List.length_cons, List.length_nil]) (by simp only [putL_length, List.length_cons, List.length_nil]; omega)]
  rw [putAt_end _ (putL 2 [65521]) _ (D.length + 6) (by simp only [List.length_append, putL_length, List.length_cons, List.length_nil]) (by simp only [putL_length, List.length_cons, List.length_nil]; omega)]
  rw [putAt_end _ (putL 8 [s.f1, 0]) _ (D.length + 8) (by simp only [List.length_append, putL_length, List.length_cons, List.length_nil]) (by simp only [putL_length, List.length_cons, List.length_nil]; omega)]
  have hl : D.length + 24 = (D ++ putL 4 [pl] ++ putL 1 [16, 0] ++ putL 2 [65521] ++ putL 8 [s.f1, 0]).length := by simp only [List.length_append, putL_length, List.length_cons, List.length_nil]
  rw [hl, symsPut_is r _ _ _ (by simp only [putL_length, List.length_cons, List.length_nil]; omega)]
  simp only [List.append_assoc, putL_length, List.length_cons, List.length_nil]
  congr 7
  omega
theorem namesPut_is : ∀ (l : List S82) (D : List Int) (n : Nat), total l ≤ n → namesPut (D ++ zs n) D.length l = (D ++ namesB l) ++ zs (n - total l)
 | [], D, n, _ => by simp [namesPut, namesB, total]
 | s :: r, D, n, hn => by
  rw [total] at hn ⊢
  rw [namesPut, namesB]
  rw [putAt_end D (strL s.f0) n D.length rfl (by rw [strL_length]; omega), strL_length]
  rw [zs_skip _ _ 1 (by omega)]
  have hl : D.length + s.f0.size + 1 = (D ++ strL s.f0 ++ zs 1).length := by simp only [List.length_append, strL_length, zs_length]
  rw [hl, namesPut_is r _ _ (by omega)]
  simp only [List.append_assoc]
  congr 4
  ·show zs (_ - _) = _
   congr 1
   omega
theorem secPut_is (D : List Int) (n p : Nat) (x0 x1 x2 x3 x4 x5 x6 x7 : Int) (hp : p = D.length) (hn : 64 ≤ n) : secPut (D ++ zs n) p x0 x1 x2 x3 x4 x5 x6 x7 = (D ++ secB x0 x1 x2 x3 x4 x5 x6 x7) ++ zs (n - 64) := by
 subst hp
 unfold secPut secB
 rw [putAt_end D (putL 4 [x0, x1]) n D.length rfl (by simp only [putL_length, List.length_cons, List.length_nil]; omega)]
 rw [putAt_end _ (putL 8 [0, 0, x2, x3]) _ (D.length + 8) (by simp only [List.length_append, putL_length, List.length_cons, List.length_nil]) (by simp only [putL_length, List.length_cons, List.length_nil]; omega)]
 rw [putAt_end _ (putL 4 [x4, x5]) _ (D.length + 40) (by simp only [List.length_append, putL_length, List.length_cons, List.length_nil]) (by simp only [putL_length, List.length_cons, List.length_nil]; omega)]
 rw [putAt_end _ (putL 8 [x6, x7]) _ (D.length + 48) (by simp only [List.length_append, putL_length, List.length_cons, List.length_nil]) (by simp only [putL_length, List.length_cons, List.length_nil]; omega)]
 simp only [List.append_assoc, putL_length, List.length_cons, List.length_nil]
 congr 6
theorem namesAll_is (D : List Int) (l : List S82) (n tb tx ti se : Nat) (htb : tb = D.length) (htx : tx = tb + 24 + 24 * l.length) (hti : ti = tx + 1 + total l) (hse : se = upN (ti + 27)) (hn : tb + n = se + 256) :
 namesAll (D ++ zs n) tb tx ti se l = tailB D l := by
 have hu := upN_le (ti + 27)
 unfold namesAll
 have e1 : symsPut (D ++ zs n) (tb + 24) 1 l = (D ++ zs 24 ++ symsB 1 l) ++ zs (n - 24 - 24 * l.length) := by
  rw [zs_skip D n 24 (by omega)]
  have := symsPut_is l (D ++ zs 24) (n - 24) 1 (by omega)
  rw [show (D ++ zs 24).length = tb + 24 by simp [zs_length, htb]] at this
  exact this
 rw [e1]
 obtain ⟨D1, hD1⟩ : ∃ D1, D ++ zs 24 ++ symsB 1 l = D1 := ⟨_, rfl⟩
 have l1 : D1.length = tx := by rw [← hD1]; simp [zs_length, symsB_length]; omega
 rw [hD1]
 have e2 : namesPut (D1 ++ zs (n - 24 - 24 * l.length)) (tx + 1) l = (D1 ++ ([0] ++ namesB l)) ++ zs (n - 24 - 24 * l.length - 1 - total l) := by
  rw [zs_skip D1 _ 1 (by omega)]
  have := namesPut_is l (D1 ++ zs 1) (n - 24 - 24 * l.length - 1) (by omega)
  rw [show (D1 ++ zs 1).length = tx + 1 by simp [zs_length, l1]] at this
  rw [this, List.append_assoc D1]
  rfl
 rw [e2]
 obtain ⟨D2, hD2⟩ : ∃ D2, D1 ++ ([0] ++ namesB l) = D2 := ⟨_, rfl⟩
 have l2 : D2.length = ti := by rw [← hD2]; simp [namesB_length]; omega
 rw [hD2]
 have lt : (strL titlesB).length = 27 := by rw [strL_length]; rfl
 rw [putAt_end D2 (strL titlesB) _ (tx + 1 + total l) (by omega) (by omega), lt]
 obtain ⟨m, hm⟩ : ∃ m, n - 24 - 24 * l.length - 1 - total l - 27 = m := ⟨_, rfl⟩
 rw [hm]
 have l3 : (D2 ++ strL titlesB).length = ti + 27 := by rw [List.length_append, l2, lt]
 have e3 : (D2 ++ strL titlesB) ++ zs m = (padB (D2 ++ strL titlesB) ++ zs 64) ++ zs 192 := by
  rw [padB, l3, zs_skip _ m (upN (ti + 27) - (ti + 27)) (by omega), zs_skip _ _ 64 (by omega)]
  congr 2
  omega
 rw [e3]
 have l4 : (padB (D2 ++ strL titlesB) ++ zs 64).length = se + 64 := by rw [List.length_append, padB_length, l3, zs_length, hse]
 obtain ⟨D3, hD3⟩ : ∃ D3, padB (D2 ++ strL titlesB) ++ zs 64 = D3 := ⟨_, rfl⟩
 rw [hD3] at l4 ⊢
 show secPut (secPut (secPut (D3 ++ zs 192) (se + 64) 1 2 tb (tx - tb) 2 1 8 24) (se + 64 + 64) 9 3 tx (ti - tx) 0 0 1 0) (se + 64 + 128) 17 3 ti 27 0 0 1 0 = _
 rw [secPut_is D3 192 (se + 64) _ _ _ _ _ _ _ _ l4.symm (by omega)]
 rw [secPut_is _ _ (se + 64 + 64) _ _ _ _ _ _ _ _ (by rw [List.length_append, secB_length, l4]) (by omega)]
 rw [secPut_is _ _ (se + 64 + 128) _ _ _ _ _ _ _ _ (by rw [List.length_append, List.length_append, secB_length, secB_length, l4]) (by omega)]
 unfold tailB
 simp only []
 rw [hD1, l1, hD2, l2, hD3, ← htb]
 simp [zs]
/-- The whole file. -/
def bodyB (a0 se cnt third : Int) (l1 : List S55) : List Int := dataB (headB a0 se l1.length cnt third ++ phB (placesN (64 + 56 * l1.length) l1) l1) l1
theorem bodyB_length (a0 se cnt third : Int) (l1 : List S55) : (bodyB a0 se cnt third l1).length = endN (64 + 56 * l1.length) l1 := by
 unfold bodyB
 rw [dataB_length, List.length_append, headB_length, phB_length _ _ (placesN_length _ _)]
theorem body_is (a0 se cnt third : Int) (l1 : List S55) (sz : Nat) (h : endN (64 + 56 * l1.length) l1 ≤ sz) :
 dataPut (phPut (headPut (zs sz) a0 se l1.length cnt third) 64 (placesN (64 + 56 * l1.length) l1) l1) (placesN (64 + 56 * l1.length) l1) l1 = bodyB a0 se cnt third l1 ++ zs (sz - endN (64 + 56 * l1.length) l1) := by
 have hge := endN_ge (64 + 56 * l1.length) l1
 rw [headPut_is _ _ _ _ _ sz (by omega)]
 have h1 := phPut_is (placesN (64 + 56 * l1.length) l1) l1 (headB a0 se l1.length cnt third) (sz - 64) (placesN_length _ _) (by omega)
 rw [headB_length] at h1
 rw [h1]
 have hl : (headB a0 se l1.length cnt third ++ phB (placesN (64 + 56 * l1.length) l1) l1).length = 64 + 56 * l1.length := by rw [List.length_append, headB_length, phB_length _ _ (placesN_length _ _)]
 have h2 := dataPut_is l1 (headB a0 se l1.length cnt third ++ phB (placesN (64 + 56 * l1.length) l1) l1) (sz - 64 - 56 * l1.length) (by rw [hl]; omega)
 rw [hl] at h2
 rw [h2]
 unfold bodyB
 congr 2
 omega
/-- The places of the names' part behind a body that ends at m. -/
def tbN (m : Nat) : Nat := upN m
def txN (m : Nat) (l : List S82) : Nat := upN m + 24 + 24 * l.length
def tiN (m : Nat) (l : List S82) : Nat := txN m l + 1 + total l
def seN (m : Nat) (l : List S82) : Nat := upN (tiN m l + 27)
/-- What both sides write. -/
def fileB (a0 : Int) (l1 : List S55) (l2 : List S82) : List Int :=
 if 0 < l2.length then tailB (padB (bodyB a0 (seN (endN (64 + 56 * l1.length) l1) l2) 4 3 l1)) l2 else bodyB a0 0 0 0 l1
theorem file_syms (a0 : Int) (l1 : List S55) (l2 : List S82) (h : 0 < l2.length) (m : Nat) (hm : endN (64 + 56 * l1.length) l1 = m) :
 fileL a0 l1 l2 (placesN (64 + 56 * l1.length) l1) (tbN m) (txN m l2) (tiN m l2) (seN m l2) (seN m l2 + 256) = fileB a0 l1 l2 := by
 have hu := upN_le m
 have hu2 := upN_le (tiN m l2 + 27)
 unfold fileL fileB
 rw [if_pos h, if_pos h, body_is _ _ _ _ _ _ (by rw [hm]; unfold seN tiN txN at *; omega), hm]
 obtain ⟨B, hB⟩ : ∃ B, bodyB a0 (seN m l2) 4 3 l1 = B := ⟨_, rfl⟩
 have lB : B.length = m := by rw [← hB, bodyB_length, hm]
 rw [hB]
 have e : B ++ zs (seN m l2 + 256 - m) = padB B ++ zs (seN m l2 + 256 - upN m) := by
  rw [padB, lB, zs_skip B _ (upN m - m) (by unfold seN tiN txN at *; omega)]
  congr 2
  unfold seN tiN txN at *
  omega
 rw [e]
 exact namesAll_is (padB B) l2 _ _ _ _ _ (by rw [padB_length, lB]; rfl) rfl rfl rfl (by unfold tbN seN tiN txN at *; omega)
theorem file_none (a0 : Int) (l1 : List S55) (l2 : List S82) (h : ¬ 0 < l2.length) (m : Nat) (hm : endN (64 + 56 * l1.length) l1 = m) (tb tx ti : Nat) :
 fileL a0 l1 l2 (placesN (64 + 56 * l1.length) l1) tb tx ti 0 m = fileB a0 l1 l2 := by
 unfold fileL fileB
 rw [if_neg h, if_neg h, body_is _ _ _ _ _ _ (by omega), hm]
 simp [zs]
end Go.Proofs.YtbnlifldnjgpmaaGreatDoor.PWri
/- image.Write on lists: where Check says yes the layout's places are those of the file, and the file is 'fileB'. -/
set_option linter.unusedVariables false
set_option linter.unusedSimpArgs false
namespace Go.Proofs.YtbnlifldnjgpmaaGreatDoor.PWri
open Go.RowKit Go.Lib Go.Proofs.YtbnlifldnjgpmaaGreatDoorW.PrintWords Go.Proofs.YtbnlifldnjgpmaaGreatDoorW.PrintLast
theorem upS_N (n : Nat) : upS (n : Int) = (upN n : Int) := by unfold upS upN; omega
theorem drop_sym {l : List Sym} {j : Nat} (h : j < l.length) : l.drop j = rd_T82 l (j : Int) :: l.drop (j + 1) := by
 unfold rd_T82
 rw [Int.toNat_natCast, List.getD_eq_getElem?_getD, List.getElem?_eq_getElem h]
 exact List.drop_eq_getElem_cons h
theorem drop_seg {l : List Seg} {j : Nat} (h : j < l.length) : l.drop j = rd_T55 l (j : Int) :: l.drop (j + 1) := by
 unfold rd_T55
 rw [Int.toNat_natCast, List.getD_eq_getElem?_getD, List.getElem?_eq_getElem h]
 exact List.drop_eq_getElem_cons h
theorem Ev.uniq {α : Type} {g : Nat → Option α} {a b : α} (h1 : Ev g a) (h2 : Ev g b) : a = b := by
 obtain ⟨K1, h1⟩ := h1
 obtain ⟨K2, h2⟩ := h2
 have e1 := h1 (max K1 K2) (Nat.le_max_left _ _)
 have e2 := h2 (max K1 K2) (Nat.le_max_right _ _)
 rw [e1] at e2
 exact Option.some.inj e2
set_option maxRecDepth 100000 in
theorem lay2_l1 (segs : List Seg) (syms : List Sym) (H : Small segs syms) (c : syms.length ≤ 400) (dl : List Int) (tb tx se sz : Int) : ∀ (d i n : Nat), i + d = syms.length → n ≤ 8589934592 + i * 2097152 →
 Ev (fun k => image_lay.l1 k syms (syms.length : Int) (i : Int) dl tb tx (n : Int) se sz) (dl, tb, tx, ((n + total (syms.drop i) : Nat) : Int), ((upN (n + total (syms.drop i) + 27) : Nat) : Int), ((upN (n + total (syms.drop i) + 27) + 256 : Nat) : Int)) := by
 intro d
 induction d with
 | zero =>
  intro i n hi hn
  refine Ev.step (f := fun _ => some _) (fun k => ?_) (Ev.now _)
  have hd : syms.drop i = [] := List.drop_eq_nil_of_le (by omega)
  rw [hd, image_lay.l1, if_neg (by omega), w64 (x := (n : Int) + 27) (by omega) (by omega), image_up_is (by omega) (by omega)]
  have hu := upN_le (n + 27)
  have e : upS ((n : Int) + 27) = (upN (n + 27) : Int) := upS_N (n + 27)
  simp only [Option.bind_some]
  rw [e, w64 (by omega) (by omega)]
  simp [total]
 | succ d ih0 =>
  intro i n hi hn
  have hs := H.name (i : Int)
  have hd := drop_sym (l := syms) (j := i) (by omega)
  have ih := ih0 (i + 1) (n + (rd_T82 syms i).f0.size + 1) (by omega) (by omega)
  have et : n + (rd_T82 syms i).f0.size + 1 + total (syms.drop (i + 1)) = n + total (syms.drop i) := by rw [hd, total]; omega
  rw [et] at ih
  refine Ev.step (fun k => ?_) ih
  rw [image_lay.l1, if_pos (by omega), if_pos (by omega), if_pos (by omega)]
  rw [w64 (x := ((rd_T82 syms i).f0.size : Int) + 1) (by omega) (by omega), w64 (x := (n : Int) + _) (by omega) (by omega), w64 (x := (i : Int) + 1) (by omega) (by omega)]
  congr 1
def layN (segs : List Seg) (syms : List Sym) (dl : List Int) (m : Nat) : List Int × Int × Int × Int × Int × Int :=
 if syms.length = 0 then (dl, 0, 0, 0, 0, (m : Int)) else (dl, (tbN m : Int), (txN m syms : Int), (tiN m syms : Int), (seN m syms : Int), ((seN m syms + 256 : Nat) : Int))
set_option maxRecDepth 100000 in
theorem lay2_l0 (e : Int) (segs : List Seg) (syms : List Sym) (H : Small segs syms) (c1 : segs.length ≤ 16) (c2 : syms.length ≤ 400) : ∀ (d i n : Nat) (dl : List Int), i + d = segs.length → dl.length = i → n ≤ 4294967296 + i * 2097152 →
 Ev (fun k => image_lay.l0 k (n : Int) segs (segs.length : Int) (i : Int) e segs syms dl 0 0 0 0 0) (layN segs syms (dl ++ placesN n (segs.drop i)) (endN n (segs.drop i))) := by
 intro d
 induction d with
 | zero =>
  intro i n dl hi hdl hn
  have hup := upN_le n
  have hd : segs.drop i = [] := List.drop_eq_nil_of_le (by omega)
  rw [hd, placesN, endN, List.append_nil]
  unfold layN
  by_cases hz : syms.length = 0
  ·rw [if_pos hz]
   refine Ev.step (f := fun _ => some (dl, 0, 0, 0, 0, (n : Int))) (fun k => ?_) (Ev.now _)
   rw [image_lay.l0, if_neg (by omega), if_neg (by omega)]
  ·rw [if_neg hz]
   have hq := lay2_l1 segs syms H c2 dl (upS n) (upS n + 24 * ((syms.length : Int) + 1)) 0 0 syms.length 0 (upN n + 24 + 24 * syms.length + 1) (by omega) (by omega)
   rw [List.drop_zero] at hq
   have e1 : upN n + 24 + 24 * syms.length + 1 + total syms = tiN n syms := rfl
   have e2 : upS (n : Int) = (tbN n : Int) := upS_N n
   have e3 : (tbN n : Int) + 24 * ((syms.length : Int) + 1) = (txN n syms : Int) := by unfold tbN txN; omega
   rw [e1, e2, e3] at hq
   refine Ev.step (f := fun k => image_lay.l1 k syms (syms.length : Int) 0 dl (tbN n) (txN n syms) ((upN n + 24 + 24 * syms.length + 1 : Nat) : Int) 0 0) (fun k => ?_) hq
   rw [image_lay.l0, if_neg (by omega), if_pos (by omega), image_up_is (by omega) (by omega)]
   simp only [Option.bind_some]
   rw [e2, w64 (x := (syms.length : Int) + 1) (by omega) (by omega), w64 (x := 24 * ((syms.length : Int) + 1)) (by omega) (by omega), w64 (x := (tbN n : Int) + _) (by unfold tbN; omega) (by unfold tbN; omega), e3, w64 (by unfold txN; omega) (by unfold txN; omega)]
   congr 1
 | succ d ih0 =>
  intro i n dl hi hdl hn
  have hs := H.data (i : Int)
  have hup := upN_le n
  have hd := drop_seg (l := segs) (j := i) (by omega)
  rw [hd, placesN, endN]
  by_cases hz : (rd_T55 segs i).f3.length = 0
  ·rw [if_neg (by omega), if_neg (by omega)]
   have ih := ih0 (i + 1) n (dl ++ [0]) (by omega) (by rw [List.length_append, hdl]; rfl) (Nat.le_trans hn (Nat.add_le_add_left (Nat.mul_le_mul_right _ (Nat.le_succ i)) _))
   rw [List.append_assoc] at ih
   refine Ev.step (fun k => ?_) ih
   rw [image_lay.l0, if_pos (by omega), if_pos (by omega), if_pos (by omega), if_pos (by omega), if_pos (by omega), w64 (by omega) (by omega)]
   rfl
  ·rw [if_pos (by omega), if_pos (by omega)]
   have ih := ih0 (i + 1) (upN n + (rd_T55 segs i).f3.length) (dl ++ [(upN n : Int)]) (by omega) (by rw [List.length_append, hdl]; rfl) (by omega)
   rw [List.append_assoc] at ih
   refine Ev.step (fun k => ?_) ih
   rw [image_lay.l0, if_pos (by omega), if_pos (by omega), if_pos (by omega), if_neg (by omega), image_up_is (by omega) (by omega)]
   simp only [Option.bind_some]
   rw [upS_N, if_pos (by omega), w64 (by omega) (by omega), w64 (by omega) (by omega)]
   rfl
theorem lay2 (e : Int) (segs : List Seg) (syms : List Sym) (H : Small segs syms) (c1 : segs.length ≤ 16) (c2 : syms.length ≤ 400) :
 Ev (fun k => image_lay.f k e segs syms) (layN segs syms (placesN (64 + 56 * segs.length) segs) (endN (64 + 56 * segs.length) segs)) := by
 have h := lay2_l0 e segs syms H c1 c2 segs.length 0 (64 + 56 * segs.length) [] (by omega) rfl (by omega)
 refine Ev.congr (fun k => ?_) h
 unfold image_lay.f
 rw [w64 (x := 56 * (segs.length : Int)) (by omega) (by omega), w64 (by omega) (by omega)]
 rfl
theorem partsK_ok (l : List Seg) : ∀ (d i : Nat), i + d = l.length → partsK l d i = none → ∀ j, i ≤ j → j < l.length → ¬ badS (rd_T55 l (j : Int))
 | 0, i, hi, _, j, h1, h2 => by omega
 | d + 1, i, hi, h, j, h1, h2 => by
  rw [partsK] at h
  by_cases hb : badS (rd_T55 l i)
  ·rw [if_pos hb] at h; cases h
  ·rw [if_neg hb] at h
   split at h
   ·cases h
   ·rcases Nat.eq_or_lt_of_le h1 with rfl | hlt
    ·exact hb
    ·exact partsK_ok l d (i + 1) (by omega) h j hlt h2
theorem symsK_ok (l : List Sym) : ∀ (d i : Nat), i + d = l.length → symsK l d i = none → ∀ j, i ≤ j → j < l.length → nameB (rd_T82 l (j : Int)).f0 = true
 | 0, i, hi, _, j, h1, h2 => by omega
 | d + 1, i, hi, h, j, h1, h2 => by
  rw [symsK] at h
  by_cases hb : nameB (rd_T82 l i).f0 = false
  ·rw [if_pos hb] at h; cases h
  ·rw [if_neg hb] at h
   split at h
   ·cases h
   ·rcases Nat.eq_or_lt_of_le h1 with rfl | hlt
    ·simpa using hb
    ·exact symsK_ok l d (i + 1) (by omega) h j hlt h2
theorem nameB_pos {s : ByteArray} (h : nameB s = true) : 0 < s.size := by
 unfold nameB at h
 simp only [Bool.and_eq_true, decide_eq_true_eq] at h
 exact h.2.2.1
theorem symsS_ne (l : List Sym) : ∀ d i, symsK l d i ≠ some 0
 | 0, i => by simp [symsK]
 | d + 1, i => by
  rw [symsK]
  split
  ·simp
  ·split
   ·simp
   ·exact symsS_ne l d (i + 1)
structure Yes (e : Int) (segs : List Seg) (syms : List Sym) : Prop where
 c1 : segs.length ≤ 16
 c2 : syms.length ≤ 400
 flags : ∀ j, j < segs.length → 0 ≤ (rd_T55 segs (j : Int)).f2 ∧ (rd_T55 segs (j : Int)).f2 ≤ 7
 name : ∀ s ∈ syms, nameB s.f0 = true
 size : sizeS segs syms ≤ 200000
theorem yes_of (e : Int) (segs : List Seg) (syms : List Sym) (h : checkS e segs syms = 0) : Yes e segs syms := by
 unfold checkS at h
 split at h
 ·split at h
  ·cases h
  ·split at h
   ·cases h
   ·rename_i h0 h1 h2
    cases hp : partsK segs segs.length 0 with
    | some z => rw [hp] at h; exact absurd (hp.trans (by rw [show z = 0 from h])) (partsS_ne segs _ _)
    | none =>
     rw [hp] at h
     have h : restS segs syms = 0 := h
     unfold restS at h
     cases hq : symsK syms syms.length 0 with
     | some z => rw [hq] at h; exact absurd (hq.trans (by rw [show z = 0 from h])) (symsS_ne syms _ _)
     | none =>
      rw [hq] at h
      have h : (if sizeS segs syms > 200000 then (3 : Int) else 0) = 0 := h
      refine ⟨by omega, by omega, fun j hj => ?_, fun s hs => ?_, ?_⟩
      ·have := partsK_ok segs segs.length 0 (by omega) hp j (by omega) hj
       unfold badS at this
       omega
      ·obtain ⟨j, hj, rfl⟩ := List.getElem_of_mem hs
       have := symsK_ok syms syms.length 0 (by omega) hq j (by omega) hj
       unfold rd_T82 at this
       rw [Int.toNat_natCast, List.getD_eq_getElem?_getD, List.getElem?_eq_getElem hj] at this
       exact this
      ·split at h
       ·cases h
       ·omega
 ·cases h
theorem size_N {e : Int} {segs : List Seg} {syms : List Sym} (H : Small segs syms) (c1 : segs.length ≤ 16) (c2 : syms.length ≤ 400) :
 (layN segs syms (placesN (64 + 56 * segs.length) segs) (endN (64 + 56 * segs.length) segs)).2.2.2.2.2 = sizeS segs syms := by
 obtain ⟨q, h, hq⟩ := lay_is e segs syms H c1 c2
 rw [← hq, Ev.uniq h (lay2 e segs syms H c1 c2)]
theorem layOk {e : Int} {segs : List Seg} {syms : List Sym} (H : Small segs syms) (Y : Yes e segs syms) (hs : 0 < syms.length) (m : Nat) (hm : endN (64 + 56 * segs.length) segs = m) :
 LayOk segs syms (placesN (64 + 56 * segs.length) segs) (tbN m) (txN m syms) (tiN m syms) (seN m syms) (seN m syms + 256) := by
 have hz := size_N (e := e) H Y.c1 Y.c2
 have hz2 := Y.size
 rw [hm] at hz
 unfold layN at hz
 rw [if_neg (by omega)] at hz
 simp only [] at hz
 have hu := upN_le m
 have hu2 := upN_le (tiN m syms + 27)
 have hge := endN_ge (64 + 56 * segs.length) segs
 have a1 : txN m syms = upN m + 24 + 24 * syms.length := rfl
 have a2 : tiN m syms = txN m syms + 1 + total syms := rfl
 have a3 : seN m syms = upN (tiN m syms + 27) := rfl
 have a4 : tbN m = upN m := rfl
 refine ⟨placesN_length _ _, fun j hj => ?_, by omega, by omega, by omega, fun _ => ⟨by omega, by omega, by omega, by omega, by omega, fun s hs => nameB_pos (Y.name s hs)⟩⟩
 have hp := places_in segs (64 + 56 * segs.length) j hj
 rw [hm] at hp
 unfold rd rd_T55
 rw [Int.toNat_natCast]
 omega
theorem layOk0 {e : Int} {segs : List Seg} {syms : List Sym} (H : Small segs syms) (Y : Yes e segs syms) (hs : syms.length = 0) (m : Nat) (hm : endN (64 + 56 * segs.length) segs = m) :
 LayOk segs syms (placesN (64 + 56 * segs.length) segs) 0 0 0 0 m := by
 have hz := size_N (e := e) H Y.c1 Y.c2
 have hz2 := Y.size
 rw [hm] at hz
 unfold layN at hz
 rw [if_pos hs] at hz
 simp only [] at hz
 have hge := endN_ge (64 + 56 * segs.length) segs
 refine ⟨placesN_length _ _, fun j hj => ?_, by omega, by omega, by omega, fun h => by omega⟩
 have hp := places_in segs (64 + 56 * segs.length) j hj
 have hl := places_lt segs (64 + 56 * segs.length) j hj (by omega)
 rw [hm] at hp hl
 unfold rd rd_T55
 rw [Int.toNat_natCast]
 omega
def writeS (e : Int) (segs : List Seg) (syms : List Sym) : List Int × Int := if checkS e segs syms = 0 then (fileB e segs syms, 0) else ([], checkS e segs syms)
theorem write_is (e : Int) (h0 : 0 ≤ e) (segs : List Seg) (syms : List Sym) (H : Small segs syms) : Ev (fun k => image_Write.f k e segs syms) (writeS e segs syms) := by
 unfold image_Write.f writeS
 refine Ev.bind (f := fun k x => if x = 0 then ((image_lay.f k e segs syms).bind fun y => if 0 ≤ y.2.1 ∧ 0 ≤ y.2.2.1 ∧ 0 ≤ y.2.2.2.1 ∧ 0 ≤ y.2.2.2.2.1 ∧ 0 ≤ y.2.2.2.2.2 ∧ LayOk segs syms y.1 y.2.1.toNat y.2.2.1.toNat y.2.2.2.1.toNat y.2.2.2.2.1.toNat y.2.2.2.2.2.toNat then some (fileL e segs syms y.1 y.2.1.toNat y.2.2.1.toNat y.2.2.2.1.toNat y.2.2.2.2.1.toNat y.2.2.2.2.2.toNat, (0 : Int)) else none) else some ([], x)) (chkK e h0 segs syms H) ?_
 by_cases hc : checkS e segs syms = 0
 ·rw [if_pos hc]
  have Y := yes_of e segs syms hc
  refine Ev.congr (f := fun k => ((image_lay.f k e segs syms).bind fun y => if 0 ≤ y.2.1 ∧ 0 ≤ y.2.2.1 ∧ 0 ≤ y.2.2.2.1 ∧ 0 ≤ y.2.2.2.2.1 ∧ 0 ≤ y.2.2.2.2.2 ∧ LayOk segs syms y.1 y.2.1.toNat y.2.2.1.toNat y.2.2.2.1.toNat y.2.2.2.2.1.toNat y.2.2.2.2.2.toNat then some (fileL e segs syms y.1 y.2.1.toNat y.2.2.1.toNat y.2.2.2.1.toNat y.2.2.2.2.1.toNat y.2.2.2.2.2.toNat, (0 : Int)) else none)) (fun k => by rw [if_pos hc]) ?_
  refine Ev.bind (f := fun k y => if 0 ≤ y.2.1 ∧ 0 ≤ y.2.2.1 ∧ 0 ≤ y.2.2.2.1 ∧ 0 ≤ y.2.2.2.2.1 ∧ 0 ≤ y.2.2.2.2.2 ∧ LayOk segs syms y.1 y.2.1.toNat y.2.2.1.toNat y.2.2.2.1.toNat y.2.2.2.2.1.toNat y.2.2.2.2.2.toNat then some (fileL e segs syms y.1 y.2.1.toNat y.2.2.1.toNat y.2.2.2.1.toNat y.2.2.2.2.1.toNat y.2.2.2.2.2.toNat, (0 : Int)) else none) (lay2 e segs syms H Y.c1 Y.c2) ?_
  obtain ⟨m, hm⟩ : ∃ m, endN (64 + 56 * segs.length) segs = m := ⟨_, rfl⟩
  rw [hm]
  unfold layN
  by_cases hs : syms.length = 0
  ·rw [if_pos hs]
   simp only [Int.toNat_natCast, Int.toNat_zero]
   rw [if_pos ⟨by omega, by omega, by omega, by omega, by omega, layOk0 H Y hs m hm⟩, file_none e segs syms (by omega) m hm]
   exact Ev.now _
  ·rw [if_neg hs]
   simp only [Int.toNat_natCast]
   rw [if_pos ⟨by omega, by omega, by omega, by omega, by omega, layOk H Y (by omega) m hm⟩, file_syms e segs syms (by omega) m hm]
   exact Ev.now _
 ·rw [if_neg hc]
  exact Ev.congr (fun k => by rw [if_neg hc]) (Ev.now _)
end Go.Proofs.YtbnlifldnjgpmaaGreatDoor.PWri
-- BY PROGRAM of this session (wip/tools/home.sh): the parts of the print in which these stand: image_file_number image_file_half anvilref02_value
/- The numbers in a file's bytes: the lowest byte first; what the program's and the document's readers of a number answer. -/
set_option linter.unusedVariables false
set_option linter.unusedSimpArgs false
namespace Go.Proofs.YtbnlifldnjgpmaaGreatDoor.PWri
open Go.RowKit Go.Lib Go.Proofs.YtbnlifldnjgpmaaGreatDoorW.PrintWords Go.Proofs.YtbnlifldnjgpmaaGreatDoorW.PrintLast
def Bytes (l : List Int) : Prop := ∀ x ∈ l, 0 ≤ x ∧ x < 256
/-- The number of n bytes from place a on. -/
def valN (l : List Int) (a : Nat) : Nat → Int
 | 0 => 0
 | n + 1 => valN l a n + l.getD (a + n) 0 * 256 ^ n
theorem byte_at {l : List Int} (h : Bytes l) (i : Nat) : 0 ≤ l.getD i 0 ∧ l.getD i 0 < 256 := by
 rw [List.getD_eq_getElem?_getD]
 cases e : l[i]? with
 | none => exact ⟨by decide, by decide⟩
 | some x => exact h x (List.mem_of_getElem? e)
theorem valN_lt {l : List Int} (h : Bytes l) (a : Nat) : ∀ n : Nat, 0 ≤ valN l a n ∧ valN l a n < 256 ^ n
 | 0 => by simp [valN]
 | n + 1 => by
  have ih := valN_lt h a n
  have hb := byte_at h (a + n)
  rw [valN, Int.pow_succ]
  generalize (256 : Int) ^ n = p at ih ⊢
  generalize l.getD (a + n) 0 = x at hb ⊢
  have hx : x * p ≤ 255 * p := Int.mul_le_mul_of_nonneg_right (by omega) (by omega)
  have hx0 : 0 ≤ x * p := Int.mul_nonneg (by omega) (by omega)
  omega
theorem pow_le8 (n : Nat) (hn : n ≤ 8) : (256 : Int) ^ n ≤ 256 ^ 8 := by
 obtain rfl | rfl | rfl | rfl | rfl | rfl | rfl | rfl | rfl : n = 0 ∨ n = 1 ∨ n = 2 ∨ n = 3 ∨ n = 4 ∨ n = 5 ∨ n = 6 ∨ n = 7 ∨ n = 8 := by omega
 all_goals decide
theorem w64n {x : Int} (h1 : -9223372036854775808 ≤ x) (h2 : x ≤ 9223372036854775807) : wrap64 x = x := by unfold wrap64; omega
theorem u64n {x : Int} (h0 : 0 ≤ x) (h1 : x ≤ 18446744073709551615) : IntKind.u64.wrap x = x := by
 have h : x % 2 ^ 64 = x := by omega
 simp [IntKind.wrap, IntKind.signed, IntKind.bits]
 omega
theorem or_step (v x : Int) (hv0 : 0 ≤ v) (hv : v < 72057594037927936) (hx : 0 ≤ x ∧ x < 256) : Go.bits .or .u64 (IntKind.u64.wrap (v * 256)) (IntKind.u64.wrap x) = v * 256 + x := by
 rw [u64n (x := v * 256) (by omega) (by omega), u64n (x := x) (by omega) (by omega)]
 exact bits_join .u64 64 (by decide) (fun n h0 h1 => u64n h0 (by omega)) 8 (v * 256) x (by omega) (by omega) (by omega) (by omega) (by omega) (by omega)
theorem rd_getD (l : List Int) (i : Nat) : rd l (i : Int) = l.getD i 0 := by unfold rd; rw [Int.toNat_natCast]
theorem number_l0 (l : List Int) (h : Bytes l) (hl : l.length ≤ 1099511627776) (a : Nat) : ∀ (m : Nat) (v : Int), a + m ≤ l.length → 0 ≤ v → v * 256 ^ m < 18446744073709551616 → (v + 1) * 256 ^ m ≤ 18446744073709551616 →
 Ev (fun k => image_file_number.l0 k (a : Int) v ((m : Int) - 1) l) (v * 256 ^ m + valN l a m)
 | 0, v, ha, h0, h1, h2 => by
  refine Ev.step (f := fun _ => some v) (fun k => ?_) ?_
  ·rw [image_file_number.l0, if_neg (by omega)]
  ·simp only [valN, Int.pow_zero, Int.mul_one, Int.add_zero]
   exact Ev.now _
 | m + 1, v, ha, h0, h1, h2 => by
  have hb := byte_at h (a + m)
  have hp : (1 : Int) ≤ 256 ^ m := by
   have : (0 : Int) < 256 ^ m := Int.pow_pos (by decide)
   omega
  rw [Int.pow_succ] at h1 h2
  obtain ⟨p, hpe⟩ : ∃ p : Int, 256 ^ m = p := ⟨_, rfl⟩
  rw [hpe] at hp h1 h2
  have hv : v < 72057594037927936 := by
   have h3 : (v + 1) * 256 ≤ (v + 1) * (p * 256) := Int.mul_le_mul_of_nonneg_left (by omega) (by omega)
   omega
  have q1 : (v * 256 + l.getD (a + m) 0 + 1) * p ≤ (v * 256 + 256) * p := Int.mul_le_mul_of_nonneg_right (by omega) (by omega)
  have q2 : (v * 256 + 256) * p = (v + 1) * (p * 256) := by rw [show v * 256 + 256 = (v + 1) * 256 by omega, Int.mul_assoc, Int.mul_comm 256 p]
  have q3 : (v * 256 + l.getD (a + m) 0) * p < (v * 256 + l.getD (a + m) 0 + 1) * p := Int.mul_lt_mul_of_pos_right (by omega) (by omega)
  have ih := number_l0 l h hl a m (v * 256 + l.getD (a + m) 0) (by omega) (by omega) (by rw [hpe]; omega) (by rw [hpe]; omega)
  have e : (v * 256 + l.getD (a + m) 0) * 256 ^ m + valN l a m = v * 256 ^ (m + 1) + valN l a (m + 1) := by
   rw [valN, Int.pow_succ, hpe, Int.add_mul, Int.mul_comm p 256, ← Int.mul_assoc]
   omega
  rw [e] at ih
  refine Ev.step (fun k => ?_) ih
  rw [image_file_number.l0, if_pos (by omega), show (((m + 1 : Nat) : Int) - 1) = (m : Int) by omega, w64n (x := (a : Int) + (m : Int)) (by omega) (by omega), if_pos (by omega), if_pos (by omega), w64n (x := (m : Int) - 1) (by omega) (by omega)]
  rw [show (a : Int) + (m : Int) = ((a + m : Nat) : Int) by omega, rd_getD, or_step v _ h0 hv hb]
theorem number_ev (l : List Int) (h : Bytes l) (hl : l.length ≤ 1099511627776) (a n : Nat) (hn : n ≤ 8) (ha : a + n ≤ l.length) : Ev (fun k => image_file_number.f k l (a : Int) (n : Int)) (valN l a n) := by
 have hp : (256 : Int) ^ n ≤ 256 ^ 8 := pow_le8 n hn
 have h2 := number_l0 l h hl a n 0 ha (by omega) (by rw [Int.zero_mul]; decide) (by rw [Int.zero_add, Int.one_mul]; exact Int.le_trans hp (by decide))
 rw [Int.zero_mul, Int.zero_add] at h2
 refine Ev.congr (fun k => ?_) h2
 unfold image_file_number.f
 rw [w64n (by omega) (by omega)]
theorem value_l0 (l : List Int) (h : Bytes l) (hl : l.length ≤ 1099511627776) (a : Nat) : ∀ (m : Nat) (v : Int), a + m ≤ l.length → 0 ≤ v → v * 256 ^ m < 18446744073709551616 → (v + 1) * 256 ^ m ≤ 18446744073709551616 →
 Ev (fun k => anvilref02_value.l0 k l (a : Int) v ((m : Int) - 1)) (v * 256 ^ m + valN l a m)
 | 0, v, ha, h0, h1, h2 => by
  refine Ev.step (f := fun _ => some v) (fun k => ?_) ?_
  ·rw [anvilref02_value.l0, if_neg (by omega)]
  ·simp only [valN, Int.pow_zero, Int.mul_one, Int.add_zero]
   exact Ev.now _
 | m + 1, v, ha, h0, h1, h2 => by
  have hb := byte_at h (a + m)
  have hp : (1 : Int) ≤ 256 ^ m := by
   have : (0 : Int) < 256 ^ m := Int.pow_pos (by decide)
   omega
  rw [Int.pow_succ] at h1 h2
  obtain ⟨p, hpe⟩ : ∃ p : Int, 256 ^ m = p := ⟨_, rfl⟩
  rw [hpe] at hp h1 h2
  have hv : v < 72057594037927936 := by
   have h3 : (v + 1) * 256 ≤ (v + 1) * (p * 256) := Int.mul_le_mul_of_nonneg_left (by omega) (by omega)
   omega
  have q1 : (v * 256 + l.getD (a + m) 0 + 1) * p ≤ (v * 256 + 256) * p := Int.mul_le_mul_of_nonneg_right (by omega) (by omega)
  have q2 : (v * 256 + 256) * p = (v + 1) * (p * 256) := by rw [show v * 256 + 256 = (v + 1) * 256 by omega, Int.mul_assoc, Int.mul_comm 256 p]
  have q3 : (v * 256 + l.getD (a + m) 0) * p < (v * 256 + l.getD (a + m) 0 + 1) * p := Int.mul_lt_mul_of_pos_right (by omega) (by omega)
  have ih := value_l0 l h hl a m (v * 256 + l.getD (a + m) 0) (by omega) (by omega) (by rw [hpe]; omega) (by rw [hpe]; omega)
  have e : (v * 256 + l.getD (a + m) 0) * 256 ^ m + valN l a m = v * 256 ^ (m + 1) + valN l a (m + 1) := by
   rw [valN, Int.pow_succ, hpe, Int.add_mul, Int.mul_comm p 256, ← Int.mul_assoc]
   omega
  rw [e] at ih
  refine Ev.step (fun k => ?_) ih
  rw [anvilref02_value.l0, if_pos (by omega), show (((m + 1 : Nat) : Int) - 1) = (m : Int) by omega, w64n (x := (a : Int) + (m : Int)) (by omega) (by omega), if_pos (by omega), if_pos (by omega), w64n (x := (m : Int) - 1) (by omega) (by omega)]
  rw [show (a : Int) + (m : Int) = ((a + m : Nat) : Int) by omega, rd_getD, u64n (x := v * 256) (by omega) (by omega), u64n (x := l.getD (a + m) 0) (by omega) (by omega), u64n (by omega) (by omega)]
theorem value_ev (l : List Int) (h : Bytes l) (hl : l.length ≤ 1099511627776) (a n : Nat) (hn : n ≤ 8) (ha : a + n ≤ l.length) : Ev (fun k => anvilref02_value.f k l (a : Int) (n : Int)) (valN l a n) := by
 have hp : (256 : Int) ^ n ≤ 256 ^ 8 := pow_le8 n hn
 have h2 := value_l0 l h hl a n 0 ha (by omega) (by rw [Int.zero_mul]; decide) (by rw [Int.zero_add, Int.one_mul]; exact Int.le_trans hp (by decide))
 rw [Int.zero_mul, Int.zero_add] at h2
 refine Ev.congr (fun k => ?_) h2
 unfold anvilref02_value.f
 rw [w64n (by omega) (by omega)]
end Go.Proofs.YtbnlifldnjgpmaaGreatDoor.PWri
/- The file's readers of numbers (half, word, double) and of room, by what they answer. -/
set_option linter.unusedVariables false
set_option linter.unusedSimpArgs false
namespace Go.Proofs.YtbnlifldnjgpmaaGreatDoor.PWri
open Go.RowKit Go.Lib Go.Proofs.YtbnlifldnjgpmaaGreatDoorW.PrintWords Go.Proofs.YtbnlifldnjgpmaaGreatDoorW.PrintLast
section
variable {l : List Int} {A : Option Addr} {c : Nat}
theorem val2 (h : Bytes l) (a : Nat) : 0 ≤ valN l a 2 ∧ valN l a 2 < 65536 := valN_lt h a 2
theorem val4 (h : Bytes l) (a : Nat) : 0 ≤ valN l a 4 ∧ valN l a 4 < 4294967296 := valN_lt h a 4
theorem val8 (h : Bytes l) (a : Nat) : 0 ≤ valN l a 8 ∧ valN l a 8 < 18446744073709551616 := valN_lt h a 8
theorem half_c (h : Bytes l) (hl : l.length ≤ 1099511627776) (hc : l.length ≤ c) (a : Nat) (ha : a + 2 ≤ l.length) (W : World) (hC : Kd.C (Kd.int .u8) W A l.length l) :
 Calls Tryz.prog 52 #[.agg #[.slice A l.length c], .int .i64 (a : Int)] W fun e w' => e = .returned (.int .i64 (valN l a 2)) ∧ Below W.heap.size W w' := by
 have hv := val2 h a
 have he : Ev (fun k => image_file_half.f k l (a : Int)) (valN l a 2) := by
  unfold image_file_half.f
  refine Ev.bind (number_ev l h hl a 2 (by omega) ha) ?_
  rw [w64n (by omega) (by omega)]
  exact Ev.now _
 obtain ⟨k, hk⟩ := he.rounds
 exact image_file_half.calls k A c l (a : Int) _ W hC hc hk
theorem word_c (h : Bytes l) (hl : l.length ≤ 1099511627776) (hc : l.length ≤ c) (a : Nat) (ha : a + 4 ≤ l.length) (W : World) (hC : Kd.C (Kd.int .u8) W A l.length l) :
 Calls Tryz.prog 53 #[.agg #[.slice A l.length c], .int .i64 (a : Int)] W fun e w' => e = .returned (.int .i64 (valN l a 4)) ∧ Below W.heap.size W w' := by
 have hv := val4 h a
 have he : Ev (fun k => image_file_word.f k l (a : Int)) (valN l a 4) := by
  unfold image_file_word.f
  refine Ev.bind (number_ev l h hl a 4 (by omega) ha) ?_
  rw [w64n (by omega) (by omega)]
  exact Ev.now _
 obtain ⟨k, hk⟩ := he.rounds
 exact image_file_word.calls k A c l (a : Int) _ W hC hc hk
theorem double_c (h : Bytes l) (hl : l.length ≤ 1099511627776) (hc : l.length ≤ c) (a : Nat) (ha : a + 8 ≤ l.length) (W : World) (hC : Kd.C (Kd.int .u8) W A l.length l) :
 Calls Tryz.prog 27 #[.agg #[.slice A l.length c], .int .i64 (a : Int)] W fun e w' => e = .returned (.int .u64 (valN l a 8)) ∧ Below W.heap.size W w' := by
 have he : Ev (fun k => image_file_double.f k l (a : Int)) (valN l a 8) := by
  unfold image_file_double.f
  refine Ev.bind (number_ev l h hl a 8 (by omega) ha) ?_
  exact Ev.now _
 obtain ⟨k, hk⟩ := he.rounds
 exact image_file_double.calls k A c l (a : Int) _ W hC hc hk
/-- Do n bytes stand at a place? -/
def roomS (l : List Int) (a n : Int) : Bool := decide (a ≤ (l.length : Int)) && decide (n ≤ (l.length : Int) - a)
theorem room_c (hl : l.length ≤ 1099511627776) (hc : l.length ≤ c) (a n : Int) (h0 : 0 ≤ a) (W : World) (hC : Kd.C (Kd.int .u8) W A l.length l) :
 Calls Tryz.prog 54 #[.agg #[.slice A l.length c], .int .u64 a, .int .u64 n] W fun e w' => e = .returned (.bool (roomS l a n)) ∧ Below W.heap.size W w' := by
 refine image_file_room.calls A c l a n _ W hC hc ?_
 unfold image_file_room.f roomS
 rw [u64n (x := (l.length : Int)) (by omega) (by omega)]
 by_cases h : a ≤ (l.length : Int)
 ·rw [if_pos h, u64n (by omega) (by omega)]
  simp [h]
 ·rw [if_neg h]
  simp [h]
end
end Go.Proofs.YtbnlifldnjgpmaaGreatDoor.PWri
/- image.fail and image.must: where something does not hold the reading is given up by a panic with a new *api.Fault. -/
set_option linter.unusedVariables false
set_option linter.unusedSimpArgs false
namespace Go.Proofs.YtbnlifldnjgpmaaGreatDoor
open Go.RowKit Go.Lib
/-- The panic that gives a reading up: with a pointer to the Fault at block a. -/
def gone (a : Nat) : PanicEntry := { v := .iface 75 (.pointer (some ⟨a, 0, none⟩)), recovered := false }
def faultObj (at_ why : Int) : Obj := .cells #[.int .i64 0, .int .i64 at_, .int .i64 why] 35
theorem fail_c (at_ why : Int) (w : World) :
 Calls Tryz.prog 51 #[.int .i64 at_, .int .i64 why] w fun e w' => e = .panicked [gone w.heap.size] ∧ w' = w.alloc (faultObj at_ why) := by
 have hc : Tryz.prog.concrete 75 = true := by kernel_rfl
 go_enter Tryz.func51, Tryz.ntmps51
 go_wp2
 exact ⟨rfl, rfl, rfl⟩
theorem must_ok (at_ why : Int) (w : World) :
 Calls Tryz.prog 25 #[.bool true, .int .i64 at_, .int .i64 why] w fun e w' => e = .returned (.tuple #[]) ∧ w' = w := by
 go_enter Tryz.func25, Tryz.ntmps25
 go_wp2
 go_end0
 exact ⟨rfl, rfl⟩
theorem must_no (at_ why : Int) (w : World) :
 Calls Tryz.prog 25 #[.bool false, .int .i64 at_, .int .i64 why] w fun e w' => e = .panicked [gone w.heap.size] ∧ w' = w.alloc (faultObj at_ why) := by
 go_enter Tryz.func25, Tryz.ntmps25
 go_wp2_with (go_at_call 51; refine (fail_c _ _ _).mono ?_; rintro e w' ⟨rfl, rfl⟩)
 exact ⟨rfl, rfl, rfl⟩
/-- Both ways: what is told behind it is told under the way. -/
theorem must_c (b : Bool) (at_ why : Int) (w : World) :
 Calls Tryz.prog 25 #[.bool b, .int .i64 at_, .int .i64 why] w fun e w' => (b = true ∧ e = .returned (.tuple #[]) ∧ w' = w) ∨ (b = false ∧ e = .panicked [gone w.heap.size] ∧ w' = w.alloc (faultObj at_ why)) := by
 cases b
 ·exact (must_no at_ why w).mono fun e w' h => .inr ⟨rfl, h.1, h.2⟩
 ·exact (must_ok at_ why w).mono fun e w' h => .inl ⟨rfl, h.1, h.2⟩
end Go.Proofs.YtbnlifldnjgpmaaGreatDoor
/- The file's readers of numbers at a place that is an Int, with the bounds of what they answer; the box of a receiver. -/
set_option linter.unusedVariables false
set_option linter.unusedSimpArgs false
namespace Go.Proofs.YtbnlifldnjgpmaaGreatDoor.PWri
open Go.RowKit Go.Lib Go.Proofs.YtbnlifldnjgpmaaGreatDoorW.PrintWords Go.Proofs.YtbnlifldnjgpmaaGreatDoorW.PrintLast
def rdN (l : List Int) (a : Int) (n : Nat) : Int := valN l a.toNat n
theorem rdN_nat (l : List Int) (a n : Nat) : rdN l (a : Int) n = valN l a n := by unfold rdN; rw [Int.toNat_natCast]
/-- The world of a walk: what was there is as it was, and the receiver's box stands. -/
structure FS (w : World) (F : Value) (W : World) : Prop where
 below : Below w.heap.size w W
 box : W.heap[w.heap.size]? = some (.cells #[F] 59)
theorem FS.step {w W W' : World} {F : Value} (h : FS w F W) (hd : Below W.heap.size W W') : FS w F W' := ⟨h.below.trans (hd.mono h.below.size), kBe h.box hd⟩
theorem FS.cell {w W : World} {F : Value} (h : FS w F W) : W.cell? ⟨w.heap.size, 0, none⟩ = some F := by
 rw [World.cell?]
 dsimp only
 rw [h.box]
 rfl
theorem FS.start (w : World) (F : Value) : FS w F (w.alloc (.cells #[F] 59)) := ⟨(Below.refl _ w).alloc (Nat.le_refl _) _, blk_new _ _⟩
theorem FS.alloc {w W : World} {F : Value} (h : FS w F W) (o : Obj) : FS w F (W.alloc o) := h.step ((Below.refl _ W).alloc (Nat.le_refl _) _)
theorem FS.drewN {w W : World} {F : Value} (h : FS w F W) (n : Nat) : FS w F (W.drewN n) := h.step (bDn (Below.refl _ _) n)
theorem FS.drew {w W : World} {F : Value} (h : FS w F W) : FS w F W.drew := h.step (below_drew (Below.refl _ _))
section
variable {l : List Int} {A : Option Addr} {c : Nat}
theorem rd2 (h : Bytes l) (a : Int) : 0 ≤ rdN l a 2 ∧ rdN l a 2 < 65536 := val2 h _
theorem rd4 (h : Bytes l) (a : Int) : 0 ≤ rdN l a 4 ∧ rdN l a 4 < 4294967296 := val4 h _
theorem rd8 (h : Bytes l) (a : Int) : 0 ≤ rdN l a 8 ∧ rdN l a 8 < 18446744073709551616 := val8 h _
theorem half_i (h : Bytes l) (hl : l.length ≤ 1099511627776) (hc : l.length ≤ c) (a : Int) (h0 : 0 ≤ a) (ha : a + 2 ≤ (l.length : Int)) (W : World) (hC : Kd.C (Kd.int .u8) W A l.length l) :
 Calls Tryz.prog 52 #[.agg #[.slice A l.length c], .int .i64 a] W fun e w' => e = .returned (.int .i64 (rdN l a 2)) ∧ (0 ≤ rdN l a 2 ∧ rdN l a 2 < 65536) ∧ Below W.heap.size W w' := by
 obtain ⟨a, rfl⟩ := Int.eq_ofNat_of_zero_le h0
 rw [rdN_nat]
 exact (half_c h hl hc a (by omega) W hC).mono fun e w' ⟨he, hd⟩ => ⟨he, val2 h a, hd⟩
theorem word_i (h : Bytes l) (hl : l.length ≤ 1099511627776) (hc : l.length ≤ c) (a : Int) (h0 : 0 ≤ a) (ha : a + 4 ≤ (l.length : Int)) (W : World) (hC : Kd.C (Kd.int .u8) W A l.length l) :
 Calls Tryz.prog 53 #[.agg #[.slice A l.length c], .int .i64 a] W fun e w' => e = .returned (.int .i64 (rdN l a 4)) ∧ (0 ≤ rdN l a 4 ∧ rdN l a 4 < 4294967296) ∧ Below W.heap.size W w' := by
 obtain ⟨a, rfl⟩ := Int.eq_ofNat_of_zero_le h0
 rw [rdN_nat]
 exact (word_c h hl hc a (by omega) W hC).mono fun e w' ⟨he, hd⟩ => ⟨he, val4 h a, hd⟩
theorem double_i (h : Bytes l) (hl : l.length ≤ 1099511627776) (hc : l.length ≤ c) (a : Int) (h0 : 0 ≤ a) (ha : a + 8 ≤ (l.length : Int)) (W : World) (hC : Kd.C (Kd.int .u8) W A l.length l) :
 Calls Tryz.prog 27 #[.agg #[.slice A l.length c], .int .i64 a] W fun e w' => e = .returned (.int .u64 (rdN l a 8)) ∧ (0 ≤ rdN l a 8 ∧ True) ∧ Below W.heap.size W w' := by
 obtain ⟨a, rfl⟩ := Int.eq_ofNat_of_zero_le h0
 rw [rdN_nat]
 exact (double_c h hl hc a (by omega) W hC).mono fun e w' ⟨he, hd⟩ => ⟨he, ⟨(val8 h a).1, trivial⟩, hd⟩
theorem sec_i (h : Bytes l) (hl : l.length ≤ 1099511627776) (hc : l.length ≤ c) (i : Int) (h0 : 0 ≤ i) (hi : i ≤ 4294967296) (h48 : 48 ≤ l.length) (hb : rdN l 40 8 ≤ (l.length : Int)) (W : World) (hC : Kd.C (Kd.int .u8) W A l.length l) :
 Calls Tryz.prog 59 #[.agg #[.slice A l.length c], .int .i64 i] W fun e w' => e = .returned (.int .i64 (rdN l 40 8 + 64 * i)) ∧ (0 ≤ rdN l 40 8 + 64 * i ∧ True) ∧ Below W.heap.size W w' := by
 have hv := rd8 h 40
 have e40 : rdN l 40 8 = valN l 40 8 := rdN_nat l 40 8
 have he : Ev (fun k => image_file_section.f k l i) (rdN l 40 8 + 64 * i) := by
  unfold image_file_section.f
  refine Ev.bind (g := fun k => image_file_double.f k l 40) (show Ev (fun k => image_file_double.f k l 40) (valN l 40 8) from by
   unfold image_file_double.f
   exact Ev.bind (number_ev l h hl 40 8 (by omega) (by omega)) (Ev.now _)) ?_
  rw [← e40, w64n (x := rdN l 40 8) (by omega) (by omega), w64n (x := 64 * i) (by omega) (by omega), w64n (by omega) (by omega)]
  exact Ev.now _
 obtain ⟨k, hk⟩ := he.rounds
 exact (image_file_section.calls k A c l i _ W hC hc hk).mono fun e w' ⟨he, hd⟩ => ⟨he, ⟨by omega, trivial⟩, hd⟩
end
end Go.Proofs.YtbnlifldnjgpmaaGreatDoor.PWri
/- What a reading of a file answers, in plain terms: the first check that does not hold, or what is read. -/
set_option linter.unusedVariables false
set_option linter.unusedSimpArgs false
namespace Go.Proofs.YtbnlifldnjgpmaaGreatDoor.PWri
open Go.RowKit Go.Lib Go.Proofs.YtbnlifldnjgpmaaGreatDoorW.PrintWords Go.Proofs.YtbnlifldnjgpmaaGreatDoorW.PrintLast
abbrev Res (α : Type) : Type := Except (Int × Int) α
def chk {α : Type} (b : Bool) (a w : Int) (k : Res α) : Res α := if b = true then k else .error (a, w)
theorem chk_ok {α : Type} {b : Bool} {a w : Int} {k : Res α} (h : b = true) : chk b a w k = k := by rw [chk, if_pos h]
theorem chk_no {α : Type} {b : Bool} {a w : Int} {k : Res α} (h : b = false) : chk b a w k = .error (a, w) := by rw [chk, if_neg (by simp [h])]
def andThen {α β : Type} (x : Res α) (f : α → Res β) : Res β := match x with | .ok a => f a | .error e => .error e
theorem andThen_chk {α β : Type} (b : Bool) (a w : Int) (k : Res α) (f : α → Res β) : andThen (chk b a w k) f = chk b a w (andThen k f) := by cases b <;> rfl
theorem chk_and {α : Type} (b c : Bool) (a w : Int) (k : Res α) : chk (b && c) a w k = chk b a w (chk c a w k) := by cases b <;> rfl
theorem andThen_ok {α β : Type} (a : α) (f : α → Res β) : andThen (.ok a) f = f a := rfl
/-- How a function ends that gives up where a check fails: what it returns is told of its answer. -/
def Out {α : Type} (r : Res α) (ok : α → Value → World → Prop) (w : World) (e : Ending) (w' : World) : Prop :=
 (∃ a v, r = .ok a ∧ e = .returned v ∧ ok a v w' ∧ Below w.heap.size w w') ∨ (∃ at_ why a, r = .error (at_, why) ∧ e = .panicked [gone a] ∧ w'.heap[a]? = some (faultObj at_ why) ∧ w.heap.size ≤ a ∧ Below w.heap.size w w')
theorem Out.no {α : Type} {r : Res α} {ok : α → Value → World → Prop} {w W : World} {at_ why : Int} (h : r = .error (at_, why)) (hb : Below w.heap.size w W) : Out r ok w (.panicked [gone W.heap.size]) (W.alloc (faultObj at_ why)) :=
 .inr ⟨at_, why, W.heap.size, h, rfl, blk_new W _, hb.size, hb.alloc hb.size _⟩
theorem Out.yes {α : Type} {r : Res α} {ok : α → Value → World → Prop} {w W : World} {a : α} {v : Value} (h : r = .ok a) (ho : ok a v W) (hb : Below w.heap.size w W) : Out r ok w (.returned v) W :=
 .inl ⟨a, v, h, rfl, ho, hb⟩
def magicL : List Int := [127, 69, 76, 70, 2, 1, 1]
def magicS (l : List Int) : Nat → List Int → Res Unit → Res Unit
 | i, c :: r, k => chk (decide ((i : Int) < (l.length : Int))) (l.length : Int) 20 <| chk (l.getD i 0 == c) (i : Int) 21 <| magicS l (i + 1) r k
 | _, [], k => k
theorem magic_drop (j : Nat) (h : j < 7) : magicL.drop j = magicL.getD j 0 :: magicL.drop (j + 1) := by
 match j, h with
 | 0, _ => rfl
 | 1, _ => rfl
 | 2, _ => rfl
 | 3, _ => rfl
 | 4, _ => rfl
 | 5, _ => rfl
 | 6, _ => rfl
def headR3 (l : List Int) : Res Unit := chk (decide (rdN l 56 2 ≤ 16)) 56 2 <| chk (roomS l (rdN l 32 8) (56 * rdN l 56 2)) 32 20 <| .ok ()
def headR2 (l : List Int) : Res Unit := chk (rdN l 56 2 == 0 || rdN l 54 2 == 56) 54 22 (headR3 l)
def headR1 (l : List Int) : Res Unit :=
 chk (decide (64 ≤ (l.length : Int))) (l.length : Int) 20 <| chk (rdN l 16 2 == 2) 16 21 <| chk (rdN l 18 2 == 243) 18 21 <| chk (rdN l 20 4 == 1) 20 21 <| chk (rdN l 24 8 % 2 == 0) 24 22 <| chk (decide (rdN l 48 4 ≤ 1)) 48 22 <| chk (rdN l 52 2 == 64) 52 22 <| headR2 l
def headS (l : List Int) : Res Unit := magicS l 0 magicL (headR1 l)
theorem magicS_ok (l : List Int) : ∀ (m : List Int) (i : Nat) (k : Res Unit), magicS l i m k = .ok () → k = .ok ()
 | [], i, k, h => h
 | c :: m, i, k, h => by
  rw [magicS] at h
  unfold chk at h
  split at h
  ·split at h
   ·exact magicS_ok l m _ k h
   ·cases h
  ·cases h
/-- What a head that holds gives to the parts. -/
theorem head_gives {l : List Int} (h : headS l = .ok ()) : 64 ≤ l.length ∧ rdN l 56 2 ≤ 16 ∧ roomS l (rdN l 32 8) (56 * rdN l 56 2) = true ∧ rdN l 24 8 % 2 = 0 := by
 have h1 := magicS_ok l _ _ _ h
 unfold headR1 headR2 headR3 chk at h1
 split at h1
 ·rename_i e1
  split at h1
  ·split at h1
   ·split at h1
    ·split at h1
     ·rename_i e5
      split at h1
      ·split at h1
       ·split at h1
        ·split at h1
         ·rename_i e9
          split at h1
          ·rename_i e10
           refine ⟨?_, by simpa using e9, e10, by simpa using e5⟩
           have := of_decide_eq_true e1
           omega
          all_goals cases h1
         all_goals cases h1
        all_goals cases h1
       all_goals cases h1
      all_goals cases h1
     all_goals cases h1
    all_goals cases h1
   all_goals cases h1
  all_goals cases h1
 all_goals cases h1
theorem room_le {l : List Int} {a n : Int} (h : roomS l a n = true) : a ≤ (l.length : Int) ∧ a + n ≤ (l.length : Int) := by
 unfold roomS at h
 simp only [Bool.and_eq_true, decide_eq_true_eq] at h
 omega
def sumU (a b : Int) : Int := IntKind.u64.wrap (a + IntKind.u64.wrap (b - 1))
/-- Does a part end at an address? -/
def fitsB (addr size : Int) : Bool := decide (addr ≤ sumU addr size)
/-- Has a part no address in common with another? -/
def apartB (s : S55) (addr size : Int) : Bool := decide (sumU s.f0 s.f1 < addr) || decide (sumU addr size < s.f0)
def turnS (f : Int) : Int := Go.bits .or .i64 (Go.bits .or .i64 (wrap64 ((Go.bits .and .i64 f 1) * 4)) (Go.bits .and .i64 f 2)) (Go.bits .and .i64 (f / 4) 1)
/-- The checks of a part whose header stands at h, and what it gives. -/
def segS (l : List Int) (h : Int) (out : List S55) : Res (List S55) :=
 chk (decide (rdN l (h + 4) 4 ≤ 7)) (h + 4) 23 <| chk (decide (rdN l (h + 32) 8 ≤ rdN l (h + 40) 8)) (h + 32) 23 <|
  chk (roomS l (rdN l (h + 8) 8) (rdN l (h + 32) 8)) (h + 8) 20 <| chk (fitsB (rdN l (h + 24) 8) (rdN l (h + 40) 8)) (h + 24) 23 <|
  chk (out.all fun s => apartB s (rdN l (h + 24) 8) (rdN l (h + 40) 8)) (h + 24) 24 <|
  .ok (out ++ [⟨rdN l (h + 24) 8, rdN l (h + 40) 8, turnS (rdN l (h + 4) 4), (l.drop (rdN l (h + 8) 8).toNat).take (rdN l (h + 32) 8).toNat⟩])
def partS (l : List Int) (h : Int) (out : List S55) : Res (List S55) :=
 if rdN l h 4 ≠ 1 ∨ (rdN l (h + 32) 8 = 0 ∧ rdN l (h + 40) 8 = 0) then .ok out else segS l h out
/-- From header i on, m headers. -/
def partsS (l : List Int) (h0 : Int) : Nat → Int → List S55 → Res (List S55)
 | 0, _, out => .ok out
 | m + 1, i, out => andThen (partS l (h0 + 56 * i) out) (partsS l h0 m (i + 1))
def secS (l : List Int) (i : Int) : Int := rdN l 40 8 + 64 * i
/-- The first section of kind 2, from section i on, m sections. -/
def findS (l : List Int) : Nat → Int → Option Int
 | 0, _ => none
 | m + 1, i => if rdN l (rdN l 40 8 + 64 * i + 4) 4 = 2 then some (rdN l 40 8 + 64 * i) else findS l m (i + 1)
def tableS (l : List Int) : Res (Option Int) :=
 if rdN l 60 2 = 0 ∨ rdN l 40 8 = 0 then .ok none
 else chk (rdN l 58 2 == 64) 58 22 <| chk (roomS l (rdN l 40 8) (64 * rdN l 60 2)) 40 20 <| .ok (findS l (rdN l 60 2).toNat 0)
/-- The bytes up to a byte 0. -/
def upto0 : List Int → Option (List Int)
 | [] => none
 | c :: r => if c = 0 then some [] else (upto0 r).map (c :: ·)
def symEq (a b : S82) : Bool := a.f0.toList == b.f0.toList && a.f1 == b.f1
/-- Is an entry of the table passed over? -/
def skipB (l : List Int) (y : Int) (nm : ByteArray) (out : List S82) : Bool :=
 !nameB nm || (rdN l (y + 4) 1 % 16 == 3 || (rdN l (y + 4) 1 % 16 == 4 || (rdN l (y + 6) 2 == 0 || out.any fun s => symEq s ⟨nm, rdN l (y + 8) 8⟩)))
def symS (l texts : List Int) (y : Int) (out : List S82) : Res (List S82) :=
 chk (decide (rdN l y 4 < (texts.length : Int))) y 25 <|
 match upto0 (texts.drop (rdN l y 4).toNat) with
 | none => .error (y, 25)
 | some nm =>
  if skipB l y (strOfNums nm) out = true then .ok out
  else chk (decide ((out.length : Int) < 400)) y 2 <| .ok (out ++ [⟨strOfNums nm, rdN l (y + 8) 8⟩])
def symsS (l texts : List Int) (first : Int) : Nat → Int → List S82 → Res (List S82)
 | 0, _, out => .ok out
 | m + 1, i, out => andThen (symS l texts (first + 24 * i) out) (symsS l texts first m (i + 1))
def namesS (l : List Int) : Res (List S82) :=
 andThen (tableS l) fun o => match o with
 | none => .ok []
 | some s =>
  chk (rdN l (s + 56) 8 == 24) (s + 56) 25 <| chk (rdN l (s + 32) 8 % 24 == 0) (s + 32) 25 <| chk (roomS l (rdN l (s + 24) 8) (rdN l (s + 32) 8)) (s + 24) 20 <|
  chk (decide (rdN l (s + 40) 4 < rdN l 60 2) && (rdN l (secS l (rdN l (s + 40) 4) + 4) 4 == 3)) (s + 40) 25 <|
  chk (roomS l (rdN l (secS l (rdN l (s + 40) 4) + 24) 8) (rdN l (secS l (rdN l (s + 40) 4) + 32) 8)) (secS l (rdN l (s + 40) 4) + 24) 20 <|
  symsS l ((l.drop (rdN l (secS l (rdN l (s + 40) 4) + 24) 8).toNat).take (rdN l (secS l (rdN l (s + 40) 4) + 32) 8).toNat) (rdN l (s + 24) 8) ((rdN l (s + 32) 8 / 24).toNat - 1) 1 []
end Go.Proofs.YtbnlifldnjgpmaaGreatDoor.PWri
/- image's head: the checks of a file's front, in their order. -/
set_option linter.unusedVariables false
set_option linter.unusedSimpArgs false
namespace Go.Proofs.YtbnlifldnjgpmaaGreatDoor.PWri
open Go.RowKit Go.Lib Go.Proofs.YtbnlifldnjgpmaaGreatDoorW.PrintWords Go.Proofs.YtbnlifldnjgpmaaGreatDoorW.PrintLast
set_option maxHeartbeats 16000000 in
set_option maxRecDepth 1000000 in
theorem head_c (l : List Int) (A : Option Addr) (c : Nat) (h : Bytes l) (hl : l.length ≤ 1099511627776) (hc : l.length ≤ c) (w : World) (hC : Kd.C (Kd.int .u8) w A l.length l) :
 Calls Tryz.prog 26 #[.agg #[.slice A l.length c]] w (Out (headS l) (fun _ v _ => v = .tuple #[]) w) := by
 have HC := Lib.hid hC
 have HB := Lib.hid h
 obtain ⟨o, ho⟩ : ∃ o, headS l = o := ⟨_, rfl⟩
 rw [ho]
 have HO : Hid (magicS l 0 (magicL.drop 0) (headR1 l) = o) := Lib.hid ho
 clear hC h ho
 go_enter Tryz.func26, Tryz.ntmps26
 go_wp2
 have HB0 : Hid (((w.alloc (.cells #[.slice A l.length c] 59)).alloc (.cells #[.int .u8 127, .int .u8 69, .int .u8 76, .int .u8 70, .int .u8 2, .int .u8 1, .int .u8 1] 5)).heap[w.heap.size + 1]? = some (.cells #[.int .u8 127, .int .u8 69, .int .u8 76, .int .u8 70, .int .u8 2, .int .u8 1, .int .u8 1] 5)) :=
  Lib.hid (by have h := blk_new (w.alloc (.cells #[.slice A l.length c] 59)) (.cells #[.int .u8 127, .int .u8 69, .int .u8 76, .int .u8 70, .int .u8 2, .int .u8 1, .int .u8 1] 5); rwa [show (w.alloc (.cells #[.slice A l.length c] 59)).heap.size = w.heap.size + 1 from Array.size_push _] at h)
 go_loopw [7] (fun v7 wx => ∃ j : Nat, v7 = .int .i64 (j : Int) ∧ j ≤ 7 ∧ Hid (magicS l j (magicL.drop j) (headR1 l) = o) ∧ Hid (FS w (.slice A l.length c) wx) ∧
  Hid (wx.heap[w.heap.size + 1]? = some (.cells #[.int .u8 127, .int .u8 69, .int .u8 76, .int .u8 70, .int .u8 2, .int .u8 1, .int .u8 1] 5))) (fun v7 _ => 7 - (RowKit.intOf v7).toNat)
 case atStart => exact ⟨0, rfl, by omega, HO, Lib.hid ((FS.start w _).alloc _), HB0⟩
 case round =>
  obtain ⟨j, rfl, hj, HOj, HS, HLj⟩ := hrel
  by_cases hjl : j < 7
  ·obtain ⟨ad, eA, hcell⟩ : ∃ ad : Addr, ad = ⟨w.heap.size + 1, j, none⟩ ∧ wr.cell? ad = some (.int .u8 (magicL.getD j 0)) := by
    refine ⟨_, rfl, ?_⟩
    have hl7 := HLj.out
    rw [World.cell?]
    dsimp only
    rw [hl7]
    match j, hjl with
    | 0, _ => rfl
    | 1, _ => rfl
    | 2, _ => rfl
    | 3, _ => rfl
    | 4, _ => rfl
    | 5, _ => rfl
    | 6, _ => rfl
   subst eA
   have hfc := (Lib.hid HS.out.cell).out
   have HCW := Lib.hid (Kd.C_below HC.out HS.out.below)
   have hdr : magicL.drop j = magicL.getD j 0 :: magicL.drop (j + 1) := magic_drop j hjl
   have hX := HOj.out
   rw [hdr, magicS] at hX
   have HX := Lib.hid hX
   clear hX hdr
   have hgw : w.heap.size ≤ wr.heap.size := HS.out.below.size
   by_cases hjl2 : j < l.length
   ·obtain ⟨ad, eA, hcA⟩ := Kd.at_int HCW.out (j : Int) (by omega) (by omega)
    subst eA
    rw [Int.toNat_natCast] at hcA
    go_wp2_with (go_at_call 25; refine (must_c _ _ _ _).mono ?_; rintro e w' (⟨hb, he, hw⟩ | ⟨hb, he, hw⟩) <;> have hw := hw.symm <;> subst he <;> subst hw)
    ·have hX := HX.out
     rw [chk_ok (decide_eq_true (by omega)), chk_ok (by simpa [rd] using hb)] at hX
     exact ⟨⟨j + 1, rfl, by omega, Lib.hid hX, HS, HLj⟩, by show 7 - (RowKit.intOf (Value.int IntKind.i64 ((j + 1 : Nat) : Int))).toNat < _; simp only [RowKit.intOf]; omega⟩
    ·refine ⟨rfl, Out.no ?_ HS.out.below⟩
     rw [← HX.out, chk_ok (decide_eq_true (by omega)), chk_no (by simpa [rd] using hb)]
    ·exact absurd hb (by simp)
   ·go_wp2_with (go_at_call 25; refine (must_c _ _ _ _).mono ?_; rintro e w' (⟨hb, he, hw⟩ | ⟨hb, he, hw⟩) <;> have hw := hw.symm <;> subst he <;> subst hw)
    ·exact absurd hb (by simp)
    ·refine ⟨rfl, Out.no ?_ HS.out.below⟩
     rw [← HX.out, chk_no (decide_eq_false (by omega))]
  ·have hX := HOj.out
   rw [show magicL.drop j = [] from by rw [show j = 7 by omega]; rfl, magicS, headR1, headR2, headR3] at hX
   have HX := Lib.hid hX
   clear hX HOj HLj
   have hfc := (Lib.hid HS.out.cell).out
   by_cases h64 : 64 ≤ l.length
   ·have hlen : (64 : Int) ≤ (l.length : Int) := by omega
    have b56 := rd2 HB.out 56
    have b32 := (rd8 HB.out 32).1
    by_cases hn : rdN l 56 2 = 0
    ·have hnb : (rdN l 56 2 == 0) = true := by simp [hn]
     have hX := HX.out
     rw [hnb, Bool.true_or, decide_eq_true hlen, hn, show decide ((0 : Int) ≤ 16) = true from rfl, show (56 * 0 : Int) = 0 from rfl] at hX
     clear HX
     have HX := Lib.hid hX
     clear hX
     go_wp2_with (first | (go_at_call 25; refine (must_c _ _ _ _).mono ?_; rintro e w' (⟨hb, he, hw⟩ | ⟨hb, he, hw⟩) <;> have hw := hw.symm <;> subst he <;> subst hw; rotate_left; (refine ⟨rfl, Out.no (HX.out.symm.trans (chk_no hb)) HS.out.below⟩); have hX2 := HX.out; rw [chk_ok hb] at hX2; clear HX hb; have HX := Lib.hid hX2; clear hX2) | (go_at_call 52; refine (half_i HB.out hl hc _ (by omega) (by omega) _ (Kd.C_below HC.out HS.out.below)).mono ?_; rintro e w' ⟨he, ⟨hv0, hv1⟩, hd⟩; subst he; have hS2 := HS.out.step hd; clear HS hfc hd; have HS := Lib.hid hS2; have hfc := (Lib.hid HS.out.cell).out; clear hS2) | (go_at_call 53; refine (word_i HB.out hl hc _ (by omega) (by omega) _ (Kd.C_below HC.out HS.out.below)).mono ?_; rintro e w' ⟨he, ⟨hv0, hv1⟩, hd⟩; subst he; have hS2 := HS.out.step hd; clear HS hfc hd; have HS := Lib.hid hS2; have hfc := (Lib.hid HS.out.cell).out; clear hS2) | (go_at_call 27; refine (double_i HB.out hl hc _ (by omega) (by omega) _ (Kd.C_below HC.out HS.out.below)).mono ?_; rintro e w' ⟨he, ⟨hv0, hv1⟩, hd⟩; subst he; have hS2 := HS.out.step hd; clear HS hfc hd; have HS := Lib.hid hS2; have hfc := (Lib.hid HS.out.cell).out; clear hS2))
     have E1 : IntKind.i64.wrap 0 = 0 := by decide
     have E2 : IntKind.u64.wrap 0 = 0 := by decide
     have hS2 := HS.out.drew; clear HS hfc; have HS := Lib.hid hS2; have hfc := (Lib.hid HS.out.cell).out; clear hS2
     go_region_held2 (fun w' => w'.cell? ⟨w.heap.size, 0, none⟩ = some (.slice A l.length c)) (first | exact hfc | go_keep) (first | (go_at_call 27; refine (double_i HB.out hl hc _ (by omega) (by omega) _ (Kd.C_below HC.out HS.out.below)).mono ?_; rintro e w' ⟨he, ⟨hv0, hv1⟩, hd⟩; subst he; have hS2 := HS.out.step hd; clear HS hfc hd; have HS := Lib.hid hS2; have hfc := (Lib.hid HS.out.cell).out; clear hS2) | (go_at_call 54; refine (room_c hl hc _ _ (by omega) _ (Kd.C_below HC.out HS.out.below)).mono ?_; rintro e w' ⟨he, hd⟩; subst he; have hS2 := HS.out.step hd; clear HS hfc hd; have HS := Lib.hid hS2; have hfc := (Lib.hid HS.out.cell).out; clear hS2) | (go_at_call 25; refine (must_c _ _ _ _).mono ?_; rintro e w' (⟨hb, he, hw⟩ | ⟨hb, he, hw⟩) <;> have hw := hw.symm <;> subst he <;> subst hw; rotate_left; (refine ⟨rfl, Out.no (HX.out.symm.trans (chk_no hb)) HS.out.below⟩); have hX2 := HX.out; rw [chk_ok hb] at hX2; clear HX hb; have HX := Lib.hid hX2; clear hX2))
     go_wp2
     go_end0
     exact Out.yes HX.out.symm rfl HS.out.below
    ·have hnb : (rdN l 56 2 == 0) = false := by simp [hn]
     have hX := HX.out
     rw [hnb, Bool.false_or, decide_eq_true hlen] at hX
     clear HX
     have HX := Lib.hid hX
     clear hX
     go_wp2_with (first | (go_at_call 25; refine (must_c _ _ _ _).mono ?_; rintro e w' (⟨hb, he, hw⟩ | ⟨hb, he, hw⟩) <;> have hw := hw.symm <;> subst he <;> subst hw; rotate_left; (refine ⟨rfl, Out.no (HX.out.symm.trans (chk_no hb)) HS.out.below⟩); have hX2 := HX.out; rw [chk_ok hb] at hX2; clear HX hb; have HX := Lib.hid hX2; clear hX2) | (go_at_call 52; refine (half_i HB.out hl hc _ (by omega) (by omega) _ (Kd.C_below HC.out HS.out.below)).mono ?_; rintro e w' ⟨he, ⟨hv0, hv1⟩, hd⟩; subst he; have hS2 := HS.out.step hd; clear HS hfc hd; have HS := Lib.hid hS2; have hfc := (Lib.hid HS.out.cell).out; clear hS2) | (go_at_call 53; refine (word_i HB.out hl hc _ (by omega) (by omega) _ (Kd.C_below HC.out HS.out.below)).mono ?_; rintro e w' ⟨he, ⟨hv0, hv1⟩, hd⟩; subst he; have hS2 := HS.out.step hd; clear HS hfc hd; have HS := Lib.hid hS2; have hfc := (Lib.hid HS.out.cell).out; clear hS2) | (go_at_call 27; refine (double_i HB.out hl hc _ (by omega) (by omega) _ (Kd.C_below HC.out HS.out.below)).mono ?_; rintro e w' ⟨he, ⟨hv0, hv1⟩, hd⟩; subst he; have hS2 := HS.out.step hd; clear HS hfc hd; have HS := Lib.hid hS2; have hfc := (Lib.hid HS.out.cell).out; clear hS2))
     have hE0 := b56
     have E1 : IntKind.i64.wrap (56 * rdN l 56 2) = 56 * rdN l 56 2 := by rw [IntKind.wrap_i64]; omega
     have E2 : IntKind.u64.wrap (56 * rdN l 56 2) = 56 * rdN l 56 2 := u64n (by omega) (by omega)
     have hS2 := HS.out.drew; clear HS hfc; have HS := Lib.hid hS2; have hfc := (Lib.hid HS.out.cell).out; clear hS2
     go_region_held2 (fun w' => w'.cell? ⟨w.heap.size, 0, none⟩ = some (.slice A l.length c)) (first | exact hfc | go_keep) (first | (go_at_call 27; refine (double_i HB.out hl hc _ (by omega) (by omega) _ (Kd.C_below HC.out HS.out.below)).mono ?_; rintro e w' ⟨he, ⟨hv0, hv1⟩, hd⟩; subst he; have hS2 := HS.out.step hd; clear HS hfc hd; have HS := Lib.hid hS2; have hfc := (Lib.hid HS.out.cell).out; clear hS2) | (go_at_call 54; refine (room_c hl hc _ _ (by omega) _ (Kd.C_below HC.out HS.out.below)).mono ?_; rintro e w' ⟨he, hd⟩; subst he; have hS2 := HS.out.step hd; clear HS hfc hd; have HS := Lib.hid hS2; have hfc := (Lib.hid HS.out.cell).out; clear hS2) | (go_at_call 25; refine (must_c _ _ _ _).mono ?_; rintro e w' (⟨hb, he, hw⟩ | ⟨hb, he, hw⟩) <;> have hw := hw.symm <;> subst he <;> subst hw; rotate_left; (refine ⟨rfl, Out.no (HX.out.symm.trans (chk_no hb)) HS.out.below⟩); have hX2 := HX.out; rw [chk_ok hb] at hX2; clear HX hb; have HX := Lib.hid hX2; clear hX2))
     go_wp2
     go_end0
     exact Out.yes HX.out.symm rfl HS.out.below
   ·have hd64 : decide ((64 : Int) ≤ (l.length : Int)) = false := decide_eq_false (by omega)
    go_wp2_with (go_at_call 25; refine (must_no _ _ _).mono ?_; rintro e w' ⟨rfl, rfl⟩)
    exact ⟨rfl, Out.no (HX.out.symm.trans (chk_no hd64)) HS.out.below⟩
end Go.Proofs.YtbnlifldnjgpmaaGreatDoor.PWri
/- Parts that a call has made: a row of its own, and the bytes of each in a row of their own, no two the same. -/
set_option linter.unusedVariables false
set_option linter.unusedSimpArgs false
namespace Go.Proofs.YtbnlifldnjgpmaaGreatDoor.PWri
open Go.RowKit Go.Lib Go.Proofs.YtbnlifldnjgpmaaGreatDoorW.PrintWords Go.Proofs.YtbnlifldnjgpmaaGreatDoorW.PrintLast
abbrev PV : Type := S55 × Value
def encP (p : PV) : List Value := [.int .u64 p.1.f0, .int .u64 p.1.f1, .int .i64 p.1.f2, p.2]
/-- The row v holds these parts; the second of each pair is its slice of bytes. -/
structure PO (W : World) (base : Nat) (v : Value) (ps : List PV) : Prop where
 own : W.ownsRow base 55 4 v ps.length (ps.flatMap encP)
 data : ∀ p ∈ ps, (Kd.int .u8).R 5 W base (fun _ => True) p.2 p.1.f3
 apart : ps.Pairwise fun p q => ∀ k, p.2.ownBlock = some k → q.2.ownBlock ≠ some k
theorem encP_len (ps : List PV) : (ps.flatMap encP).length = ps.length * 4 := by
 induction ps with
 | nil => rfl
 | cons p ps ih => simp only [List.flatMap_cons, List.length_append, ih, List.length_cons, encP, List.length_nil]; omega
theorem PO.nil (W : World) (base : Nat) : PO W base (.slice none 0 0) [] := ⟨own_nil W base _ _, fun _ h => (List.not_mem_nil h).elim, .nil⟩
theorem PO.below {W W1 : World} {base : Nat} {v : Value} {ps : List PV} (h : PO W base v ps) (hb : Below W.heap.size W W1) : PO W1 base v ps :=
 ⟨pw_own_below h.own hb, fun p hp => Kd.R_below (h.data p hp) hb, h.apart⟩
theorem PO.drew {W : World} {base : Nat} {v : Value} {ps : List PV} (h : PO W base v ps) : PO W.drew base v ps := h.below (below_drew (Below.refl _ _))
theorem PO.slice {W : World} {base : Nat} {v : Value} {ps : List PV} (h : PO W base v ps) : ∃ A c, v = .slice A ps.length c := own_slice h.own
theorem PO.far {W : World} {base : Nat} {v : Value} {ps : List PV} (h : PO W base v ps) (p : PV) (hp : p ∈ ps) : (Kd.int .u8).R 5 W base (fun k => True ∧ some k ≠ v.ownBlock) p.2 p.1.f3 := by
 refine Kd.R_mono (Kd.R_bound (h.data p hp)) (fun k hk => ⟨trivial, fun e => ?_⟩)
 obtain ⟨_, _, _, q, hq, cells, hc⟩ := hk
 obtain ⟨cells2, hc2⟩ := own_typed h.own k e.symm
 rw [hc] at hc2
 injection hc2 with h2
 injection h2 with _ h3
 subst h3
 revert hq
 decide
theorem reps_encP {W : World} {base : Nat} {v : Value} : ∀ ps : List PV, (∀ p ∈ ps, (Kd.int .u8).R 5 W base (fun k => True ∧ some k ≠ v.ownBlock) p.2 p.1.f3) →
 Reps (k55.M W base (fun k => True ∧ some k ≠ v.ownBlock)) 4 (ps.map (·.1)) (ps.flatMap encP) := by
 intro ps h
 refine ⟨encP_len ps ▸ (by rw [List.length_map]), ?_⟩
 intro j p hj
 rw [List.getElem?_map] at hj
 obtain ⟨q, hq, rfl⟩ := Option.map_eq_some_iff.1 hj
 have e : ((ps.flatMap encP).drop (j * 4)).take 4 = encP q := by
  clear h hj
  induction ps generalizing j with
  | nil => simp at hq
  | cons a ps ih =>
   cases j with
   | zero =>
    simp only [List.getElem?_cons_zero, Option.some.injEq] at hq
    subst hq
    rfl
   | succ j =>
    rw [List.getElem?_cons_succ] at hq
    rw [List.flatMap_cons, show (j + 1) * 4 = 4 + j * 4 by omega, ← List.drop_drop, show (encP a ++ ps.flatMap encP).drop 4 = ps.flatMap encP from rfl]
    exact ih j hq
 rw [e]
 exact k55_mkM W base _ q.1 (h q (List.mem_of_getElem? hq))
theorem PO.R {W : World} {base : Nat} {v : Value} {ps : List PV} (h : PO W base v ps) : Kd.R k55 55 W base (fun _ => True) v (ps.map (·.1)) := by
 refine ⟨fun _ _ => trivial, ps.flatMap encP, ?_, ?_⟩
 ·rw [List.length_map]
  exact h.own
 ·exact reps_encP ps (fun p hp => h.far p hp)
theorem PO.C {W : World} {base : Nat} {A : Option Addr} {n c : Nat} {ps : List PV} (h : PO W base (.slice A n c) ps) : Kd.C k55 W A ps.length (ps.map (·.1)) ∧ n = ps.length ∧ ps.length ≤ c := by
 obtain ⟨A1, c1, e, hl, hC⟩ := Kd.R_reads h.R
 injection e with e1 e2 e3
 subst e1 e3
 rw [List.length_map] at e2 hl hC
 exact ⟨hC, e2, hl⟩
theorem below_grown_none {W W1 : World} (h : W.grownBy W1 (Value.slice none 0 0).ownBlock) : Below W.heap.size W W1 := ⟨h.os, h.tape, h.output, h.size, fun i hi => h.block i hi (by simp [Value.ownBlock])⟩
/-- A row that is new at W is none of these. -/
theorem PO.new_apart {W : World} {base : Nat} {v dv : Value} {ps : List PV} (h : PO W base v ps) (hat : dv.ownBlock = (Value.slice none 0 0).ownBlock ∨ ∃ b, dv.ownBlock = some b ∧ W.heap.size ≤ b) :
 ∀ p ∈ ps, ∀ k, p.2.ownBlock = some k → dv.ownBlock ≠ some k := by
 intro p hp k hk e
 rcases hat with hat | ⟨b, hb, hle⟩
 ·rw [hat] at e
  simp [Value.ownBlock] at e
 ·rw [hb] at e
  cases e
  obtain ⟨inner, ho⟩ := Kd.R_own (h.data p hp)
  have := own_lt ho _ hk
  omega
/-- Behind an append of one part. -/
theorem PO.app {W w1 : World} {base : Nat} {v v1 dv : Value} {ps : List PV} {s : S55} (h : PO W base v ps) (hd : (Kd.int .u8).R 5 W base (fun _ => True) dv s.f3)
 (hn : ∀ p ∈ ps, ∀ k, p.2.ownBlock = some k → dv.ownBlock ≠ some k)
 (ho : w1.ownsRow base 55 4 v1 (ps.length + 1) (ps.flatMap encP ++ encP (s, dv))) (hg : W.grownBy w1 v.ownBlock) : PO w1 base v1 (ps ++ [(s, dv)]) := by
 have far : (Kd.int .u8).R 5 W base (fun k => True ∧ some k ≠ v.ownBlock) dv s.f3 := by
  refine Kd.R_mono (Kd.R_bound hd) (fun k hk => ⟨trivial, fun e => ?_⟩)
  obtain ⟨_, _, _, q, hq, cells, hc⟩ := hk
  obtain ⟨cells2, hc2⟩ := own_typed h.own k e.symm
  rw [hc] at hc2
  injection hc2 with h2
  injection h2 with _ h3
  subst h3
  revert hq
  decide
 refine ⟨?_, fun p hp => ?_, ?_⟩
 ·rw [List.length_append, List.flatMap_append, List.length_singleton, List.flatMap_singleton]
  exact ho
 ·rcases List.mem_append.1 hp with hp | hp
  ·exact Kd.R_mono (Kd.R_grown (h.far p hp) hg (fun k hk => hk.2)) (fun _ _ => trivial)
  ·rw [List.mem_singleton.1 hp]
   exact Kd.R_mono (Kd.R_grown far hg (fun k hk => hk.2)) (fun _ _ => trivial)
 ·rw [List.pairwise_append]
  exact ⟨h.apart, List.pairwise_singleton _ _, fun p hp q hq => by rw [List.mem_singleton.1 hq]; exact hn p hp⟩
end Go.Proofs.YtbnlifldnjgpmaaGreatDoor.PWri
/-
  DERIVED: THE SHELF's CONTRACTS AT THIS DUMP, IN PLAIN WORDS (tools/lay-plain.mjs out of 'YtbnlifldnjgpmaaGreatDoorShelfS.lean', which tools/lay-shelf.mjs wrote): THE SAME DECLARATIONS UNDER THE SAME NAMES: 'import', 'namespace', 'open', 'def', 'theorem' AND NOTHING ELSE: no command of the shelf's: FOR A HAND-IN. Each laying: the table of numbers ('.._ren') and one theorem, a field a fact of the dump's own or the kernel's comparison; each contract: ONE APPLICATION.
-/
namespace Go.Proofs
open Go.Shelf
def Tryz.sortSeg_ren : Go.Shelf.Ren := ⟨fun | 6 => 56 | 15 => 83 | 14 => 82 | 28 => 100 | 29 => 101 | 20 => 92 | 21 => 93 | 22 => 94 | 23 => 95 | 24 => 96 | 25 => 97 | 26 => 98 | 27 => 99 | 46 => 112 | 47 => 113 | 48 => 114 | 49 => 115 | 50 => 116 | 57 => 120 | n => n, fun | 22 => 25 | 24 => 55 | 25 => 104 | 3 => 3 | 39 => 137 | 0 => 0 | 53 => 164 | 55 => 24 | 4 => 4 | 46 => 170 | 45 => 169 | 50 => 105 | 5 => 5 | 9 => 9 | 66 => 192 | 70 => 196 | 76 => 202 | 77 => 203 | n => n, fun | n => n⟩
theorem Tryz.sortSeg : Go.Proofs.SlLaysF0.n6 Tryz.prog Tryz.sortSeg_ren := {
 mixed := by kernel_rfl
 f6 := ⟨Tryz.f56.name, by decide, Tryz.func56.trans (congrArg some (by kernel_rfl))⟩
 f14 := ⟨Tryz.f82.name, by decide, Tryz.func82.trans (congrArg some (by kernel_rfl))⟩
 f15 := Tryz.func83.trans (congrArg some (by kernel_rfl))
 f20 := ⟨Tryz.f92.name, by decide, Tryz.func92.trans (congrArg some (by kernel_rfl))⟩
 f21 := ⟨Tryz.f93.name, by decide, Tryz.func93.trans (congrArg some (by kernel_rfl))⟩
 f22 := ⟨Tryz.f94.name, by decide, Tryz.func94.trans (congrArg some (by kernel_rfl))⟩
 f23 := ⟨Tryz.f95.name, by decide, Tryz.func95.trans (congrArg some (by kernel_rfl))⟩
 f24 := ⟨Tryz.f96.name, by decide, Tryz.func96.trans (congrArg some (by kernel_rfl))⟩
 f25 := ⟨Tryz.f97.name, by decide, Tryz.func97.trans (congrArg some (by kernel_rfl))⟩
 f26 := ⟨Tryz.f98.name, by decide, Tryz.func98.trans (congrArg some (by kernel_rfl))⟩
 f27 := ⟨Tryz.f99.name, by decide, Tryz.func99.trans (congrArg some (by kernel_rfl))⟩
 f28 := Tryz.func100.trans (congrArg some (by kernel_rfl))
 f29 := Tryz.func101.trans (congrArg some (by kernel_rfl))
 f46 := ⟨Tryz.f112.name, by decide, Tryz.func112.trans (congrArg some (by kernel_rfl))⟩
 f47 := Tryz.func113.trans (congrArg some (by kernel_rfl))
 f48 := Tryz.func114.trans (congrArg some (by kernel_rfl))
 f49 := ⟨Tryz.f115.name, by decide, Tryz.func115.trans (congrArg some (by kernel_rfl))⟩
 f50 := ⟨Tryz.f116.name, by decide, Tryz.func116.trans (congrArg some (by kernel_rfl))⟩
 f57 := ⟨Tryz.f120.name, by decide, Tryz.func120.trans (congrArg some (by kernel_rfl))⟩
 t0 := Tryz.underlying0
 a0 := Tryz.isAgg0
 z0 := Tryz.sizeOf0
 v0 := Tryz.zeroValue0
 t3 := Tryz.underlying3
 a3 := Tryz.isAgg3
 z3 := Tryz.sizeOf3
 v3 := Tryz.zeroValue3
 t4 := Tryz.underlying4
 a4 := Tryz.isAgg4
 z4 := Tryz.sizeOf4
 v4 := Tryz.zeroValue4
 t5 := Tryz.underlying5
 a5 := Tryz.isAgg5
 z5 := Tryz.sizeOf5
 v5 := Tryz.zeroValue5
 t9 := Tryz.underlying9
 a9 := Tryz.isAgg9
 z9 := Tryz.sizeOf9
 v9 := Tryz.zeroValue9
 t22 := Tryz.underlying25
 a22 := Tryz.isAgg25
 z22 := Tryz.sizeOf25
 v22 := Tryz.zeroValue25
 t25 := Tryz.underlying104
 a25 := Tryz.isAgg104
 z25 := Tryz.sizeOf104
 v25 := Tryz.zeroValue104
 t39 := Tryz.underlying137
 a39 := Tryz.isAgg137
 z39 := Tryz.sizeOf137
 v39 := Tryz.zeroValue137
 t45 := Tryz.underlying169
 a45 := Tryz.isAgg169
 z45 := Tryz.sizeOf169
 v45 := Tryz.zeroValue169
 t46 := Tryz.underlying170
 a46 := Tryz.isAgg170
 z46 := Tryz.sizeOf170
 v46 := Tryz.zeroValue170
 t50 := Tryz.underlying105
 a50 := Tryz.isAgg105
 z50 := Tryz.sizeOf105
 v50 := Tryz.zeroValue105
 t53 := Tryz.underlying164
 a53 := Tryz.isAgg164
 z53 := Tryz.sizeOf164
 v53 := Tryz.zeroValue164
 t55 := Tryz.underlying24
 a55 := Tryz.isAgg24
 z55 := Tryz.sizeOf24
 v55 := Tryz.zeroValue24
 t66 := Tryz.underlying192
 a66 := Tryz.isAgg192
 z66 := Tryz.sizeOf192
 v66 := Tryz.zeroValue192
 t70 := Tryz.underlying196
 a70 := Tryz.isAgg196
 z70 := Tryz.sizeOf196
 v70 := Tryz.zeroValue196
 t76 := Tryz.underlying202
 a76 := Tryz.isAgg202
 z76 := Tryz.sizeOf202
 v76 := Tryz.zeroValue202
 t77 := Tryz.underlying203
 a77 := Tryz.isAgg203
 z77 := Tryz.sizeOf203
 v77 := Tryz.zeroValue203 }
def Tryz.sortSym_ren : Go.Shelf.Ren := ⟨fun | 6 => 61 | 15 => 83 | 14 => 85 | 28 => 100 | 29 => 101 | 20 => 102 | 21 => 103 | 22 => 104 | 23 => 105 | 24 => 106 | 25 => 107 | 26 => 108 | 27 => 109 | 46 => 117 | 47 => 113 | 48 => 114 | 49 => 118 | 50 => 119 | 57 => 121 | n => n, fun | 22 => 26 | 24 => 82 | 25 => 84 | 3 => 3 | 39 => 137 | 0 => 0 | 53 => 164 | 55 => 24 | 4 => 4 | 46 => 170 | 45 => 169 | 50 => 105 | 5 => 5 | 9 => 9 | 66 => 192 | 70 => 196 | 76 => 202 | 77 => 203 | n => n, fun | n => n⟩
theorem Tryz.sortSym : Go.Proofs.SlLaysF0.n6 Tryz.prog Tryz.sortSym_ren := {
 mixed := by kernel_rfl
 f6 := ⟨Tryz.f61.name, by decide, Tryz.func61.trans (congrArg some (by kernel_rfl))⟩
 f14 := ⟨Tryz.f85.name, by decide, Tryz.func85.trans (congrArg some (by kernel_rfl))⟩
 f15 := Tryz.func83.trans (congrArg some (by kernel_rfl))
 f20 := ⟨Tryz.f102.name, by decide, Tryz.func102.trans (congrArg some (by kernel_rfl))⟩
 f21 := ⟨Tryz.f103.name, by decide, Tryz.func103.trans (congrArg some (by kernel_rfl))⟩
 f22 := ⟨Tryz.f104.name, by decide, Tryz.func104.trans (congrArg some (by kernel_rfl))⟩
 f23 := ⟨Tryz.f105.name, by decide, Tryz.func105.trans (congrArg some (by kernel_rfl))⟩
 f24 := ⟨Tryz.f106.name, by decide, Tryz.func106.trans (congrArg some (by kernel_rfl))⟩
 f25 := ⟨Tryz.f107.name, by decide, Tryz.func107.trans (congrArg some (by kernel_rfl))⟩
 f26 := ⟨Tryz.f108.name, by decide, Tryz.func108.trans (congrArg some (by kernel_rfl))⟩
 f27 := ⟨Tryz.f109.name, by decide, Tryz.func109.trans (congrArg some (by kernel_rfl))⟩
 f28 := Tryz.func100.trans (congrArg some (by kernel_rfl))
 f29 := Tryz.func101.trans (congrArg some (by kernel_rfl))
 f46 := ⟨Tryz.f117.name, by decide, Tryz.func117.trans (congrArg some (by kernel_rfl))⟩
 f47 := Tryz.func113.trans (congrArg some (by kernel_rfl))
 f48 := Tryz.func114.trans (congrArg some (by kernel_rfl))
 f49 := ⟨Tryz.f118.name, by decide, Tryz.func118.trans (congrArg some (by kernel_rfl))⟩
 f50 := ⟨Tryz.f119.name, by decide, Tryz.func119.trans (congrArg some (by kernel_rfl))⟩
 f57 := ⟨Tryz.f121.name, by decide, Tryz.func121.trans (congrArg some (by kernel_rfl))⟩
 t0 := Tryz.underlying0
 a0 := Tryz.isAgg0
 z0 := Tryz.sizeOf0
 v0 := Tryz.zeroValue0
 t3 := Tryz.underlying3
 a3 := Tryz.isAgg3
 z3 := Tryz.sizeOf3
 v3 := Tryz.zeroValue3
 t4 := Tryz.underlying4
 a4 := Tryz.isAgg4
 z4 := Tryz.sizeOf4
 v4 := Tryz.zeroValue4
 t5 := Tryz.underlying5
 a5 := Tryz.isAgg5
 z5 := Tryz.sizeOf5
 v5 := Tryz.zeroValue5
 t9 := Tryz.underlying9
 a9 := Tryz.isAgg9
 z9 := Tryz.sizeOf9
 v9 := Tryz.zeroValue9
 t22 := Tryz.underlying26
 a22 := Tryz.isAgg26
 z22 := Tryz.sizeOf26
 v22 := Tryz.zeroValue26
 t25 := Tryz.underlying84
 a25 := Tryz.isAgg84
 z25 := Tryz.sizeOf84
 v25 := Tryz.zeroValue84
 t39 := Tryz.underlying137
 a39 := Tryz.isAgg137
 z39 := Tryz.sizeOf137
 v39 := Tryz.zeroValue137
 t45 := Tryz.underlying169
 a45 := Tryz.isAgg169
 z45 := Tryz.sizeOf169
 v45 := Tryz.zeroValue169
 t46 := Tryz.underlying170
 a46 := Tryz.isAgg170
 z46 := Tryz.sizeOf170
 v46 := Tryz.zeroValue170
 t50 := Tryz.underlying105
 a50 := Tryz.isAgg105
 z50 := Tryz.sizeOf105
 v50 := Tryz.zeroValue105
 t53 := Tryz.underlying164
 a53 := Tryz.isAgg164
 z53 := Tryz.sizeOf164
 v53 := Tryz.zeroValue164
 t55 := Tryz.underlying24
 a55 := Tryz.isAgg24
 z55 := Tryz.sizeOf24
 v55 := Tryz.zeroValue24
 t66 := Tryz.underlying192
 a66 := Tryz.isAgg192
 z66 := Tryz.sizeOf192
 v66 := Tryz.zeroValue192
 t70 := Tryz.underlying196
 a70 := Tryz.isAgg196
 z70 := Tryz.sizeOf196
 v70 := Tryz.zeroValue196
 t76 := Tryz.underlying202
 a76 := Tryz.isAgg202
 z76 := Tryz.sizeOf202
 v76 := Tryz.zeroValue202
 t77 := Tryz.underlying203
 a77 := Tryz.isAgg203
 z77 := Tryz.sizeOf203
 v77 := Tryz.zeroValue203 }
end Go.Proofs
/- slices.SortFunc at rows of the call's own: parts by address, names by value and name. -/
set_option linter.unusedVariables false
set_option linter.unusedSimpArgs false
namespace Go.Proofs.YtbnlifldnjgpmaaGreatDoor.PWri
open Go.RowKit Go.Lib Go.Proofs.YtbnlifldnjgpmaaGreatDoorW.PrintWords Go.Proofs.YtbnlifldnjgpmaaGreatDoorW.PrintLast
open Go.Sort Go.Shelf
set_option linter.unusedSectionVars false
section
variable {α : Type} [Inhabited α] (enc : α → List Value) (k : Nat)
theorem flat_len (hk : ∀ x, (enc x).length = k) : ∀ d : List α, (d.flatMap enc).length = d.length * k
 | [] => by simp
 | a :: d => by rw [List.flatMap_cons, List.length_append, hk, flat_len hk d, List.length_cons, Nat.add_mul, Nat.one_mul, Nat.add_comm]
theorem flat_get (hk : ∀ x, (enc x).length = k) : ∀ (d : List α) (j r : Nat) (x : α), d[j]? = some x → r < k → (d.flatMap enc)[j * k + r]? = (enc x)[r]?
 | [], _, _, _, h, _ => by simp at h
 | a :: d, 0, r, x, h, hr => by
  simp only [List.getElem?_cons_zero, Option.some.injEq] at h
  subst h
  rw [List.flatMap_cons, Nat.zero_mul, Nat.zero_add, List.getElem?_append_left (by rw [hk]; exact hr)]
 | a :: d, j + 1, r, x, h, hr => by
  rw [List.getElem?_cons_succ] at h
  rw [List.flatMap_cons, List.getElem?_append_right (by rw [hk, Nat.add_mul, Nat.one_mul]; omega), hk, show (j + 1) * k + r - k = j * k + r by rw [Nat.add_mul, Nat.one_mul]; omega]
  exact flat_get hk d j r x h hr
theorem flatK_list (hk : ∀ x, (enc x).length = k) (k0 : 0 < k) (d : List α) : (flatK enc k d.toArray).toList = d.flatMap enc := by
 apply List.ext_getElem?
 intro t
 by_cases ht : t < d.length * k
 ·have hj : t / k < d.length := (Nat.div_lt_iff_lt_mul k0).2 ht
  have hr : t % k < k := Nat.mod_lt _ k0
  have e : t / k * k + t % k = t := Nat.div_add_mod' t k
  have h1 := flat_get enc k hk d (t / k) (t % k) d[t / k] (List.getElem?_eq_getElem hj) hr
  rw [e] at h1
  rw [h1, Array.getElem?_toList, Array.getElem?_eq_getElem (by simpa using ht)]
  have h2 := get_flatK enc k d.toArray t (by simpa using ht)
  rw [getElem!_pos _ t (by simpa using ht)] at h2
  have hq : t % k < (enc d[t / k]).length := by rw [hk]; exact hr
  rw [h2, List.getElem?_eq_getElem hq, getElem!_pos d.toArray (t / k) (by simpa using hj), List.getElem_toArray, getElem!_pos (enc d[t / k]) (t % k) hq]
 ·rw [List.getElem?_eq_none (by simpa using ht), List.getElem?_eq_none (by rw [flat_len enc k hk]; omega)]
theorem holds_row (hk : ∀ x, (enc x).length = k) (k0 : 0 < k) {w : World} {base g cap n : Nat} {e : TypeId} {d : List α} (h : w.ownsRow base e k (.slice (some ⟨g, 0, none⟩) n cap) d.length (d.flatMap enc)) : HoldsK enc k w g 0 d.toArray ∧ g < w.heap.size := by
 rcases h.2 with ⟨h0, _⟩ | ⟨g', cap', cur, hv, hg, hb, hn, hcap, hsz, ht⟩
 ·cases h0
 ·injection hv with e1 e2 e3
  injection e1 with e1
  injection e1 with e1 _ _
  subst e1 e3
  refine ⟨fun j hj => ⟨?_, by simp [World.frozen?, hb]⟩, blk_lt hb⟩
  have hj' : j < d.length * k := by simpa using hj
  have h1 : (cur.toList.take (d.length * k))[j]? = (d.flatMap enc)[j]? := by rw [ht]
  rw [List.getElem?_take_of_lt hj', ← flatK_list enc k hk k0 d, Array.getElem?_toList, Array.getElem?_toList, Array.getElem?_eq_getElem hj] at h1
  simp only [World.cell?, hb, Nat.zero_add, Option.isSome_none, Bool.false_eq_true, if_false]
  rw [h1, id, getElem!_pos _ j hj]
theorem sorted_row (hk : ∀ x, (enc x).length = k) (k0 : 0 < k) {w : World} {base g cap n m : Nat} {e : TypeId} {d d' : List α} {os : Array Obj} (hl : d'.length = d.length)
 (h : w.ownsRow base e k (.slice (some ⟨g, 0, none⟩) n cap) d.length (d.flatMap enc)) :
 (sortWorldK enc k w g 0 m d'.toArray os).ownsRow base e k (.slice (some ⟨g, 0, none⟩) n cap) d'.length (d'.flatMap enc) ∧ w.grownBy (sortWorldK enc k w g 0 m d'.toArray os) (some g) := by
 rcases h.2 with ⟨h0, _⟩ | ⟨g', cap', cur, hv, hg, hb, hn, hcap, hsz, ht⟩
 ·cases h0
 ·injection hv with e1 e2 e3
  injection e1 with e1
  injection e1 with e1 _ _
  subst e1 e3
  have hgl : g < w.heap.size := blk_lt hb
  constructor
  ·refine ⟨flat_len enc k hk d', .inr ⟨g, cap, putCells id 0 (flatK enc k d'.toArray) cur, by rw [e2, hl], hg, ?_, by rw [hl]; exact hn, hcap, by simp [putCells, hsz], ?_⟩⟩
   ·unfold sortWorldK putRowK
    rw [heap_grow_old _ _ (by simpa using hgl)]
    simp [putRow, mapBlock, Sort.ahead, Array.getElem?_modify, hb, onCells]
   ·have hle : d'.length * k ≤ cur.size := by rw [hsz, hl]; exact Nat.mul_le_mul_right _ hn
    rw [← flatK_list enc k hk k0 d']
    apply List.ext_getElem?
    intro j
    by_cases hj : j < d'.length * k
    ·rw [List.getElem?_take_of_lt hj, Array.getElem?_toList, Array.getElem?_toList]
     have hj2 : j < (flatK enc k d'.toArray).size := by simpa using hj
     rw [Array.getElem?_eq_getElem hj2, Array.getElem?_eq_getElem (by simp [putCells]; omega)]
     simp [putCells, hj]
    ·rw [List.getElem?_take_eq_none (by omega), List.getElem?_eq_none (by simp; omega)]
  ·refine ⟨rfl, rfl, rfl, by unfold sortWorldK putRowK; simp, fun i hi hne => ?_⟩
   unfold sortWorldK putRowK
   rw [heap_grow_old _ _ (by simpa using hi)]
   have : g ≠ i := fun e => hne (by rw [e])
   simp [putRow, mapBlock, Sort.ahead, Array.getElem?_modify, this]
end
abbrev PD : Type := S55 × Option Addr × Nat
def decP (q : PD) : PV := (q.1, .slice q.2.1 q.1.f3.length q.2.2)
def encD (q : PD) : List Value := encP (decP q)
instance : Inhabited PD := ⟨(z55, none, 0)⟩
theorem decs {W : World} {base : Nat} : ∀ ps : List PV, (∀ p ∈ ps, (Kd.int .u8).R 5 W base (fun _ => True) p.2 p.1.f3) → ∃ qs : List PD, qs.map decP = ps
 | [], _ => ⟨[], rfl⟩
 | p :: ps, h => by
  obtain ⟨qs, hq⟩ := decs ps (fun x hx => h x (List.mem_cons_of_mem _ hx))
  obtain ⟨A, c, e⟩ := Kd.R_slice (h p List.mem_cons_self)
  refine ⟨(p.1, A, c) :: qs, ?_⟩
  rw [List.map_cons, hq]
  congr 1
  exact Prod.ext rfl e.symm
def cmpP (x y : PD) : Int := if x.1.f0 < y.1.f0 then -1 else 1
theorem lt_cmpP (x y : PD) : ltOf cmpP x y = decide (x.1.f0 < y.1.f0) := by
 unfold ltOf cmpP
 by_cases h : x.1.f0 < y.1.f0 <;> simp [h]
theorem swo_cmpP : SWO (ltOf cmpP) where
 irrefl x := by rw [lt_cmpP]; simp
 trans x y z h1 h2 := by rw [lt_cmpP] at *; simp at *; omega
 ntrans x y z h1 h2 := by rw [lt_cmpP] at *; simp at *; omega
set_option maxHeartbeats 2000000 in
theorem cmpP_c (x y : PD) (W : World) : Calls Tryz.prog 57 #[.agg #[.int .u64 x.1.f0, .int .u64 x.1.f1, .int .i64 x.1.f2, .slice x.2.1 x.1.f3.length x.2.2], .agg #[.int .u64 y.1.f0, .int .u64 y.1.f1, .int .i64 y.1.f2, .slice y.2.1 y.1.f3.length y.2.2]] W fun e w' =>
 e = .returned (.int .i64 (cmpP x y)) ∧ ∃ q os', w' = grow (W.drewN q) os' := by
 by_cases h : x.1.f0 < y.1.f0
 ·have hc : cmpP x y = -1 := if_pos h
  rw [hc]
  have hb : decide (x.1.f0 < y.1.f0) = true := decide_eq_true h
  clear hc
  go_enter Tryz.func57, Tryz.ntmps57
  go_wp2
  go_ret
  exact ⟨rfl, 0, _, by rw [alloc_eq_grow, alloc_eq_grow, grow_grow]; rfl⟩
 ·have hc : cmpP x y = 1 := if_neg h
  rw [hc]
  have hb : decide (x.1.f0 < y.1.f0) = false := decide_eq_false h
  clear hc
  go_enter Tryz.func57, Tryz.ntmps57
  go_wp2
  go_ret
  exact ⟨rfl, 0, _, by rw [alloc_eq_grow, alloc_eq_grow, grow_grow]; rfl⟩
theorem perm_of_in {α : Type} [Inhabited α] {d : List α} {d' : Array α} (h : PermIn 0 d.toArray.size d.toArray d') : d'.toList.Perm d ∧ d'.toList.length = d.length := by
 obtain ⟨hs, _, hp⟩ := h
 have e1 : d'.extract 0 d.toArray.size = d' := by rw [← hs, Array.extract_size]
 rw [e1, Array.extract_size] at hp
 exact ⟨hp, by rw [Array.length_toList, hs]; rfl⟩
theorem sorted_of_in {α : Type} [Inhabited α] {lt : α → α → Bool} {d' : Array α} {n : Nat} (hn : d'.size = n) (h : SortedIn lt 0 n d') : d'.toList.Pairwise (fun x y => lt y x = false) := by
 rw [List.pairwise_iff_getElem]
 intro i j hi hj hij
 have hi' : i < d'.size := by simpa using hi
 have hj' : j < d'.size := by simpa using hj
 have := h i j (Nat.zero_le _) hij (by omega)
 rw [getElem!_pos d' i hi', getElem!_pos d' j hj'] at this
 simpa using this
theorem flat_dec (qs : List PD) : (qs.map decP).flatMap encP = qs.flatMap encD := by rw [List.flatMap_map]; rfl
theorem aggP : ∀ w, (isAgg 55).run Tryz.prog w = .ok true w := fun w => by kernel_rfl
theorem sizeP : ∀ w, (Go.sizeOf 55).run Tryz.prog w = .ok 4 w := fun w => by kernel_rfl
theorem sortSeg_c {W : World} {base : Nat} {v : Value} {ps : List PV} (h : PO W base v ps) (hl : ps.length < 4611686018427387904) :
 Calls Tryz.prog 56 #[v, .func (.func 57) #[] #[]] W fun e w' =>
  e = .returned (.tuple #[]) ∧ ∃ ps' : List PV, ps'.Perm ps ∧ ps'.Pairwise (fun p q => p.1.f0 ≤ q.1.f0) ∧ PO w' base v ps' ∧ W.grownBy w' v.ownBlock := by
 rcases h.own.2 with ⟨hv, h0⟩ | ⟨g, cap, cur, hv, hg, hb, hn, hcap, hsz, ht⟩
 ·have hp : ps = [] := List.eq_nil_of_length_eq_zero h0
  subst hp hv
  refine (AnyF.slices_SortFunc_none Tryz.sortSeg none 0 (.func (.func 57) #[] #[]) W).mono ?_
  rintro e w' ⟨he, rfl⟩
  exact ⟨he, [], .nil, .nil, h, grown_of_below (Below.refl _ _) _⟩
 ·obtain ⟨qs, hq⟩ := decs ps h.data
  have hql : qs.length = ps.length := by rw [← hq, List.length_map]
  have ho := h.own
  rw [hv, ← hq, flat_dec, List.length_map] at ho
  have hk : ∀ x : PD, (encD x).length = 4 := fun _ => rfl
  obtain ⟨hH, hgl⟩ := holds_row encD 4 hk (by decide) ho
  have hcall := AnyQ.slices_SortFunc Tryz.sortSeg 4 aggP sizeP encD hk (fun x u hu => by
   simp only [encD, encP, decP, List.mem_cons, List.not_mem_nil, or_false] at hu
   rcases hu with rfl | rfl | rfl | rfl <;> rfl) cmpP swo_cmpP 57 #[] g 0 cap qs.toArray W
   (enters_of Tryz.func57 (by kernel_rfl) rfl) (fun _ _ _ _ x y => cmpP_c x y _) hH hgl (by show qs.length < _; omega)
  have hcall2 : Calls Tryz.prog 56 #[v, .func (.func 57) #[] #[]] W fun e w' =>
   e = .returned (.tuple #[]) ∧ ∃ d' n os, PermIn 0 qs.toArray.size qs.toArray d' ∧ SortedIn (ltOf cmpP) 0 qs.toArray.size d' ∧ w' = sortWorldK encD 4 W g 0 n d' os := by
   rw [hv, ← hql]
   exact hcall
  refine hcall2.mono ?_
  rintro e w' ⟨he, d', n, os, hp, hs, rfl⟩
  obtain ⟨hperm, hlen⟩ := perm_of_in hp
  have hss := sorted_of_in hp.1 hs
  have hrow := sorted_row encD 4 hk (by decide) (m := n) (os := os) (d' := d'.toList) hlen ho
  rw [Array.toArray_toList] at hrow
  have hpm : (d'.toList.map decP).Perm ps := by rw [← hq]; exact hperm.map _
  refine ⟨he, d'.toList.map decP, hpm, ?_, ⟨?_, fun p hp => ?_, ?_⟩, ?_⟩
  ·rw [List.pairwise_map]
   refine hss.imp ?_
   intro x y hxy
   rw [lt_cmpP] at hxy
   have := of_decide_eq_false hxy
   show x.1.f0 ≤ y.1.f0
   omega
  ·rw [hv, flat_dec, List.length_map]
   have h1 := hrow.1
   rw [hlen, hql] at h1 ⊢
   exact h1
  ·have hp2 := hpm.mem_iff.1 hp
   exact Kd.R_mono (Kd.R_grown (h.far p hp2) hrow.2 (fun k hk => by have h2 := hk.2; rw [hv] at h2; exact h2)) (fun _ _ => trivial)
  ·refine (List.Perm.pairwise_iff ?_ hpm).2 h.apart
   intro x y hxy k hk hk2
   exact hxy k hk2 hk
  ·rw [hv]
   exact hrow.2
end Go.Proofs.YtbnlifldnjgpmaaGreatDoor.PWri
/- image's parts: what the program headers load. -/
set_option linter.unusedVariables false
set_option linter.unusedSimpArgs false
namespace Go.Proofs.YtbnlifldnjgpmaaGreatDoor.PWri
open Go.RowKit Go.Lib Go.Proofs.YtbnlifldnjgpmaaGreatDoorW.PrintWords Go.Proofs.YtbnlifldnjgpmaaGreatDoorW.PrintLast
/-- The world of the walk of parts: the receiver's box stands, and the parts so far. -/
structure PS (w : World) (F : Value) (W : World) (v : Value) (ps : List PV) : Prop where
 fs : FS w F W
 po : PO W w.heap.size v ps
theorem PS.below {w W : World} {F v : Value} {ps : List PV} (h : PS w F W v ps) : Below w.heap.size w W := h.fs.below
theorem PS.cell {w W : World} {F v : Value} {ps : List PV} (h : PS w F W v ps) : W.cell? ⟨w.heap.size, 0, none⟩ = some F := h.fs.cell
theorem PS.step {w W W' : World} {F v : Value} {ps : List PV} (h : PS w F W v ps) (hd : Below W.heap.size W W') : PS w F W' v ps := ⟨h.fs.step hd, h.po.below hd⟩
theorem PS.drew {w W : World} {F v : Value} {ps : List PV} (h : PS w F W v ps) : PS w F W.drew v ps := h.step (below_drew (Below.refl _ _))
theorem PS.drewN {w W : World} {F v : Value} {ps : List PV} (h : PS w F W v ps) (n : Nat) : PS w F (W.drewN n) v ps := h.step (bDn (Below.refl _ _) n)
theorem PS.alloc {w W : World} {F v : Value} {ps : List PV} (h : PS w F W v ps) (o : Obj) : PS w F (W.alloc o) v ps := h.step ((Below.refl _ W).alloc (Nat.le_refl _) _)
theorem PS.app {w W w1 : World} {F v v1 dv : Value} {ps : List PV} {s : S55} (h : PS w F W v ps) (hd : (Kd.int .u8).R 5 W w.heap.size (fun _ => True) dv s.f3)
 (hn : ∀ p ∈ ps, ∀ k, p.2.ownBlock = some k → dv.ownBlock ≠ some k)
 (ho : w1.ownsRow w.heap.size 55 4 v1 (ps.length + 1) (ps.flatMap encP ++ encP (s, dv))) (hb : Below w.heap.size w w1) (hg : W.grownBy w1 v.ownBlock) : PS w F w1 v1 (ps ++ [(s, dv)]) :=
 ⟨⟨hb, blk_grown h.fs.box hg (own_ne h.po.own h.fs.box (by decide))⟩, h.po.app hd hn ho hg⟩
theorem one4 {a b c : Value} {dv : Value} {n : Nat} (h : ∃ A c, dv = .slice A n c) (ha : a.oneCell' = true := by rfl) (hb : b.oneCell' = true := by rfl) (hc : c.oneCell' = true := by rfl) : ∀ u ∈ [a, b, c, dv], u.oneCell' = true := by
 obtain ⟨A, cc, rfl⟩ := h
 intro u hu
 simp only [List.mem_cons, List.not_mem_nil, or_false] at hu
 rcases hu with rfl | rfl | rfl | rfl
 ·exact ha
 ·exact hb
 ·exact hc
 ·rfl
set_option maxHeartbeats 16000000 in
set_option maxRecDepth 1000000 in
theorem parts_c (l : List Int) (A : Option Addr) (c : Nat) (h : Bytes l) (hl : l.length ≤ 1099511627776) (hc : l.length ≤ c) (h64 : 64 ≤ l.length) (hn : rdN l 56 2 ≤ 16) (hr : rdN l 32 8 + 56 * rdN l 56 2 ≤ (l.length : Int)) (w : World) (hC : Kd.C (Kd.int .u8) w A l.length l) :
 Calls Tryz.prog 28 #[.agg #[.slice A l.length c]] w (Out (partsS l (rdN l 32 8) (rdN l 56 2).toNat 0 []) (fun out v W => ∃ ps qs : List PV, qs.map (·.1) = out ∧ ps.Perm qs ∧ ps.Pairwise (fun p q => p.1.f0 ≤ q.1.f0) ∧ PO W w.heap.size v ps) w) := by
 have HC := Lib.hid hC
 have HB := Lib.hid h
 have b56 := rd2 h 56
 have b32 := (rd8 h 32).1
 have hlen : (64 : Int) ≤ (l.length : Int) := by omega
 obtain ⟨o, ho⟩ : ∃ o, partsS l (rdN l 32 8) (rdN l 56 2).toNat 0 [] = o := ⟨_, rfl⟩
 rw [ho]
 have HO := Lib.hid ho
 have HS : Hid (FS w (.slice A l.length c) (w.alloc (.cells #[.slice A l.length c] 59))) := Lib.hid (FS.start w _)
 have hfc := (Lib.hid HS.out.cell).out
 clear hC h ho
 go_enter Tryz.func28, Tryz.ntmps28
 go_wp2_with (first | (go_at_call 52; refine (half_i HB.out hl hc _ (by omega) (by omega) _ (Kd.C_below HC.out HS.out.below)).mono ?_; rintro e w' ⟨he, ⟨hv0, hv1⟩, hd⟩; subst he; have hS2 := HS.out.step hd; clear HS hfc hd; have HS := Lib.hid hS2; have hfc := (Lib.hid HS.out.cell).out; clear hS2))
 have HS2 : Hid (PS w (.slice A l.length c) w' (.slice none 0 0) []) := Lib.hid ⟨HS.out, PO.nil _ _⟩
 clear hfc HS
 go_loopg [3, 15] (rdN l 56 2).toNat (fun gm v3 v15 wx => ∃ (i : Int) (A3 : Option Addr) (c3 : Nat) (ps : List PV), v15 = .int .i64 i ∧ v3 = .slice A3 ps.length c3 ∧ 0 ≤ i ∧ i ≤ rdN l 56 2 ∧ (ps.length : Int) ≤ i ∧ Hid ((gm : Int) + i = rdN l 56 2) ∧ Hid (PS w (.slice A l.length c) wx v3 ps) ∧ Hid (partsS l (rdN l 32 8) gm i (ps.map (·.1)) = o))
 case atStart => exact ⟨0, none, 0, [], rfl, rfl, by omega, by omega, by simp, Lib.hid (by omega), HS2, HO⟩
 case round =>
  clear HS2 HO
  obtain ⟨i, A3, c3, ps, rfl, rfl, hi0, hi2, hpl, HI1, HS, HX⟩ := hrel
  have hfc := (Lib.hid HS.out.cell).out
  by_cases hi : i < rdN l 56 2
  ·obtain ⟨gm, rfl⟩ : ∃ k, gk = k + 1 := ⟨gk - 1, by have := HI1.out; omega⟩
   go_upto_region 6 with (first | (go_at_call 27; refine (double_i HB.out hl hc _ (by omega) (by omega) _ (Kd.C_below HC.out HS.out.below)).mono ?_; rintro e w' ⟨he, ⟨hv0, hv1⟩, hd⟩; subst he; have hS2 := HS.out.step hd; clear HS hfc hd; have HS := Lib.hid hS2; have hfc := (Lib.hid HS.out.cell).out; clear hS2))
   obtain ⟨hh, hhe⟩ : ∃ hh, rdN l 32 8 + 56 * i = hh := ⟨_, rfl⟩
   have hh0 : 0 ≤ hh := by omega
   have hh1 : hh + 56 ≤ (l.length : Int) := by omega
   have hX := HX.out
   rw [partsS, hhe] at hX
   clear HX
   have HX := Lib.hid hX
   rw [hhe]
   have HHE := Lib.hid hhe
   clear hX hhe
   go_cut [6, 7] (fun s6 s7 wx => s6 = .int .u64 (rdN l (hh + 32) 8) ∧ s7 = .int .u64 (rdN l (hh + 40) 8) ∧ Hid (PS w (.slice A l.length c) wx (.slice A3 ps.length c3) ps))
   case first =>
    have E1 : IntKind.i64.wrap (hh + 32) = hh + 32 := by rw [IntKind.wrap_i64]; omega
    have E2 : IntKind.i64.wrap (hh + 40) = hh + 40 := by rw [IntKind.wrap_i64]; omega
    have hS2 := HS.out.drew; clear HS hfc; have HS := Lib.hid hS2; have hfc := (Lib.hid HS.out.cell).out; clear hS2
    go_region_held2 (fun w' => w'.cell? ⟨w.heap.size, 0, none⟩ = some (.slice A l.length c)) (first | exact hfc | go_keep) (first | (go_at_call 27; refine (double_i HB.out hl hc _ (by omega) (by omega) _ (Kd.C_below HC.out HS.out.below)).mono ?_; rintro e w' ⟨he, ⟨hv0, hv1⟩, hd⟩; subst he; have hS2 := HS.out.step hd; clear HS hfc hd; have HS := Lib.hid hS2; have hfc := (Lib.hid HS.out.cell).out; clear hS2))
    all_goals (go_wp2; go_meet; exact ⟨rfl, rfl, HS⟩)
   case rest =>
    clear HS hfc
    obtain ⟨rfl, rfl, HS⟩ := hcut
    have hfc := (Lib.hid HS.out.cell).out
    obtain ⟨kp, hkp⟩ : ∃ kp, rdN l (hh + 32) 8 = kp := ⟨_, rfl⟩
    obtain ⟨sz, hsz⟩ : ∃ sz, rdN l (hh + 40) 8 = sz := ⟨_, rfl⟩
    have hkp0 : 0 ≤ kp ∧ kp < 18446744073709551616 := hkp ▸ rd8 HB.out (hh + 32)
    have hsz0 : 0 ≤ sz ∧ sz < 18446744073709551616 := hsz ▸ rd8 HB.out (hh + 40)
    have HKZ := Lib.hid (And.intro hkp0 hsz0)
    have hX := HX.out
    rw [partS, hkp, hsz] at hX
    clear HX
    have HX := Lib.hid hX
    rw [hkp, hsz]
    have HKP := Lib.hid hkp
    have HSZ := Lib.hid hsz
    clear hX hkp hsz hkp0 hsz0
    go_upto_region 7 with fail
    go_cut [43] (fun s43 wx => s43 = .bool (decide (rdN l hh 4 ≠ 1 ∨ kp = 0 ∧ sz = 0)) ∧ Hid (PS w (.slice A l.length c) wx (.slice A3 ps.length c3) ps))
    case first =>
     by_cases k1 : rdN l hh 4 = 1
     ·have k1b : (rdN l hh 4 != 1) = false := by simp [k1]
      by_cases k2 : kp = 0
      ·subst k2
       by_cases k3 : sz = 0
       ·subst k3
        have HB1 : Hid (decide (rdN l hh 4 ≠ 1 ∨ (0 : Int) = 0 ∧ (0 : Int) = 0) = true) := Lib.hid (decide_eq_true (.inr ⟨rfl, rfl⟩))
        clear k1
        go_wp2_with (first | (go_at_call 53; refine (word_i HB.out hl hc _ (by omega) (by omega) _ (Kd.C_below HC.out HS.out.below)).mono ?_; rintro e w' ⟨he, ⟨hv0, hv1⟩, hd⟩; subst he; have hS2 := HS.out.step hd; clear HS hfc hd; have HS := Lib.hid hS2; have hfc := (Lib.hid HS.out.cell).out; clear hS2))
        go_meet
        exact ⟨by rw [HB1.out], HS⟩
       ·have k3b : (sz == 0) = false := by simp [k3]
        have HB1 : Hid (decide (rdN l hh 4 ≠ 1 ∨ (0 : Int) = 0 ∧ sz = 0) = false) := Lib.hid (decide_eq_false (by rintro (h | ⟨_, h⟩); exact h k1; exact k3 h))
        clear k1 k3
        go_wp2_with (first | (go_at_call 53; refine (word_i HB.out hl hc _ (by omega) (by omega) _ (Kd.C_below HC.out HS.out.below)).mono ?_; rintro e w' ⟨he, ⟨hv0, hv1⟩, hd⟩; subst he; have hS2 := HS.out.step hd; clear HS hfc hd; have HS := Lib.hid hS2; have hfc := (Lib.hid HS.out.cell).out; clear hS2))
        go_meet
        exact ⟨by rw [HB1.out], HS⟩
      ·have k2b : (kp == 0) = false := by simp [k2]
       have HB1 : Hid (decide (rdN l hh 4 ≠ 1 ∨ kp = 0 ∧ sz = 0) = false) := Lib.hid (decide_eq_false (by rintro (h | ⟨h, _⟩); exact h k1; exact k2 h))
       clear k1 k2
       go_wp2_with (first | (go_at_call 53; refine (word_i HB.out hl hc _ (by omega) (by omega) _ (Kd.C_below HC.out HS.out.below)).mono ?_; rintro e w' ⟨he, ⟨hv0, hv1⟩, hd⟩; subst he; have hS2 := HS.out.step hd; clear HS hfc hd; have HS := Lib.hid hS2; have hfc := (Lib.hid HS.out.cell).out; clear hS2))
       go_meet
       exact ⟨by rw [HB1.out], HS⟩
     ·have k1b : (rdN l hh 4 != 1) = true := by simp [k1]
      have HB1 : Hid (decide (rdN l hh 4 ≠ 1 ∨ kp = 0 ∧ sz = 0) = true) := Lib.hid (decide_eq_true (.inl k1))
      clear k1
      go_wp2_with (first | (go_at_call 53; refine (word_i HB.out hl hc _ (by omega) (by omega) _ (Kd.C_below HC.out HS.out.below)).mono ?_; rintro e w' ⟨he, ⟨hv0, hv1⟩, hd⟩; subst he; have hS2 := HS.out.step hd; clear HS hfc hd; have HS := Lib.hid hS2; have hfc := (Lib.hid HS.out.cell).out; clear hS2))
      go_meet
      exact ⟨by rw [HB1.out], HS⟩
    case rest =>
     clear HS hfc
     obtain ⟨rfl, HS⟩ := hcut
     have hfc := (Lib.hid HS.out.cell).out
     by_cases hskip : rdN l hh 4 ≠ 1 ∨ kp = 0 ∧ sz = 0
     ·have hX := HX.out
      rw [if_pos hskip] at hX
      have hX2 : partsS l (rdN l 32 8) gm (i + 1) (ps.map (·.1)) = o := hX
      clear HX hX
      have HX := Lib.hid hX2
      clear hX2
      rw [decide_eq_true hskip]
      clear hskip
      go_wp2
      go_roundg gm
      case measure => omega
      case rel => exact ⟨i + 1, A3, c3, ps, rfl, rfl, by omega, by omega, by omega, Lib.hid (by have := HI1.out; omega), HS, HX⟩
     ·have hX := HX.out
      rw [if_neg hskip, segS] at hX
      clear HX
      have HX := Lib.hid hX
      clear hX
      rw [decide_eq_false hskip]
      clear hskip
      go_upto_region 8 with fail
      go_cut [8, 9, 10] (fun s8 s9 s10 wx => s8 = .int .i64 (rdN l (hh + 4) 4) ∧ s9 = .int .u64 (rdN l (hh + 8) 8) ∧ s10 = .int .u64 (rdN l (hh + 24) 8) ∧ Hid (PS w (.slice A l.length c) wx (.slice A3 ps.length c3) ps))
      case first =>
       have E1 : IntKind.i64.wrap (hh + 4) = hh + 4 := by rw [IntKind.wrap_i64]; omega
       have E2 : IntKind.i64.wrap (hh + 8) = hh + 8 := by rw [IntKind.wrap_i64]; omega
       have E3 : IntKind.i64.wrap (hh + 24) = hh + 24 := by rw [IntKind.wrap_i64]; omega
       have hS2 := HS.out.drew; clear HS hfc; have HS := Lib.hid hS2; have hfc := (Lib.hid HS.out.cell).out; clear hS2
       go_region_held2 (fun w' => w'.cell? ⟨w.heap.size, 0, none⟩ = some (.slice A l.length c)) (first | exact hfc | go_keep) (first | (go_at_call 27; refine (double_i HB.out hl hc _ (by omega) (by omega) _ (Kd.C_below HC.out HS.out.below)).mono ?_; rintro e w' ⟨he, ⟨hv0, hv1⟩, hd⟩; subst he; have hS2 := HS.out.step hd; clear HS hfc hd; have HS := Lib.hid hS2; have hfc := (Lib.hid HS.out.cell).out; clear hS2) | (go_at_call 53; refine (word_i HB.out hl hc _ (by omega) (by omega) _ (Kd.C_below HC.out HS.out.below)).mono ?_; rintro e w' ⟨he, ⟨hv0, hv1⟩, hd⟩; subst he; have hS2 := HS.out.step hd; clear HS hfc hd; have HS := Lib.hid hS2; have hfc := (Lib.hid HS.out.cell).out; clear hS2))
       all_goals (go_wp2; go_meet; exact ⟨rfl, rfl, rfl, HS⟩)
      case rest =>
       clear HS hfc
       obtain ⟨rfl, rfl, rfl, HS⟩ := hcut
       have hfc := (Lib.hid HS.out.cell).out
       obtain ⟨fl, hfl⟩ : ∃ fl, rdN l (hh + 4) 4 = fl := ⟨_, rfl⟩
       obtain ⟨fr, hfr⟩ : ∃ fr, rdN l (hh + 8) 8 = fr := ⟨_, rfl⟩
       obtain ⟨ad, had⟩ : ∃ ad, rdN l (hh + 24) 8 = ad := ⟨_, rfl⟩
       have hfl0 : 0 ≤ fl := hfl ▸ (rd4 HB.out (hh + 4)).1
       have hfr0 : 0 ≤ fr := hfr ▸ (rd8 HB.out (hh + 8)).1
       have had0 : 0 ≤ ad := had ▸ (rd8 HB.out (hh + 24)).1
       have hX := HX.out
       simp only [hfl, hfr, had, HKP.out, HSZ.out, andThen_chk, andThen_ok] at hX
       clear HX
       have HX := Lib.hid hX
       rw [hfl, hfr, had]
       clear hX hfl hfr had
       go_upto_region 13 with (first | (go_at_call 25; refine (must_c _ _ _ _).mono ?_; rintro e w' (⟨hb, he, hw⟩ | ⟨hb, he, hw⟩) <;> have hw := hw.symm <;> subst he <;> subst hw; rotate_left; (refine ⟨rfl, Out.no (HX.out.symm.trans (chk_no hb)) HS.out.below⟩); have hX2 := HX.out; rw [chk_ok hb] at hX2; clear HX; have HX := Lib.hid hX2; have HBB := Lib.hid hb; clear hX2 hb) | (go_at_call 54; refine (room_c hl hc _ _ (by omega) _ (Kd.C_below HC.out HS.out.below)).mono ?_; rintro e w' ⟨he, hd⟩; subst he; have hS2 := HS.out.step hd; clear HS hfc hd; have HS := Lib.hid hS2; have hfc := (Lib.hid HS.out.cell).out; clear hS2) | (go_at_call 41; refine (image_fits.calls _ _ (fitsB _ _) _ rfl).mono ?_; rintro e w' ⟨he, hd⟩; subst he; have hS2 := HS.out.step hd.below; clear HS hfc hd; have HS := Lib.hid hS2; have hfc := (Lib.hid HS.out.cell).out; clear hS2))
       have HRM : Hid (roomS l fr kp = true) := by assumption
       have HFT : Hid (fitsB ad sz = true) := by assumption
       obtain ⟨rr, hrr⟩ : ∃ rr, partsS l (rdN l 32 8) gm (i + 1) (ps.map (·.1) ++ [⟨ad, sz, turnS fl, (l.drop fr.toNat).take kp.toNat⟩]) = rr := ⟨_, rfl⟩
       have hX := HX.out
       rw [hrr] at hX
       clear HX
       have HX : Hid (chk (((ps.map (·.1)).drop 0).all fun s => apartB s ad sz) (hh + 24) 24 rr = o) := Lib.hid hX
       have HRR := Lib.hid hrr
       clear hX hrr
       obtain ⟨wo, hwo⟩ : ∃ wo : World, wo = wr := ⟨_, rfl⟩
       clear hwo
       go_wp2
       go_loopg [82] ps.length (fun gj v82 wx => ∃ j : Nat, v82 = .int .i64 (j : Int) ∧ j ≤ ps.length ∧ Hid (gj + j = ps.length) ∧ Hid (PS w (.slice A l.length c) wx (.slice A3 ps.length c3) ps) ∧ Hid (chk (((ps.map (·.1)).drop j).all fun s => apartB s ad sz) (hh + 24) 24 rr = o))
       case atStart => exact ⟨0, rfl, by omega, Lib.hid (by omega), HS, HX⟩
       case round =>
        clear HS hfc HX
        obtain ⟨j, rfl, hj, HJ, HS, HX⟩ := hrel
        have hfc := (Lib.hid HS.out.cell).out
        by_cases hjl : j < ps.length
        ·obtain ⟨gj, rfl⟩ : ∃ k, gk = k + 1 := ⟨gk - 1, by have := HJ.out; omega⟩
         obtain ⟨hC5, _, hlc5⟩ := HS.out.po.C
         have hb5 : (ps.length : Int) ≤ 9223372036854775807 := by have := hC5.2.1; omega
         obtain ⟨ad1, A4, c4, eA, x0, x1, x2, x3, hl3, hC3⟩ := at_T55 hC5 (j : Int) (by omega) (by omega)
         subst eA
         rw [Int.toNat_natCast] at x0 x1 x2 x3
         have hd : (ps.map (·.1)).drop j = rd_T55 (ps.map (·.1)) (j : Int) :: (ps.map (·.1)).drop (j + 1) := by
          unfold rd_T55
          rw [Int.toNat_natCast, List.getD_eq_getElem?_getD, List.getElem?_eq_getElem (by rw [List.length_map]; exact hjl)]
          exact List.drop_eq_getElem_cons (by rw [List.length_map]; exact hjl)
         obtain ⟨s, hs⟩ : ∃ s, rd_T55 (ps.map (·.1)) (j : Int) = s := ⟨_, rfl⟩
         rw [hs] at x0 x1 x2 x3 hl3 hC3 hd
         have hX := HX.out
         rw [hd, List.all_cons, chk_and, apartB] at hX
         clear HX
         have hji : (j : Int) < (ps.length : Int) := by omega
         have hj0 : (0 : Int) ≤ (j : Int) := Int.natCast_nonneg _
         clear hd hs hC3 hC5
         by_cases h1 : sumU s.f0 s.f1 < ad
         ·rw [decide_eq_true h1, Bool.true_or] at hX
          have HX := Lib.hid hX
          unfold sumU at h1
          have h1b : decide (IntKind.u64.wrap (s.f0 + IntKind.u64.wrap (s.f1 - 1)) < ad) = true := decide_eq_true h1
          clear hX h1
          go_wp2_with (go_at_call 25; refine (must_c _ _ _ _).mono ?_; rintro e w' (⟨hb, he, hw⟩ | ⟨hb, he, hw⟩) <;> have hw := hw.symm <;> subst he <;> subst hw; rotate_left; (refine ⟨rfl, Out.no (HX.out.symm.trans (chk_no hb)) (HS.out.alloc _).below⟩); have hX2 := HX.out; rw [chk_ok hb] at hX2; clear HX hb; have HX := Lib.hid hX2; clear hX2)
          go_roundg gj
          case measure => omega
          case rel => exact ⟨j + 1, by go_num, by omega, Lib.hid (by have := HJ.out; omega), Lib.hid (HS.out.alloc _), HX⟩
         ·rw [decide_eq_false h1, Bool.false_or] at hX
          have HX := Lib.hid hX
          unfold sumU at h1
          have h1b : decide (IntKind.u64.wrap (s.f0 + IntKind.u64.wrap (s.f1 - 1)) < ad) = false := decide_eq_false h1
          unfold sumU at hX
          clear HX
          have HX := Lib.hid hX
          clear hX h1
          go_wp2_with (go_at_call 25; refine (must_c _ _ _ _).mono ?_; rintro e w' (⟨hb, he, hw⟩ | ⟨hb, he, hw⟩) <;> have hw := hw.symm <;> subst he <;> subst hw; rotate_left; (refine ⟨rfl, Out.no (HX.out.symm.trans (chk_no hb)) (HS.out.alloc _).below⟩); have hX2 := HX.out; rw [chk_ok hb] at hX2; clear HX hb; have HX := Lib.hid hX2; clear hX2)
          go_roundg gj
          case measure => omega
          case rel => exact ⟨j + 1, by go_num, by omega, Lib.hid (by have := HJ.out; omega), Lib.hid (HS.out.alloc _), HX⟩
        ·have hje : j = ps.length := by omega
         have hX := HX.out
         rw [List.drop_eq_nil_of_le (by rw [List.length_map]; omega)] at hX
         have hX2 : rr = o := hX
         clear HX hX
         have HX := Lib.hid hX2
         clear hX2
         subst hje
         go_wp2
         obtain ⟨hrm1, hrm2⟩ := room_le HRM.out
         have hkp0 := HKZ.out.1.1
         have E1 : IntKind.u64.wrap (fr + kp) = fr + kp := u64n (by omega) (by omega)
         obtain ⟨i0, hi0', _, hsz5, _⟩ := info_parts info5
         obtain ⟨A5, hcut, hA5, hC5⟩ := print_mid_of (P := Tryz.prog) (Value.int .u8) 0 22 5 .u64 .u64 Tryz.underlying22 hi0' hsz5 A c l fr (fr + kp) hfr0 (by omega) hrm2 hc
         obtain ⟨D, hD⟩ : ∃ D, (l.take (fr + kp).toNat).drop fr.toNat = D := ⟨_, rfl⟩
         rw [hD] at hcut hA5 hC5
         have HD := Lib.hid hD
         have HA5 : Hid (∀ W : World, (Kd.int .u8).C W A l.length l → (Kd.int .u8).C W A5 D.length D) := Lib.hid (fun W hC => Kd.C_of_reads (h1 := fun _ => rfl) (hA5 W (Kd.reads_of_C (h1 := fun _ => rfl) hC)))
         have hdl : D.length ≤ l.length := by rw [← hD, List.length_drop, List.length_take]; omega
         have HR0 := Lib.hid HRM.out
         clear hD hA5 hC5 hi0' hsz5 hj HJ hjl hrm1 hrm2
         have hS2 := HS.out.drew; clear HS hfc; have HS := Lib.hid hS2; have hfc := (Lib.hid HS.out.cell).out; clear hS2
         go_region_held3 (fun w' => w'.cell? ⟨w.heap.size, 0, none⟩ = some (.slice A l.length c)) (first | exact hfc | go_keep)
          ((first | (go_at_call 47; refine (image_turned.calls _ (turnS _) _ rfl).mono ?_; rintro e w' ⟨he, hd⟩; subst he; have hS2 := HS.out.step hd.below; clear HS hfc hd; have HS := Lib.hid hS2; have hfc := (Lib.hid HS.out.cell).out; clear hS2) | (refine Kd.R_append_rows_step (Kd.int .u8) (w0 := w) w.heap.size (by rfl) (.const (.slice none 0 0)) (.tmp 118) 22 5 (.int .u8 0) 1 (by rfl) Tryz.underlying22 info5 (by rfl) (by decide) (by omega) (.slice none 0 0) ([] : List Int) D A5 D.length _ (fun _ => True) (fun _ => False) (by rfl) (by rfl) (Kd.R_nil _ _ _ _ _) (HA5.out _ (Kd.C_below HC.out HS.out.below)) (fun _ _ h => h) (fun _ h => h.elim) (fun _ _ => trivial) HS.out.below HS.out.below.size (by simp only [List.length_nil]; omega) ?_; intro dv w1 hD1 hb1 hg1 hat1; rw [List.nil_append] at hD1; obtain ⟨A6, c6, e6⟩ := Kd.R_slice hD1; subst e6; have HAP := Lib.hid (HS.out.po.new_apart hat1); have HDV := Lib.hid hD1; have hS2 := HS.out.step (below_grown_none hg1); clear HS hfc hD1 hb1 hg1 hat1; have HS := Lib.hid hS2; have hfc := (Lib.hid HS.out.cell).out; clear hS2) | (refine step_append_cells (w0 := w) w.heap.size (by rfl) (.tmp 107) (.tmp 121) 25 55 (.agg #[.int .u64 0, .int .u64 0, .int .i64 0, .slice none 0 0]) 4 48 (by rfl) Tryz.underlying25 info55 (by rfl) (by decide) (by omega) (.slice A3 ps.length c3) ps.length (ps.flatMap encP) [.int .u64 ad, .int .u64 sz, .int .i64 (turnS fl), .slice A6 D.length c6] (by rfl) (by rfl) (by rfl) (one4 ⟨_, _, rfl⟩) HS.out.po.own HS.out.below HS.out.below.size (by omega) ?_; intro v9 w9 hown9 hb9 hg9 hat9; have hS2 := HS.out.app (s := ⟨ad, sz, turnS fl, D⟩) HDV.out HAP.out hown9 hb9 hg9; clear HS hfc HDV HAP hown9 hb9 hg9 hat9; obtain ⟨A9, c9, e9⟩ := hS2.po.slice; subst e9; have HS := Lib.hid hS2; have hfc := (Lib.hid HS.out.cell).out; clear hS2)))
         go_wp2
         go_roundg gm
         case measure => omega
         case rel =>
          have hdd : D = (l.drop fr.toNat).take kp.toNat := by
           rw [← HD.out, List.drop_take, show (fr + kp).toNat - fr.toNat = kp.toNat by omega]
          refine ⟨i + 1, A9, c9, ps ++ [(⟨ad, sz, turnS fl, D⟩, .slice A6 D.length c6)], rfl, by rw [List.length_append]; rfl, by omega, by omega, by rw [List.length_append, List.length_singleton]; omega, Lib.hid (by have := HI1.out; omega), ?_, ?_⟩
          ·have h9 := HS.out
           rw [List.length_append, List.length_singleton] at h9
           exact Lib.hid h9
          ·refine Lib.hid ?_
           rw [List.map_append, List.map_cons, List.map_nil, ← HX.out, ← HRR.out, hdd]
  ·have hX := HX.out
   rw [show gk = 0 by have := HI1.out; omega, partsS] at hX
   clear HX
   have HX := Lib.hid hX
   have CA := Lib.hid (fun W (hP : PO W w.heap.size (.slice A3 ps.length c3) ps) => sortSeg_c hP (by omega))
   clear hX
   go_wp2_with (go_at_call 56; refine (CA.out _ HS.out.po).mono ?_; rintro e w1 ⟨he, ps', hpm, hso, hpo, hg⟩; subst he; have HR := Lib.hid (And.intro hpm (And.intro hso hpo)); have HBW := Lib.hid (HS.out.below.grown hg HS.out.below.size (own_base HS.out.po.own)); clear hpm hso hpo hg)
   go_ret
   exact Out.yes HX.out.symm ⟨_, ps, rfl, HR.out.1, HR.out.2.1, HR.out.2.2⟩ HBW.out
end Go.Proofs.YtbnlifldnjgpmaaGreatDoor.PWri
/- image's table: the place of the table of names. -/
set_option linter.unusedVariables false
set_option linter.unusedSimpArgs false
namespace Go.Proofs.YtbnlifldnjgpmaaGreatDoor.PWri
open Go.RowKit Go.Lib Go.Proofs.YtbnlifldnjgpmaaGreatDoorW.PrintWords Go.Proofs.YtbnlifldnjgpmaaGreatDoorW.PrintLast
def optV : Option Int → Value
 | none => .tuple #[.int .i64 0, .bool false]
 | some s => .tuple #[.int .i64 s, .bool true]
set_option maxHeartbeats 16000000 in
set_option maxRecDepth 1000000 in
theorem table_c (l : List Int) (A : Option Addr) (c : Nat) (h : Bytes l) (hl : l.length ≤ 1099511627776) (hc : l.length ≤ c) (h64 : 64 ≤ l.length) (w : World) (hC : Kd.C (Kd.int .u8) w A l.length l) :
 Calls Tryz.prog 58 #[.agg #[.slice A l.length c]] w (Out (tableS l) (fun o v _ => v = optV o) w) := by
 have HC := Lib.hid hC
 have HB := Lib.hid h
 obtain ⟨o, ho⟩ : ∃ o, tableS l = o := ⟨_, rfl⟩
 rw [ho]
 have HS : Hid (FS w (.slice A l.length c) (w.alloc (.cells #[.slice A l.length c] 59))) := Lib.hid (FS.start w _)
 have hfc := (Lib.hid HS.out.cell).out
 unfold tableS at ho
 have b60 := rd2 h 60
 have b40 := (rd8 h 40).1
 by_cases h60 : rdN l 60 2 = 0
 ·rw [if_pos (.inl h60)] at ho
  have HO := Lib.hid ho
  clear hC h ho
  go_enter Tryz.func58, Tryz.ntmps58
  go_wp2_with (first | (go_at_call 52; refine (half_i HB.out hl hc _ (by omega) (by omega) _ (Kd.C_below HC.out HS.out.below)).mono ?_; rintro e w' ⟨he, ⟨hv0, hv1⟩, hd⟩; subst he; have hS2 := HS.out.step hd; clear HS hfc hd; have HS := Lib.hid hS2; have hfc := (Lib.hid HS.out.cell).out; clear hS2))
  go_ret2
  exact Out.yes HO.out.symm rfl HS.out.below
 ·have h60b : (rdN l 60 2 == 0) = false := by simp [h60]
  by_cases h40 : rdN l 40 8 = 0
  ·rw [if_pos (.inr h40)] at ho
   have HO := Lib.hid ho
   clear hC h ho
   go_enter Tryz.func58, Tryz.ntmps58
   go_wp2_with (first | (go_at_call 52; refine (half_i HB.out hl hc _ (by omega) (by omega) _ (Kd.C_below HC.out HS.out.below)).mono ?_; rintro e w' ⟨he, ⟨hv0, hv1⟩, hd⟩; subst he; have hS2 := HS.out.step hd; clear HS hfc hd; have HS := Lib.hid hS2; have hfc := (Lib.hid HS.out.cell).out; clear hS2) | (go_at_call 27; refine (double_i HB.out hl hc _ (by omega) (by omega) _ (Kd.C_below HC.out HS.out.below)).mono ?_; rintro e w' ⟨he, ⟨hv0, hv1⟩, hd⟩; subst he; have hS2 := HS.out.step hd; clear HS hfc hd; have HS := Lib.hid hS2; have hfc := (Lib.hid HS.out.cell).out; clear hS2))
   go_ret2
   exact Out.yes HO.out.symm rfl HS.out.below
  ·have h40b : (rdN l 40 8 == 0) = false := by simp [h40]
   rw [if_neg (by omega)] at ho
   have HX := Lib.hid ho
   have hlen : (64 : Int) ≤ (l.length : Int) := by omega
   clear hC h ho
   go_enter Tryz.func58, Tryz.ntmps58
   go_wp2_with (first | (go_at_call 52; refine (half_i HB.out hl hc _ (by omega) (by omega) _ (Kd.C_below HC.out HS.out.below)).mono ?_; rintro e w' ⟨he, ⟨hv0, hv1⟩, hd⟩; subst he; have hS2 := HS.out.step hd; clear HS hfc hd; have HS := Lib.hid hS2; have hfc := (Lib.hid HS.out.cell).out; clear hS2) | (go_at_call 27; refine (double_i HB.out hl hc _ (by omega) (by omega) _ (Kd.C_below HC.out HS.out.below)).mono ?_; rintro e w' ⟨he, ⟨hv0, hv1⟩, hd⟩; subst he; have hS2 := HS.out.step hd; clear HS hfc hd; have HS := Lib.hid hS2; have hfc := (Lib.hid HS.out.cell).out; clear hS2) | (go_at_call 25; refine (must_c _ _ _ _).mono ?_; rintro e w' (⟨hb, he, hw⟩ | ⟨hb, he, hw⟩) <;> have hw := hw.symm <;> subst he <;> subst hw; rotate_left; (refine ⟨rfl, Out.no (HX.out.symm.trans (chk_no hb)) HS.out.below⟩); have hX2 := HX.out; rw [chk_ok hb] at hX2; clear HX hb; have HX := Lib.hid hX2; clear hX2))
   have hv60 := b60
   have E1 : IntKind.i64.wrap (64 * rdN l 60 2) = 64 * rdN l 60 2 := by rw [IntKind.wrap_i64]; omega
   have E2 : IntKind.u64.wrap (64 * rdN l 60 2) = 64 * rdN l 60 2 := u64n (by omega) (by omega)
   have hS2 := HS.out.drew; clear HS hfc; have HS := Lib.hid hS2; have hfc := (Lib.hid HS.out.cell).out; clear hS2
   go_region_held2 (fun w' => w'.cell? ⟨w.heap.size, 0, none⟩ = some (.slice A l.length c)) (first | exact hfc | go_keep) (first | (go_at_call 27; refine (double_i HB.out hl hc _ (by omega) (by omega) _ (Kd.C_below HC.out HS.out.below)).mono ?_; rintro e w' ⟨he, ⟨hv0, hv1⟩, hd⟩; subst he; have hS2 := HS.out.step hd; clear HS hfc hd; have HS := Lib.hid hS2; have hfc := (Lib.hid HS.out.cell).out; clear hS2) | (go_at_call 54; refine (room_c hl hc _ _ (by omega) _ (Kd.C_below HC.out HS.out.below)).mono ?_; rintro e w' ⟨he, hd⟩; subst he; have hS2 := HS.out.step hd; clear HS hfc hd; have HS := Lib.hid hS2; have hfc := (Lib.hid HS.out.cell).out; clear hS2) | (go_at_call 25; refine (must_c _ _ _ _).mono ?_; rintro e w' (⟨hb, he, hw⟩ | ⟨hb, he, hw⟩) <;> have hw := hw.symm <;> subst he <;> subst hw; rotate_left; (refine ⟨rfl, Out.no (HX.out.symm.trans (chk_no hb)) HS.out.below⟩); have hX2 := HX.out; rw [chk_ok hb] at hX2; clear HX; have HX := Lib.hid hX2; have HBB := Lib.hid hb; clear hX2 hb))
   have hr := room_le HBB.out
   clear E1 E2 HBB hv60
   obtain ⟨f, hf⟩ : ∃ f, findS l (rdN l 60 2).toNat 0 = f := ⟨_, rfl⟩
   have hX2 := HX.out
   rw [hf] at hX2
   have HO := Lib.hid hX2
   have HF := Lib.hid hf
   clear hX2 hf HX
   go_wp2
   go_loopw [29] (fun v29 wx => ∃ i : Int, v29 = .int .i64 i ∧ 0 ≤ i ∧ i ≤ rdN l 60 2 ∧ Hid (FS w (.slice A l.length c) wx) ∧ Hid (findS l (rdN l 60 2 - i).toNat i = f)) (fun v29 _ => (rdN l 60 2 - RowKit.intOf v29).toNat)
   case atStart => exact ⟨0, rfl, by omega, by omega, HS, Lib.hid (by rw [Int.sub_zero]; exact HF.out)⟩
   case round =>
    clear HS hfc HF
    obtain ⟨i, rfl, hi0, hi1, HS, HF⟩ := hrel
    have hfc := (Lib.hid HS.out.cell).out
    by_cases hi : i < rdN l 60 2
    ·have hF := HF.out
     rw [show (rdN l 60 2 - i).toNat = (rdN l 60 2 - (i + 1)).toNat + 1 by omega, findS] at hF
     by_cases h2 : rdN l (rdN l 40 8 + 64 * i + 4) 4 = 2
     ·rw [if_pos h2] at hF
      clear HF
      have HF := Lib.hid hF
      clear hF
      have h2b : (rdN l (rdN l 40 8 + 64 * i + 4) 4 == 2) = true := by simp [h2]
      have H2 := Lib.hid h2
      clear h2
      go_wp2_with (first | (go_at_call 53; refine (word_i HB.out hl hc _ (by omega) (by omega) _ (Kd.C_below HC.out HS.out.below)).mono ?_; rintro e w' ⟨he, ⟨hv0, hv1⟩, hd⟩; subst he; have hS2 := HS.out.step hd; clear HS hfc hd; have HS := Lib.hid hS2; have hfc := (Lib.hid HS.out.cell).out; clear hS2) | (go_at_call 59; refine (sec_i HB.out hl hc _ (by omega) (by omega) (by omega) (by omega) _ (Kd.C_below HC.out HS.out.below)).mono ?_; rintro e w' ⟨he, ⟨hv0, hv1⟩, hd⟩; subst he; have hS2 := HS.out.step hd; clear HS hfc hd; have HS := Lib.hid hS2; have hfc := (Lib.hid HS.out.cell).out; clear hS2))
      go_ret2
      exact Out.yes HO.out.symm (by rw [← HF.out]; rfl) HS.out.below
     ·rw [if_neg h2] at hF
      clear HF
      have HF := Lib.hid hF
      clear hF
      have h2b : (rdN l (rdN l 40 8 + 64 * i + 4) 4 == 2) = false := by simp [h2]
      clear h2
      go_wp2_with (first | (go_at_call 53; refine (word_i HB.out hl hc _ (by omega) (by omega) _ (Kd.C_below HC.out HS.out.below)).mono ?_; rintro e w' ⟨he, ⟨hv0, hv1⟩, hd⟩; subst he; have hS2 := HS.out.step hd; clear HS hfc hd; have HS := Lib.hid hS2; have hfc := (Lib.hid HS.out.cell).out; clear hS2) | (go_at_call 59; refine (sec_i HB.out hl hc _ (by omega) (by omega) (by omega) (by omega) _ (Kd.C_below HC.out HS.out.below)).mono ?_; rintro e w' ⟨he, ⟨hv0, hv1⟩, hd⟩; subst he; have hS2 := HS.out.step hd; clear HS hfc hd; have HS := Lib.hid hS2; have hfc := (Lib.hid HS.out.cell).out; clear hS2))
      exact ⟨⟨i + 1, rfl, by omega, by omega, HS, HF⟩, by simp only [RowKit.intOf]; omega⟩
    ·have hF := HF.out
     rw [show (rdN l 60 2 - i).toNat = 0 by omega, findS] at hF
     clear HF
     have HF := Lib.hid hF
     clear hF
     go_wp2
     go_ret2
     exact Out.yes HO.out.symm (by rw [← HF.out]; rfl) HS.out.below
end Go.Proofs.YtbnlifldnjgpmaaGreatDoor.PWri
/- The map of names that were seen: its entries, what a look-up and the counting up of a new name do. -/
set_option linter.unusedVariables false
set_option linter.unusedSimpArgs false
namespace Go.Proofs.YtbnlifldnjgpmaaGreatDoor.PWri
open Go.RowKit Go.Lib Go.Proofs.YtbnlifldnjgpmaaGreatDoorW.PrintWords Go.Proofs.YtbnlifldnjgpmaaGreatDoorW.PrintLast
open Go.ChangeShapes Go.WideShapes Go.MapKept Go.ChangeMaps Go.WideMaps
theorem laidOutZ : laidOutB Tryz.prog = true := by kernel_rfl
def keyV (s : S82) : Value := .agg #[.string s.f0, .int .u64 s.f1]
def okS (s : S82) : Prop := s.f0.size ≤ maxLen ∧ (Lit.int .u64 s.f1).wf = true
theorem lawSym : KeyLaw Tryz.prog 82 := deep_law_laid laidOutZ (m := 3) (by omega) (of_decide_eq_true (by kernel_rfl)) (by kernel_rfl) (by rw [Tryz.underlying82])
theorem nTypes : Tryz.prog.types.size = Tryz.prog.types.size - 1 + 1 := by kernel_rfl
theorem klits (d : Nat) {s : S82} (h : okS s) : Tryz.prog.keyLits (d + 2) 82 [.string s.f0, .int .u64 s.f1] = some [.string s.f0.data.toList, .int .u64 s.f1] := by
 have hc : Tryz.prog.cellsOf 82 = 2 := by kernel_rfl
 have hc9 : Tryz.prog.cellsOf 9 = 1 := by kernel_rfl
 have hc24 : Tryz.prog.cellsOf 24 = 1 := by kernel_rfl
 simp [Program.keyLits, Tryz.underlying82, hc, hc9, hc24, Tryz.underlying9, Tryz.underlying24, h.1, h.2]
theorem keySym {s : S82} (h : okS s) : ∃ l, keyOf Tryz.prog 82 (keyV s) = some l := by
 have h1 : Tryz.prog.keyType 82 = true := by kernel_rfl
 have h2 : (keyV s).formed Tryz.prog 82 = true := by
  have hc : Tryz.prog.cellsOf 82 = 2 := by kernel_rfl
  simp [keyV, Value.formed, Tryz.underlying82, hc]
 have h3 := klits (Tryz.prog.types.size - 1) h
 rw [show Tryz.prog.types.size - 1 + 2 = Tryz.prog.types.size + 1 from by have := nTypes; omega] at h3
 refine ⟨.string (keyBytes [.string s.f0.data.toList, .int .u64 s.f1]), ?_⟩
 unfold keyOf
 rw [Tryz.underlying82]
 simp only [h1, h2, Bool.and_self, if_true]
 rw [show (keyV s).cells.toList = [.string s.f0, .int .u64 s.f1] from rfl, h3]
 rfl
theorem keyV_inj {a b : S82} (h : keyV a = keyV b) : a = b := by
 unfold keyV at h
 injection h with h
 have h1 := congrArg Array.toList h
 simp only [List.cons.injEq, Value.string.injEq, Value.int.injEq, true_and, and_true] at h1
 cases a
 cases b
 simp_all
def ent (s : S82) (v : Int) (i : Nat) : MapEntry := { key := keyV s, val := .int .i64 v, born := i }
/-- The entries: each name once, in the order in which they came. -/
def ents : Nat → List S82 → List MapEntry
 | _, [] => []
 | i, s :: l => ent s 1 i :: ents (i + 1) l
theorem ents_len : ∀ (i : Nat) (l : List S82), (ents i l).length = l.length
 | _, [] => rfl
 | i, s :: l => by rw [ents, List.length_cons, ents_len (i + 1) l, List.length_cons]
theorem ents_snoc : ∀ (i : Nat) (l : List S82) (s : S82), ents i (l ++ [s]) = ents i l ++ [ent s 1 (i + l.length)]
 | i, [], s => rfl
 | i, a :: l, s => by rw [List.cons_append, ents, ents_snoc (i + 1) l s, ents, List.length_cons, show i + 1 + l.length = i + (l.length + 1) by omega]; rfl
theorem ents_mem : ∀ {i : Nat} {l : List S82} {e : MapEntry}, e ∈ ents i l → ∃ s ∈ l, e.key = keyV s ∧ e.val = .int .i64 1 ∧ i ≤ e.born ∧ e.born < i + l.length
 | i, s :: l, e, h => by
  rw [ents] at h
  rcases List.mem_cons.1 h with rfl | h
  ·exact ⟨s, List.mem_cons_self, rfl, rfl, Nat.le_refl _, by rw [List.length_cons]; show i < _; omega⟩
  ·obtain ⟨s', h1, h2, h3, h4, h5⟩ := ents_mem h
   exact ⟨s', List.mem_cons_of_mem _ h1, h2, h3, by omega, by rw [List.length_cons]; omega⟩
theorem ents_key : ∀ {i : Nat} {l : List S82} {s : S82}, s ∈ l → ∃ e ∈ ents i l, e.key = keyV s
 | i, a :: l, s, h => by
  rw [ents]
  rcases List.mem_cons.1 h with rfl | h
  ·exact ⟨_, List.mem_cons_self, rfl⟩
  ·obtain ⟨e, h1, h2⟩ := ents_key (i := i + 1) h
   exact ⟨e, List.mem_cons_of_mem _ h1, h2⟩
/-- The map at block B holds these names. -/
def MO (W : World) (B : Nat) (out : List S82) : Prop := W.heap[B]? = some (.map (ents 0 out).toArray out.length) ∧ ∀ s ∈ out, okS s
theorem keys_ok {i : Nat} {out : List S82} (h : ∀ s ∈ out, okS s) : ∀ e ∈ ents i out, ∃ l, keyOf Tryz.prog 82 e.key = some l := by
 intro e he
 obtain ⟨s, hs, hk, _⟩ := ents_mem he
 rw [hk]
 exact keySym (h s hs)
theorem zero3 (W : World) : (zeroValue 3).run Tryz.prog W = .ok (.int .i64 0) W := by kernel_rfl
theorem look_new {W : World} {B : Nat} {out : List S82} (h : MO W B out) {s : S82} (hs : okS s) (hn : s ∉ out) : (Instr.lookup 107 (.map (some B)) (keyV s) false).run Tryz.prog W = .ok (.int .i64 0) W := by
 obtain ⟨kl, hk⟩ := keySym hs
 rcases lawSym.find W hk (ents 0 out) (keys_ok h.2) with ⟨h1, _⟩ | ⟨j, e, h1, h2, h3⟩
 ·simp [Instr.lookup, run_underlying Tryz.underlying107, MapKept.run_getObj_map h.1, lawSym.check W _ hk, h1, zero3, Result.andThen]
 ·obtain ⟨s', hs', hk', _⟩ := ents_mem (List.mem_of_getElem? h2)
  rw [hk'] at h3
  rw [keyV_inj h3] at hs'
  exact absurd hs' hn
theorem look_old {W : World} {B : Nat} {out : List S82} (h : MO W B out) {s : S82} (hs : okS s) (hn : s ∈ out) : (Instr.lookup 107 (.map (some B)) (keyV s) false).run Tryz.prog W = .ok (.int .i64 1) W := by
 obtain ⟨kl, hk⟩ := keySym hs
 rcases lawSym.find W hk (ents 0 out) (keys_ok h.2) with ⟨h1, h2⟩ | ⟨j, e, h1, h2, h3⟩
 ·obtain ⟨e, he, hke⟩ := ents_key (i := 0) hn
  exact absurd hke (h2 e he)
 ·obtain ⟨s', hs', hk', hv, _⟩ := ents_mem (List.mem_of_getElem? h2)
  rw [hv] at h1
  simp [Instr.lookup, run_underlying Tryz.underlying107, MapKept.run_getObj_map h.1, lawSym.check W _ hk, h1, Result.andThen]
/-- Between the two halves of the counting up: the new name with 0. -/
def MH (W : World) (B : Nat) (out : List S82) (s : S82) : Prop := W.heap[B]? = some (.map ((ents 0 out).toArray.push (ent s 0 out.length)) (out.length + 1)) ∧ ∀ x ∈ out, okS x
theorem set_get {W : World} {B : Nat} {o : Obj} (h : W.heap[B]? = some o) (o' : Obj) : (setBlock W B o').heap[B]? = some o' := by
 have hl := blk_lt h
 unfold setBlock
 simp [Array.getElem?_setIfInBounds, hl]
theorem grown_set {W : World} {B : Nat} {o : Obj} (h : W.heap[B]? = some o) (o' : Obj) : W.grownBy (setBlock W B o') (some B) := by
 refine ⟨rfl, rfl, rfl, by unfold setBlock; simp, fun i hi hne => ?_⟩
 have : B ≠ i := fun e => hne (by rw [e])
 unfold setBlock
 simp [Array.getElem?_setIfInBounds, this]
theorem enter_new {W : World} {B : Nat} {out : List S82} (h : MO W B out) {s : S82} (hs : okS s) (hn : s ∉ out) :
 ∃ W1, (Instr.mapEntry 107 (.map (some B)) (keyV s)).run Tryz.prog W = .ok (.tuple #[.int .i64 0, .int .i64 (out.length : Int)]) W1 ∧ MH W1 B out s ∧ W.grownBy W1 (some B) := by
 obtain ⟨kl, hk⟩ := keySym hs
 rcases lawSym.find W hk (ents 0 out) (keys_ok h.2) with ⟨h1, _⟩ | ⟨j, e, h1, h2, h3⟩
 ·refine ⟨setBlock W B (.map ((ents 0 out).toArray.push (ent s 0 out.length)) (out.length + 1)), ?_, ⟨set_get h.1 _, h.2⟩, grown_set h.1 _⟩
  simp [Instr.mapEntry, run_underlying Tryz.underlying107, MapKept.run_getObj_map h.1, lawSym.check W _ hk, h1, zero3, MapKept.run_setObj_map _ h.1, Result.andThen, goInt, setBlock, ent]
 ·obtain ⟨s', hs', hk', _⟩ := ents_mem (List.mem_of_getElem? h2)
  rw [hk'] at h3
  rw [keyV_inj h3] at hs'
  exact absurd hs' hn
theorem look_half {W : World} {B : Nat} {out : List S82} {s : S82} (h : MH W B out s) (hs : okS s) (hn : s ∉ out) : (Instr.lookup 107 (.map (some B)) (keyV s) false).run Tryz.prog W = .ok (.int .i64 0) W := by
 obtain ⟨kl, hk⟩ := keySym hs
 have hkeys : ∀ e ∈ ents 0 out ++ [ent s 0 out.length], ∃ l, keyOf Tryz.prog 82 e.key = some l := by
  intro e he
  rcases List.mem_append.1 he with he | he
  ·exact keys_ok h.2 e he
  ·rw [List.mem_singleton.1 he]
   exact ⟨kl, hk⟩
 have hl : ((ents 0 out).toArray.push (ent s 0 out.length)).toList = ents 0 out ++ [ent s 0 out.length] := by simp
 rcases lawSym.find W hk _ hkeys with ⟨h1, h2⟩ | ⟨j, e, h1, h2, h3⟩
 ·exact absurd rfl (h2 (ent s 0 out.length) (by simp))
 ·have hv : e.val = .int .i64 0 := by
   rcases List.mem_append.1 (List.mem_of_getElem? h2) with he | he
   ·obtain ⟨s', hs', hk', _⟩ := ents_mem he
    rw [hk'] at h3
    rw [keyV_inj h3] at hs'
    exact absurd hs' hn
   ·rw [List.mem_singleton.1 he]
    rfl
  rw [hv] at h1
  simp [Instr.lookup, run_underlying Tryz.underlying107, MapKept.run_getObj_map h.1, lawSym.check W _ hk, h1, Result.andThen]
theorem find_last {n : Nat} {e : MapEntry} (he : e.born = n) : ∀ (es : List MapEntry), (∀ x ∈ es, x.born < n) → (es ++ [e]).findIdx? (fun x => ((x.born : Nat) : Int) == ((n : Nat) : Int)) = some es.length
 | [], _ => by simp [List.findIdx?_cons, he]
 | a :: es, h => by
  have ha := h a List.mem_cons_self
  have hb : (((a.born : Nat) : Int) == ((n : Nat) : Int)) = false := by
   simp only [beq_eq_false_iff_ne, ne_eq, Int.natCast_inj]
   omega
  rw [List.cons_append, List.findIdx?_cons, hb]
  simp [find_last he es (fun x hx => h x (List.mem_cons_of_mem _ hx))]
theorem modify_lastE (f : MapEntry → MapEntry) (e : MapEntry) : ∀ l : List MapEntry, (l ++ [e]).modify l.length f = l ++ [f e]
 | [] => rfl
 | b :: r => by simp [List.modify_succ_cons, modify_lastE f e r]
theorem store_half {W : World} {B : Nat} {out : List S82} {s : S82} (h : MH W B out s) (hs : okS s) :
 ∃ W1, (Instr.entryStore 107 (.map (some B)) (.int .i64 (out.length : Int)) (.int .i64 1)).run Tryz.prog W = .ok () W1 ∧ MO W1 B (out ++ [s]) ∧ W.grownBy W1 (some B) := by
 have hidx : ((ents 0 out).toArray.push (ent s 0 out.length)).findIdx? (fun x => ((x.born : Nat) : Int) == ((out.length : Nat) : Int)) = some out.length := by
  have h1 := find_last (n := out.length) (e := ent s 0 out.length) rfl (ents 0 out) (fun x hx => by obtain ⟨_, _, _, _, _, h5⟩ := ents_mem hx; omega)
  rw [ents_len] at h1
  rw [← h1]
  cases e : ((ents 0 out).toArray.push (ent s 0 out.length))
  rw [show ents 0 out ++ [ent s 0 out.length] = ((ents 0 out).toArray.push (ent s 0 out.length)).toList by simp, e]
  simp
 have hmod : ((ents 0 out).toArray.push (ent s 0 out.length)).modify out.length (fun e => { e with val := .int .i64 1 }) = (ents 0 (out ++ [s])).toArray := by
  apply Array.ext'
  rw [Array.toList_modify]
  have h1 := modify_lastE (fun e => { e with val := .int .i64 1 }) (ent s 0 out.length) (ents 0 out)
  rw [ents_len] at h1
  rw [show ((ents 0 out).toArray.push (ent s 0 out.length)).toList = ents 0 out ++ [ent s 0 out.length] by simp, h1, ents_snoc, Nat.zero_add]
  rfl
 refine ⟨setBlock W B (.map (ents 0 (out ++ [s])).toArray (out.length + 1)), ?_, ⟨?_, fun x hx => ?_⟩, grown_set h.1 _⟩
 ·have hb := h.1
  generalize ((ents 0 out).toArray.push (ent s 0 out.length)) = es at hb hidx hmod
  simp [Instr.entryStore, MapKept.run_getObj_map hb, asInt, asIntOf, hidx, hmod, MapKept.run_setObj_map _ hb, Result.andThen, setBlock]
 ·rw [List.length_append, List.length_singleton]
  exact set_get h.1 _
 ·rcases List.mem_append.1 hx with hx | hx
  ·exact h.2 x hx
  ·rw [List.mem_singleton.1 hx]
   exact hs
end Go.Proofs.YtbnlifldnjgpmaaGreatDoor.PWri
