/- The writer's put: so many bytes of each number, the lowest first, from the writer's place on; all but the writer and its bytes stays. -/
import Derived.Test.YtbnlifldnjgpmaaGreatDoorCGr4
import Derived.Test.YtbnlifldnjgpmaaGreatDoorProg
import Derived.WalkKit
import Derived.WalkMore
import Derived.RegionTactic
import Derived.Shelf.RegionOpenPlain
import Derived.CellFam
import Derived.Below
import Derived.Lib.Hide
import Derived.Lib.Walk
set_option linter.unusedVariables false
set_option linter.unusedSimpArgs false
namespace Go.Proofs.YtbnlifldnjgpmaaGreatDoor
open Go.RowKit Go.Lib Go.Proofs.YtbnlifldnjgpmaaGreatDoorW.PrintWords
def u8v (z : Int) : Value := .int .u8 z
/-- The writer at block g, its bytes L at block bb, its place. -/
structure WIs (w : World) (g bb place : Nat) (L : List Int) : Prop where
 wr : w.heap[g]? = some (.cells #[.slice (some ⟨bb, 0, none⟩) L.length L.length, .int .i64 place] 91 (0, 0))
 by_ : w.heap[bb]? = some (.cells (L.map u8v).toArray 5 (0, 0))
def le : Nat → Int → List Int
 | 0, _ => []
 | s + 1, v => (v % 256) :: le s (v / 256)
theorem le_length : ∀ s v, (le s v).length = s
 | 0, _ => rfl
 | s + 1, v => by simp [le, le_length s]
def putL (size : Nat) (l : List Int) : List Int := l.flatMap (le size)
theorem u8v_one (z : Int) : (u8v z).oneCell' = true := rfl
/-- One byte at the place, the place one further. -/
theorem WIs.step {w : World} {g bb : Nat} {D Z : List Int} {z x : Int} (h : WIs w g bb D.length (D ++ z :: Z)) (hne : g ≠ bb) :
 WIs ((w.setCell ⟨bb, D.length, none⟩ (u8v x)).setCell ⟨g, 1, none⟩ (.int .i64 ((D.length : Int) + 1))) g bb (D ++ [x]).length ((D ++ [x]) ++ Z) := by
 have hlen : ((D ++ [x]) ++ Z).length = (D ++ z :: Z).length := by simp
 refine ⟨?_, ?_⟩
 ·have h1 := blk_far h.wr (p := ⟨bb, D.length, none⟩) hne (u8v x)
  have h2 := blk_set h1 1 (.int .i64 ((D.length : Int) + 1))
  rw [h2, hlen]
  simp
 ·have h1 := blk_set h.by_ D.length (u8v x)
  have h2 := blk_far h1 (p := ⟨g, 1, none⟩) (Ne.symm hne) (.int .i64 ((D.length : Int) + 1))
  rw [h2]
  simp
abbrev S2 (g bb : Nat) (k : Nat) : Prop := k = g ∨ k = bb
set_option maxHeartbeats 16000000 in
set_option maxRecDepth 1000000 in
theorem put_c (g bb size c : Nat) (A : Option Addr) (l : List Int) (D Z : List Int) (w : World) (hW : WIs w g bb D.length (D ++ Z)) (hne : g ≠ bb) (hn : (D ++ Z).length < 4611686018427387904)
 (hl : Kd.C (Kd.int .u64) w A l.length l) (hc : l.length ≤ c) (hA : ∀ ad, A = some ad → ad.block ≠ g ∧ ad.block ≠ bb) (hfit : (putL size l).length ≤ Z.length) (hsz : size ≤ 8) :
 Calls Tryz.prog 46 #[.pointer (some ⟨g, 0, none⟩), .int .i64 (size : Int), .slice A l.length c] w fun e w' =>
  e = .returned (.tuple #[]) ∧ WIs w' g bb (D ++ putL size l).length ((D ++ putL size l) ++ Z.drop (putL size l).length) ∧ Kp w w' (S2 g bb) := by
 have hll : l.length ≤ 9223372036854775807 := hl.2.1
 have mixed : Tryz.prog.follows Departure.mixedOrders = true := by kernel_rfl
 have HL := Lib.hid hl
 have HA := Lib.hid hA
 have HW := Lib.hid hW
 have HF := Lib.hid hfit
 clear hl hA hW hfit
 go_enter Tryz.func46, Tryz.ntmps46
 go_wp2
 go_loopw [10] (fun vj wx => ∃ (j : Nat) (D1 Z1 : List Int), vj = .int .i64 (j : Int) ∧ j ≤ l.length ∧ Hid (WIs wx g bb D1.length (D1 ++ Z1)) ∧ Hid (Kp w wx (S2 g bb)) ∧
  Hid (D1 ++ putL size (l.drop j) = D ++ putL size l ∧ Z1.drop (putL size (l.drop j)).length = Z.drop (putL size l).length ∧ (putL size (l.drop j)).length ≤ Z1.length ∧ (D1 ++ Z1).length = (D ++ Z).length)) (fun vj _ => l.length - (RowKit.intOf vj).toNat)
 case atStart => exact ⟨0, D, Z, rfl, Nat.zero_le _, HW, Lib.hid (Kp.refl _ _), Lib.hid ⟨rfl, rfl, HF.out, rfl⟩⟩
 case round =>
  obtain ⟨j, D1, Z1, rfl, hj, HW1, HK1, HX1⟩ := hrel
  by_cases hjl : j < l.length
  ·obtain ⟨ad, eA, hcell⟩ := Kd.at_int HL.out (j : Int) (by omega) (by omega)
   obtain ⟨v0, hv0⟩ : ∃ v0, l[j]'hjl = v0 := ⟨_, rfl⟩
   have hrd : rd l (j : Int) = v0 := by
    unfold rd
    rw [Int.toNat_natCast, List.getD_eq_getElem?_getD, List.getElem?_eq_getElem hjl, hv0]
    rfl
   rw [hrd, Int.toNat_natCast] at hcell
   subst eA
   have hne2 := HA.out ad rfl
   have hcw := cell_kp hcell HK1.out (by rw [add_block]; rintro (h | h); exact hne2.1 h; exact hne2.2 h)
   have hdr : l.drop j = v0 :: l.drop (j + 1) := by rw [← hv0]; exact List.drop_eq_getElem_cons hjl
   obtain ⟨R, hR⟩ : ∃ R, putL size (l.drop (j + 1)) = R := ⟨_, rfl⟩
   have hX := HX1.out
   rw [hdr, show putL size (v0 :: l.drop (j + 1)) = le size v0 ++ putL size (l.drop (j + 1)) from rfl, hR] at hX
   have HX := Lib.hid hX
   have HR := Lib.hid hR
   clear hX hdr hR hrd hv0 hcell HX1 hne2
   go_wp2
   go_loopw [15, 7] (fun vi vv wx => ∃ (i : Nat) (v : Int) (D2 Z2 : List Int), vi = .int .i64 (i : Int) ∧ vv = .int .u64 v ∧ i ≤ size ∧ Hid (WIs wx g bb D2.length (D2 ++ Z2)) ∧ Hid (Kp w wx (S2 g bb)) ∧
    Hid (D2 ++ le (size - i) v = D1 ++ le size v0 ∧ Z2.drop (size - i) = Z1.drop size ∧ size - i ≤ Z2.length ∧ (D2 ++ Z2).length = (D1 ++ Z1).length)) (fun vi _ _ => size - (RowKit.intOf vi).toNat)
   case atStart =>
    have h3 := HX.out.2.2.1
    rw [List.length_append, le_length] at h3
    exact ⟨0, v0, D1, Z1, rfl, rfl, Nat.zero_le _, HW1, HK1, Lib.hid ⟨rfl, rfl, by omega, rfl⟩⟩
   case round =>
    obtain ⟨i, v, D2, Z2, rfl, rfl, hi, HW2, HK2, HX2⟩ := hrel
    by_cases his : i < size
    ·obtain ⟨z, Z3, rfl⟩ : ∃ z Z3, Z2 = z :: Z3 := by
      have := HX2.out.2.2.1
      match Z2, this with
      | z :: Z3, _ => exact ⟨z, Z3, rfl⟩
      | [], h => simp at h; omega
     have hW2 := HW2.out
     have hs := Lib.hid (hW2.step (x := v % 256) hne)
     obtain ⟨P, hP⟩ : ∃ P, D2.length = P := ⟨_, rfl⟩
     obtain ⟨N, hN⟩ : ∃ N, (D2 ++ z :: Z3).length = N := ⟨_, rfl⟩
     have hPN : P < N := by rw [← hP, ← hN]; simp
     have hN2 : N < 4611686018427387904 := by rw [← hN, HX2.out.2.2.2, HX.out.2.2.2]; exact hn
     have c0 := kCe hW2.wr 0
     have c1 := kCe hW2.wr 1
     have f1 := kFr hW2.wr 1
     have cb := kCe hW2.by_ P
     have fb := kFr hW2.by_ P
     rw [hN, hP] at c1
     rw [hN] at c0
     have cb2 : wr.cell? ⟨bb, P, none⟩ = some (u8v z) := by
      rw [cb, ← hP]
      simp
     have d0 : wr.cell? ⟨g, 0, none⟩ = some (.slice (some ⟨bb, 0, none⟩) N N) := c0
     have d1 : wr.cell? ⟨g, 1, none⟩ = some (.int .i64 (P : Int)) := by rw [c1, ← hP]; rfl
     have e256 : IntKind.u8.wrap v = v % 256 := IntKind.wrap_u8 v
     obtain ⟨x, hx⟩ : ∃ x : Int, v % 256 = x := ⟨_, rfl⟩
     rw [hx] at e256 hs
     have HE := Lib.hid hx
     have HPP := Lib.hid hP
     have HNN := Lib.hid hN
     have hg1 : ∀ y, (wr.setCell ⟨bb, P, none⟩ y).drew.cell? ⟨g, 1, none⟩ = some (.int .i64 (P : Int)) := fun y => by
      have h1 := kCe (blk_far hW2.wr (p := ⟨bb, P, none⟩) hne y) 1
      rw [hP] at h1
      exact h1
     have hgf : ∀ y, (wr.setCell ⟨bb, P, none⟩ y).drew.frozen? ⟨g, 1, none⟩ = false := fun y => kFr (blk_far hW2.wr (p := ⟨bb, P, none⟩) hne y) 1
     clear c0 c1 cb hx hP hN hW2
     unfold u8v at cb2
     go_wp2
     go_region_o
     go_wp2
     have hsi : size - i = (size - (i + 1)) + 1 := by omega
     have hX2 := HX2.out
     rw [hsi, le, HE.out] at hX2
     obtain ⟨g1, g2, g3, g4⟩ := hX2
     have hs2 := hs.out
     rw [HPP.out] at hs2
     refine ⟨⟨i + 1, v / 256, D2 ++ [x], Z3, by simp, rfl, by omega, Lib.hid ⟨hs2.wr, hs2.by_⟩, Lib.hid (((HK2.out.setCell (p := ⟨bb, P, none⟩) (.inl (.inr rfl)) _).setCell (p := ⟨g, 1, none⟩) (.inl (.inl rfl)) _).drew), Lib.hid ⟨by simpa using g1, by simpa using g2, by simp at g3; omega, by simp at g4 ⊢; omega⟩⟩, by simp [RowKit.intOf]; omega⟩
    ·have hie : i = size := by omega
     subst hie
     have hX2 := HX2.out
     simp only [Nat.sub_self, le, List.append_nil, List.drop_zero] at hX2
     obtain ⟨rfl, rfl, _, g4⟩ := hX2
     clear HX2
     go_wp2
     have hX := HX.out
     have hR := HR.out
     rw [List.length_append, le_length] at hX
     refine ⟨⟨j + 1, _, _, by simp, by omega, HW2, HK2, Lib.hid ⟨by rw [hR, List.append_assoc]; exact hX.1, by rw [hR, List.drop_drop]; exact hX.2.1, by rw [hR, List.length_drop]; omega, g4.trans hX.2.2.2⟩⟩, by simp [RowKit.intOf]; omega⟩
  ·have hje : j = l.length := by omega
   subst hje
   have hx := HX1.out
   rw [List.drop_length] at hx
   simp only [putL, List.flatMap_nil, List.append_nil, List.length_nil, List.drop_zero] at hx
   obtain ⟨rfl, rfl, _, _⟩ := hx
   clear HX1
   go_wp2
   go_end0
   exact ⟨rfl, HW1.out, HK1.out⟩
end Go.Proofs.YtbnlifldnjgpmaaGreatDoor
