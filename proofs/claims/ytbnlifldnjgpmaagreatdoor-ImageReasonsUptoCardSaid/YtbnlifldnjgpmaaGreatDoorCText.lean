/- The writer's text: a string's bytes from the writer's place on; all but the writer and its bytes stays. -/
import Derived.Test.YtbnlifldnjgpmaaGreatDoorCPut
import Derived.Laws.CopyRow
import Derived.Lib.BufferWrite
set_option linter.unusedVariables false
set_option linter.unusedSimpArgs false
namespace Go.Proofs.YtbnlifldnjgpmaaGreatDoor
open Go.RowKit Go.Lib Go.Proofs.YtbnlifldnjgpmaaGreatDoorW.PrintWords
def strL (s : ByteArray) : List Int := s.data.toList.map fun b => (b.toNat : Int)
set_option maxHeartbeats 16000000 in
set_option maxRecDepth 1000000 in
theorem text_c (g bb : Nat) (s : ByteArray) (D Z : List Int) (w : World) (hW : WIs w g bb D.length (D ++ Z)) (hne : g ≠ bb) (hn : (D ++ Z).length < 4611686018427387904) (hfit : s.size ≤ Z.length) (hpos : 0 < s.size) :
 Calls Tryz.prog 45 #[.pointer (some ⟨g, 0, none⟩), .string s] w fun e w' =>
  e = .returned (.tuple #[]) ∧ WIs w' g bb (D ++ strL s).length ((D ++ strL s) ++ Z.drop s.size) ∧ Kp w w' (S2 g bb) := by
 have mixed : Tryz.prog.follows Departure.mixedOrders = true := by kernel_rfl
 obtain ⟨P, hP⟩ : ∃ P, D.length = P := ⟨_, rfl⟩
 obtain ⟨N, hN⟩ : ∃ N, (D ++ Z).length = N := ⟨_, rfl⟩
 have hPN : P ≤ N := by rw [← hP, ← hN]; simp
 have hN2 : N < 4611686018427387904 := by rw [← hN]; exact hn
 have d0 : w.cell? ⟨g, 0, none⟩ = some (.slice (some ⟨bb, 0, none⟩) N N) := by
  have := kCe hW.wr 0
  rw [hN] at this
  exact this
 have d1 : w.cell? ⟨g, 1, none⟩ = some (.int .i64 (P : Int)) := by
  have := kCe hW.wr 1
  rw [hP] at this
  exact this
 have f1 := kFr hW.wr 1
 have hzl : D.length + Z.length = N := by rw [← hN]; simp
 have hnp : ¬ N = P := by omega
 have hcur := hW.by_
 obtain ⟨W2, hW2⟩ : ∃ W2, w.drew.setRow bb (((D ++ Z).map u8v).take P ++ byteCells s.data.toList ++ ((D ++ Z).map u8v).drop (P + s.size)).toArray = W2 := ⟨_, rfl⟩
 have hcopy : (Builtin.copy_ #[22, 9] 3 #[.slice (some ⟨bb, P, none⟩) (N - P) (N - P), .string s]).run Tryz.prog w.drew = .ok (.int .i64 (s.size : Int)) W2 := by
  rw [← hW2]
  exact run_copy_row_string w.drew 22 9 3 5 bb P (N - P) (N - P) s _ 5 Tryz.underlying22 (by kernel_rfl) hcur (by omega) (by simp; omega)
 have hWg : W2.heap[g]? = w.heap[g]? := by
  rw [← hW2]
  exact setRow_other _ _ _ _ (by exact hne)
 have c2 : W2.cell? ⟨g, 1, none⟩ = some (.int .i64 (P : Int)) := by
  have := kCe (hWg.trans hW.wr) 1
  rw [hP] at this
  exact this
 have f2 : W2.frozen? ⟨g, 1, none⟩ = false := kFr (hWg.trans hW.wr) 1
 have HW := Lib.hid hW
 have HW2 := Lib.hid hW2
 clear hW hWg hcur hW2
 go_enter Tryz.func45, Tryz.ntmps45
 go_wp2
 go_region_o
 go_end0
 have hl' : ((D ++ strL s) ++ Z.drop s.size).length = N := by
  have h1 : (strL s).length = s.size := by unfold strL; rw [List.length_map, ← Lib.size_eq]
  rw [List.length_append, List.length_append, h1, List.length_drop]
  omega
 have hpl : (D ++ strL s).length = P + s.size := by
  have h1 : (strL s).length = s.size := by unfold strL; rw [List.length_map, ← Lib.size_eq]
  rw [List.length_append, h1, hP]
 have hwg : W2.heap[g]? = some (.cells #[.slice (some ⟨bb, 0, none⟩) N N, .int .i64 (P : Int)] 91 (0, 0)) := by
  rw [← HW2.out, setRow_other _ _ _ _ hne]
  have := HW.out.wr
  rw [hN, hP] at this
  exact this
 have hwb : W2.heap[bb]? = some (.cells ((((D ++ strL s) ++ Z.drop s.size)).map u8v).toArray 5 (0, 0)) := by
  rw [← HW2.out, setRow_heap w.drew bb _ _ 5 _ HW.out.by_]
  congr 3
  rw [List.map_append, List.map_append, List.map_append, ← hP, List.take_append_of_le_length (by simp), List.take_of_length_le (by simp), List.drop_append]
  rw [List.drop_eq_nil_of_le (by simp), List.nil_append]
  simp [strL, byteCells, u8v, Function.comp_def]
 refine ⟨rfl, ⟨?_, ?_⟩, ?_⟩
 ·have := blk_set hwg 1 (.int .i64 ((P : Int) + (s.size : Int)))
  rw [this, hl', hpl]
  simp
 ·exact blk_far hwb (p := ⟨g, 1, none⟩) (Ne.symm hne) _
 ·refine Kp.setCell ?_ (p := ⟨g, 1, none⟩) (.inl (.inl rfl)) _
  refine ⟨⟨by rw [← HW2.out]; simp, fun k hk hn2 => ?_⟩, ⟨by rw [← HW2.out]; rfl, by rw [← HW2.out]; rfl, by rw [← HW2.out]; rfl, by rw [← HW2.out]; simp, fun k hk => by omega⟩⟩
  rw [← HW2.out, setRow_other _ _ _ _ (fun e => hn2 (.inr e))]
  rfl
end Go.Proofs.YtbnlifldnjgpmaaGreatDoor
