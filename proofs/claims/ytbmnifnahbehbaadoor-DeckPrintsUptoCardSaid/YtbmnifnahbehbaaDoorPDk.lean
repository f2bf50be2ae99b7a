/- A Cpu as 82 cells, each by its number; boxes of it: what is loaded and stored. -/
import Derived.Test.YtbmnifnahbehbaaDoorProg
import Derived.Test.YtbmnifnahbehbaaDoorPWds1
import Derived.Deep.MidRow
import Derived.Laws.Rows
import Derived.Laws.Tables
import Derived.Lib.Hide
import Derived.Laws.CopyOwn
import Derived.KernelRfl
set_option linter.unusedVariables false
namespace Go.Proofs.YtbmnifnahbehbaaDoor
open Go.RowKit Go.Lib Go.Proofs.YtbmnifnahbehbaaDoorW.PrintWords
/-- A Cpu: the number in each of its cells (a bool's: 0 or 1). -/
abbrev Cp := Nat → Int
def cellOf (i : Nat) (n : Int) : Value :=
  if i = 33 ∨ i = 81 then .int .i64 n else if i = 34 ∨ i = 79 then .bool (decide (n ≠ 0)) else if 47 ≤ i ∧ i < 63 then .int .u8 n else .int .u64 n
/-- n cells from cell o on. -/
def cellsL (c : Cp) (o n : Nat) : List Value := (List.range n).map fun i => cellOf (o + i) (c (o + i))
theorem cellsL_len (c : Cp) (o n : Nat) : (cellsL c o n).length = n := by simp [cellsL]
theorem cellsL_get {c : Cp} {o n i : Nat} (h : i < n) : (cellsL c o n)[i]? = some (cellOf (o + i) (c (o + i))) := by simp [cellsL, h]
def cpuL (c : Cp) : List Value := cellsL c 0 82
theorem cpuL_len (c : Cp) : (cpuL c).length = 82 := cellsL_len c 0 82
theorem cpuL_get {c : Cp} {i : Nat} (h : i < 82) : (cpuL c)[i]? = some (cellOf i (c i)) := by
  have := cellsL_get (c := c) (o := 0) h
  simpa [cpuL] using this
def upd (c : Cp) (i : Nat) (n : Int) : Cp := fun j => if j = i then n else c j
theorem one_cell (i : Nat) (n : Int) : (cellOf i n).oneCell' = true := by
  unfold cellOf
  split
  · rfl
  split
  · rfl
  split <;> rfl
theorem cellsL_one (c : Cp) (o n : Nat) : (cellsL c o n).toArray.all (·.oneCell') = true := by
  rw [Array.all_eq_true_iff_forall_mem]
  intro v hv
  rw [List.mem_toArray] at hv
  unfold cellsL at hv
  obtain ⟨i, _, rfl⟩ := List.mem_map.1 hv
  exact one_cell _ _
theorem cellsL_ext {c d : Cp} {o n : Nat} (h : ∀ i, o ≤ i → i < o + n → c i = d i) : cellsL c o n = cellsL d o n := by
  unfold cellsL
  apply List.map_congr_left
  intro i hi
  rw [h (o + i) (by omega) (by have := List.mem_range.1 hi; omega)]
theorem cellsL_set (c : Cp) (o n i : Nat) (hi : i < n) (v : Int) : (cellsL c o n).toArray.setIfInBounds i (cellOf (o + i) v) = (cellsL (upd c (o + i) v) o n).toArray := by
  rw [List.setIfInBounds_toArray]
  congr 1
  apply List.ext_getElem?
  intro j
  by_cases hj : j < n
  · rw [List.getElem?_set]
    split
    · rename_i e
      subst e
      rw [if_pos (by rw [cellsL_len]; exact hj), cellsL_get hj]
      simp [upd]
    · rename_i e
      rw [cellsL_get hj, cellsL_get hj]
      simp [upd]
      rw [if_neg (by omega)]
  · rw [List.getElem?_eq_none (by simp [cellsL_len]; omega), List.getElem?_eq_none (by simp [cellsL_len]; omega)]
/-- The block g holds n cells of c from cell o on. -/
def Box (w : World) (g : Nat) (t : TypeId) (c : Cp) (o n : Nat) : Prop := w.heap[g]? = some (.cells (cellsL c o n).toArray t (0, 0))
theorem Box.cell {w : World} {g : Nat} {t : TypeId} {c : Cp} {o n : Nat} (h : Box w g t c o n) (i : Nat) (hi : i < n) : w.cell? ⟨g, i, none⟩ = some (cellOf (o + i) (c (o + i))) := by
  rw [blk_cell h i]
  simpa using cellsL_get hi
theorem Box.set {w : World} {g : Nat} {t : TypeId} {c : Cp} {o n : Nat} (h : Box w g t c o n) (i : Nat) (hi : i < n) (v : Int) : Box (w.setCell ⟨g, i, none⟩ (cellOf (o + i) v)) g t (upd c (o + i) v) o n :=
  blk_put h i _ (cellsL_set c o n i hi v)
theorem Box.ext {w : World} {g : Nat} {t : TypeId} {c d : Cp} {o n : Nat} (h : Box w g t c o n) (e : ∀ i, o ≤ i → i < o + n → c i = d i) : Box w g t d o n := by
  unfold Box
  rw [← cellsL_ext e]
  exact h
theorem Box.range {w : World} {g : Nat} {t : TypeId} {c : Cp} {o n : Nat} (h : Box w g t c o n) (p m : Nat) (hp : p + m ≤ n) : w.rangeAt g p (cellsL c (o + p) m) := by
  intro j v hj
  have hm : j < m := by
    rcases Nat.lt_or_ge j m with h | h
    · exact h
    · rw [List.getElem?_eq_none (by rw [cellsL_len]; exact h)] at hj; cases hj
  rw [cellsL_get hm] at hj
  rw [h.cell (p + j) (by omega), ← hj, Nat.add_assoc]
theorem Box.there {w : World} {g : Nat} {t : TypeId} {c : Cp} {o n : Nat} (h : Box w g t c o n) (p m : Nat) (hp : p + m ≤ n) : w.there g p m := fun j hj => by
  rw [h.cell (p + j) (by omega)]
  exact ⟨rfl, blk_frozen h _⟩
theorem cellsL_cons (c : Cp) (o n : Nat) : cellsL c o (n + 1) = cellOf o (c o) :: cellsL c (o + 1) n := by
  unfold cellsL
  rw [List.range_succ_eq_map, List.map_cons, List.map_map]
  congr 1
  apply List.map_congr_left
  intro i _
  simp only [Function.comp_apply, Nat.succ_eq_add_one]
  rw [show o + (i + 1) = o + 1 + i by omega]
/-- c, but the cells from p on, m of them, as in d. -/
def mix (c d : Cp) (p m : Nat) : Cp := fun i => if p ≤ i ∧ i < p + m then d i else c i
theorem Box.setMany {g : Nat} {t : TypeId} {d : Cp} {o n : Nat} : ∀ (m p : Nat) {w : World} {c : Cp}, Box w g t c o n → p + m ≤ n → Box (w.setCells g p (cellsL d (o + p) m)) g t (mix c d (o + p) m) o n
  | 0, p, w, c, h, hp => by
    rw [show cellsL d (o + p) 0 = [] from rfl]
    exact h.ext (fun i _ _ => by unfold mix; rw [if_neg (by omega)])
  | m + 1, p, w, c, h, hp => by
    rw [cellsL_cons]
    have h2 := Box.setMany m (p + 1) (h.set p (by omega) (d (o + p))) (d := d) (by omega)
    rw [← Nat.add_assoc] at h2
    refine h2.ext (fun i h3 h4 => ?_)
    unfold mix upd
    by_cases h5 : i = o + p
    · rw [if_neg (by omega), if_pos h5, if_pos (by omega), h5]
    · by_cases h6 : o + p + 1 ≤ i ∧ i < o + p + 1 + m
      · rw [if_pos h6, if_pos (by omega)]
      · rw [if_neg h6, if_neg h5, if_neg (by omega)]
theorem setCells_other (g : Nat) : ∀ (l : List Value) (p : Nat) (w : World) (k : Nat), k ≠ g → (w.setCells g p l).heap[k]? = w.heap[k]?
  | [], _, _, _, _ => rfl
  | v :: l, p, w, k, hk => by
    show ((w.setCell ⟨g, p, none⟩ v).setCells g (p + 1) l).heap[k]? = _
    rw [setCells_other g l (p + 1) _ k hk]
    exact Below.heap_setCell w ⟨g, p, none⟩ v k hk
theorem below_setCells {B : Nat} {w0 : World} (g : Nat) (hB : B ≤ g) : ∀ (l : List Value) (p : Nat) (w : World), Below B w0 w → Below B w0 (w.setCells g p l)
  | [], _, _, h => h
  | v :: l, p, w, h => below_setCells g hB l (p + 1) _ (Below.setCell h (p := ⟨g, p, none⟩) hB v)
theorem cellsL_size (c : Cp) (o n : Nat) : (cellsL c o n).toArray.size = n := by simp [cellsL_len]
section
variable {P : Program} {ops : Array Oper} {rest : List Oper} {op : Oper} {a : Act} {w : World} {Q : Exit → Act → World → Prop}
theorem wpl_load (ty : TypeId) (x : Operand) (ho : op.op = .load ty x) (hgd : op.guard = none) {g : Nat} {t : TypeId} {c : Cp} {o n : Nat} {d : TypeDesc} (hB : Box w g t c o n) (hx : a.eval x = .pointer (some ⟨g, 0, none⟩)) (hu : P.underlying ty = some d) (hd : d.isRow = true) (hi : (P.info? ty).map (·.size) = some n)
    (h : wpList P ops Q rest (a.put op.dst (.agg (cellsL c o n).toArray)) w) : wpList P ops Q (op :: rest) a w := by
  refine wpList_load_row hgd ty x ho g hx t _ (0, 0) d hB hu ?_ (by rw [cellsL_size]; exact hi) h
  cases d <;> first | rfl | exact hd
theorem wpl_loadm (ty : TypeId) (x : Operand) (ho : op.op = .load ty x) (hgd : op.guard = none) {g p m : Nat} {t : TypeId} {c : Cp} {o n : Nat} {d : TypeDesc} (hB : Box w g t c o n) (hp : p + m ≤ n) (hx : a.eval x = .pointer (some ⟨g, p, none⟩)) (hu : P.underlying ty = some d) (hd : d.isRow = true) (hi : (P.info? ty).map (·.size) = some m)
    (h : wpList P ops Q rest (a.put op.dst (.agg (cellsL c (o + p) m).toArray)) w) : wpList P ops Q (op :: rest) a w :=
  wpList_load_mid hgd ty x ho g p hx _ d (hB.range p m hp) hu hd (by rw [cellsL_len]; exact hi) h
theorem wpl_storem (ty : TypeId) (x y : Operand) (ho : op.op = .store ty x y) (hgd : op.guard = none) {g p m : Nat} {t : TypeId} {c d : Cp} {o n : Nat} (hB : Box w g t c o n) (hp : p + m ≤ n) (hx : a.eval x = .pointer (some ⟨g, p, none⟩)) (hy : a.eval y = .agg (cellsL d (o + p) m).toArray) (hi : (P.info? ty).map (·.size) = some m)
    (h : ∀ w', Box w' g t (mix c d (o + p) m) o n → (∀ k, k ≠ g → w'.heap[k]? = w.heap[k]?) → (∀ B w0, B ≤ g → Below B w0 w → Below B w0 w') → wpList P ops Q rest (a.put op.dst undef) w') : wpList P ops Q (op :: rest) a w :=
  wpList_store_mid hgd ty x y ho g p _ hx hy (by rw [cellsL_size]; exact hB.there p m hp) (by rw [cellsL_size]; exact hi) (cellsL_one _ _ _)
    (h _ (Box.setMany m p hB hp) (fun k hk => setCells_other g _ p w k hk) (fun B w0 hb h0 => below_setCells g hb _ p w h0))
theorem wpl_store (ty : TypeId) (x y : Operand) (ho : op.op = .store ty x y) (hgd : op.guard = none) {g : Nat} {t : TypeId} {c : Cp} {o n : Nat} {old : Array Value} (hold : w.heap[g]? = some (.cells old t (0, 0))) (hs : old.size = n) (hx : a.eval x = .pointer (some ⟨g, 0, none⟩)) (hy : a.eval y = .agg (cellsL c o n).toArray) (hi : (P.info? ty).map (·.size) = some n)
    (h : ∀ w', Box w' g t c o n → (∀ k, k ≠ g → w'.heap[k]? = w.heap[k]?) → (∀ B w0, B ≤ g → Below B w0 w → Below B w0 w') → w'.heap.size = w.heap.size → wpList P ops Q rest (a.put op.dst undef) w') : wpList P ops Q (op :: rest) a w :=
  wpList_plain hgd fun _ hK => wp_store_row ty x y ho g _ hx hy t old hold (by rw [cellsL_size]; exact hi) (by rw [cellsL_size]; exact hs) (cellsL_one c o n)
    (hK _ _ (h _ (setRow_heap w g old _ t _ hold) (fun k hk => setRow_other w g k _ hk) (fun B w0 hB hb => below_setRow hb hB _) (setRow_size _ _ _)))
end
end Go.Proofs.YtbmnifnahbehbaaDoor
