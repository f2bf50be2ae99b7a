/- The argument and the world of the row. -/
import Derived.Test.YtbnlifldnjgpmaaGreatDoorCGr4
import Derived.Test.YtbnlifldnjgpmaaGreatDoorRows
import Derived.Test.YtbnlifldnjgpmaaGreatDoorCWds1
import Derived.ChangeArms
import Derived.DataReads
import Derived.ProofKit
import Derived.Test.YtbnlifldnjgpmaaGreatDoorCGr1
import Derived.Deep.DeepHandedRow
import Derived.Deep.DeepWitnessRowRef
import Derived.SizedLaws
import Derived.LaidLaws
import Derived.LaidHandle
/- From an argument's reading to the printed walks' facts: what reads as data of a type of whole numbers, bools, strings, slices and structs of these is told by its kind (Kd), its numbers fit, and its bulk bounds its weight. Plain lemmas; each bears its premises. -/
set_option linter.unusedVariables false
namespace Go.Proofs.YtbnlifldnjgpmaaGreatDoor
open Go.RowKit Go.Proofs.YtbnlifldnjgpmaaGreatDoorW.PrintWords
theorem bulk_one {H : Type} (d : DataW H) : 1 ≤ Rows.uptoBulk d := by
 cases d with
 | lit l => cases l <;> simp [Rows.uptoBulk]
 | nil => simp [Rows.uptoBulk]
 | ptr d => simp [Rows.uptoBulk]
 | slice elems spare => simp [Rows.uptoBulk]
 | agg parts => simp [Rows.uptoBulk]
 | iface t d => simp [Rows.uptoBulk]
 | map entries => simp [Rows.uptoBulk]
 | held h => simp [Rows.uptoBulk]
theorem bulk_app {H : Type} (l r : List (DataW H)) : Rows.uptoBulkAll (l ++ r) = Rows.uptoBulkAll l + Rows.uptoBulkAll r := by
 induction l with
 | nil => simp [Rows.uptoBulkAll]
 | cons x l ih => simp only [List.cons_append, Rows.uptoBulkAll, ih]; omega
/-- What reads at type T is of kind d; its numbers fit; its weight is at most its bulk. -/
structure Opens (P : Program) (T : TypeId) {α : Type} (d : Kd α) (ok : α → Prop) (wt : α → Nat) : Prop where
 cells : P.cellsOf T = d.sz
 op : ∀ {H : Type} {enc : TypeId × Value → H} {w : World} {spare : Nat → Bool} {held : Bool} {fuel : Nat} {cs : List Value} {x : DataW H × List MemPlace},
  DataW.trod enc P w 0 spare held fuel T cs = some x → ∃ a, d.K w a cs ∧ ok a ∧ wt a ≤ Rows.uptoBulk x.1
theorem Opens.int {P : Program} {T : TypeId} {k : IntKind} (ht : P.underlying T = some (.int k)) (hc : P.cellsOf T = 1) : Opens P T (Kd.int k) (fun n => (Lit.int k n).wf = true) (fun _ => 1) where
 cells := hc
 op h := by
  obtain ⟨n, rfl, hx, hw⟩ := DataW.trod_int ht h
  exact ⟨n, rfl, hw, bulk_one _⟩
theorem Opens.bool {P : Program} {T : TypeId} (ht : P.underlying T = some .bool) (hc : P.cellsOf T = 1) : Opens P T Kd.bool (fun _ => True) (fun _ => 1) where
 cells := hc
 op h := by
  obtain ⟨n, rfl, hx⟩ := DataW.trod_bool ht h
  exact ⟨n, rfl, trivial, bulk_one _⟩
theorem Opens.string {P : Program} {T : TypeId} (ht : P.underlying T = some .string) (hc : P.cellsOf T = 1) : Opens P T Kd.string (fun _ => True) (fun s => s.size + 1) where
 cells := hc
 op h := by
  obtain ⟨s, rfl, hx, hw⟩ := DataW.trod_string ht h
  refine ⟨s, rfl, trivial, ?_⟩
  rw [hx]
  simp only [Rows.uptoBulk]
  have : s.data.toList.length = s.size := by simp
  omega
/-- The fields from offset o on. -/
structure Fields (P : Program) (fs : List Field) (o : Nat) {α : Type} (d : Kd α) (ok : α → Prop) (wt : α → Nat) : Prop where
 op : ∀ {H : Type} {enc : TypeId × Value → H} {w : World} {spare : Nat → Bool} {held : Bool} {n : Nat} {cs : List Value} {xs : List (DataW H × List MemPlace)},
  cs.length = o + d.sz → xs.length = fs.length →
  (∀ (i : Nat) (f : Field), fs[i]? = some f → DataW.trod enc P w 0 spare held n f.type ((cs.drop f.offset).take (P.cellsOf f.type)) = xs[i]?) →
  ∃ a, d.K w a (cs.drop o) ∧ ok a ∧ wt a ≤ Rows.uptoBulkAll (xs.map (·.1))
theorem Fields.one {P : Program} {f : Field} {o : Nat} {α : Type} {d : Kd α} {ok : α → Prop} {wt : α → Nat} (ho : f.offset = o) (h : Opens P f.type d ok wt) : Fields P [f] o d ok wt where
 op hl hx hf := by
  rename_i H enc w spare held n cs xs
  obtain ⟨x, rfl⟩ : ∃ x, xs = [x] := by
   match xs, hx with
   | [x], _ => exact ⟨x, rfl⟩
  have h1 := hf 0 f rfl
  rw [ho, h.cells, List.take_of_length_le (by simp; omega)] at h1
  obtain ⟨a, hk, hok, hw⟩ := h.op h1
  refine ⟨a, hk, hok, ?_⟩
  simp only [List.map_cons, List.map_nil, Rows.uptoBulkAll]
  omega
theorem Fields.cons {P : Program} {f : Field} {fs : List Field} {o : Nat} {α β : Type} {d : Kd α} {ok : α → Prop} {wt : α → Nat} {d' : Kd β} {ok' : β → Prop} {wt' : β → Nat} (ho : f.offset = o) (h : Opens P f.type d ok wt) (h' : Fields P fs (o + d.sz) d' ok' wt') :
 Fields P (f :: fs) o (Kd.pair d d') (fun p => ok p.1 ∧ ok' p.2) (fun p => wt p.1 + wt' p.2) where
 op hl hx hf := by
  rename_i H enc w spare held n cs xs
  obtain ⟨x, xs, rfl⟩ : ∃ x xs', xs = x :: xs' := by
   match xs, hx with
   | x :: xs', _ => exact ⟨x, xs', rfl⟩
  have hl' : cs.length = o + (d.sz + d'.sz) := hl
  have h1 := hf 0 f rfl
  rw [ho, h.cells] at h1
  obtain ⟨a, hk, hok, hw⟩ := h.op h1
  obtain ⟨b, hk2, hok2, hw2⟩ := h'.op (cs := cs) (xs := xs) (n := n) (enc := enc) (w := w) (spare := spare) (held := held) (by omega) (by simpa using hx) (fun i g hg => by
   have := hf (i + 1) g (by simpa using hg)
   simpa using this)
  refine ⟨(a, b), ⟨_, _, ?_, hk, hk2⟩, ⟨hok, hok2⟩, ?_⟩
  ·rw [← List.drop_drop, List.take_append_drop]
  ·simp only [List.map_cons, Rows.uptoBulkAll]
   omega
theorem Opens.struct {P : Program} {T : TypeId} {fs : Array Field} {α β : Type} {d : Kd α} {ok : α → Prop} {wt : α → Nat} (g : β → α) (hg : ∀ a, ∃ b, g b = a) (ht : P.underlying T = some (.struct fs)) (hc : P.cellsOf T = d.sz) (h : Fields P fs.toList 0 d ok wt) :
 Opens P T (Kd.iso d g) (fun b => ok (g b)) (fun b => wt (g b) + 1) where
 cells := hc
 op hx := by
  obtain ⟨xs, n, rfl, hx1, hl, hxl, hf⟩ := DataW.trod_struct ht hx
  obtain ⟨a, hk, hok, hw⟩ := h.op (by omega) (by simpa using hxl) (fun i f hi => hf i f (by simpa using hi))
  obtain ⟨b, rfl⟩ := hg a
  refine ⟨b, (show d.K _ (g b) _ from by simpa using hk), hok, ?_⟩
  rw [hx1]
  simp only [Rows.uptoBulk]
  omega
theorem build {α β : Type} (R : α → β → Prop) : ∀ (l : List β), (∀ b ∈ l, ∃ a, R a b) → ∃ ps : List α, ps.length = l.length ∧ ∀ (i : Nat) (b : β), l[i]? = some b → ∃ a, ps[i]? = some a ∧ R a b
 | [], _ => ⟨[], rfl, by simp⟩
 | b :: l, h => by
  obtain ⟨a, ha⟩ := h b (by simp)
  obtain ⟨ps, hl, hps⟩ := build R l (fun c hc => h c (by simp [hc]))
  refine ⟨a :: ps, by simp [hl], fun i c hc => ?_⟩
  cases i with
  | zero => simp at hc; subst hc; exact ⟨a, rfl, ha⟩
  | succ i => simpa using hps i c (by simpa using hc)
theorem sum_le {α β : Type} {wt : α → Nat} {bk : β → Nat} : ∀ (ps : List α) (l : List β), ps.length = l.length → (∀ (i : Nat) (b : β), l[i]? = some b → ∃ a, ps[i]? = some a ∧ wt a ≤ bk b) → (ps.map wt).sum ≤ (l.map bk).sum
 | [], [], _, _ => by simp
 | a :: ps, b :: l, hl, h => by
  have h0 := h 0 b rfl
  simp at h0
  have := sum_le ps l (by simpa using hl) (fun i c hc => by simpa using h (i + 1) c (by simpa using hc))
  simp only [List.map_cons, List.sum_cons]
  omega
theorem bulkAll_sum {H : Type} : ∀ l : List (DataW H), Rows.uptoBulkAll l = (l.map Rows.uptoBulk).sum
 | [] => by simp [Rows.uptoBulkAll]
 | x :: l => by simp only [Rows.uptoBulkAll, List.map_cons, List.sum_cons, bulkAll_sum l]
/-- A slice's elements. -/
theorem Opens.slice {P : Program} {T E e' : TypeId} {α : Type} {d : Kd α} {ok : α → Prop} {wt : α → Nat} (ht : P.underlying T = some (.slice E)) (hc : P.cellsOf T = 1) (h : Opens P E d ok wt) :
 Opens P T (Kd.slice e' d) (fun l => ∀ x ∈ l, ok x) (fun l => (l.map wt).sum + 1) where
 cells := hc
 op hx := by
  rename_i H enc w spare held fuel cs x
  rcases DataW.trod_slice ht hx with ⟨rfl, rfl⟩ | ⟨a, len, cap, elems, rest, n, rfl, rfl, rfl, hb, hlc, hcm, hel, hf, _⟩
  ·exact ⟨[], ⟨none, 0, rfl, by simp, Kd.C_nil d w⟩, by simp, by simp [Rows.uptoBulk]⟩
  ·have key : ∀ i y, elems[i]? = some y → ∃ p c, c.length = d.sz ∧ d.K w p c ∧ (ok p ∧ wt p ≤ Rows.uptoBulk y.1) ∧ ∀ j u, c[j]? = some u → w.cell? (a.add (i * d.sz + j)) = some u := by
    intro i y hy
    have hi : i < len := by
     have := (List.getElem?_eq_some_iff.1 hy).1
     omega
    have h1 := hf i hi
    rw [hy, h.cells] at h1
    obtain ⟨c, hc1, hc2⟩ := Option.bind_eq_some_iff.1 h1
    obtain ⟨p, hk, hok, hw⟩ := h.op hc2
    obtain ⟨_, hl, hcell⟩ := World.cells?_some hc1
    refine ⟨p, c, hl, hk, ⟨hok, hw⟩, fun j u hj => ?_⟩
    have hjl : j < d.sz := by
     have := (List.getElem?_eq_some_iff.1 hj).1
     omega
    rw [← Addr.add_add, hcell j hjl, hj]
   obtain ⟨ps, hpl, hps⟩ := build (fun (p : α) (z : Nat × (DataW H × List MemPlace)) => ∃ c, c.length = d.sz ∧ d.K w p c ∧ (ok p ∧ wt p ≤ Rows.uptoBulk z.2.1) ∧ ∀ j u, c[j]? = some u → w.cell? (a.add (z.1 * d.sz + j)) = some u)
    (elems.zipIdx.map fun z => (z.2, z.1)) (fun z hz => by
     obtain ⟨⟨y, i⟩, hy, rfl⟩ := List.mem_map.1 hz
     have := List.mem_zipIdx_iff_getElem?.1 hy
     exact key i y this)
   have hat : ∀ (i : Nat) (y : DataW H × List MemPlace), elems[i]? = some y → ∃ p, ps[i]? = some p ∧ ∃ c, c.length = d.sz ∧ d.K w p c ∧ (ok p ∧ wt p ≤ Rows.uptoBulk y.1) ∧ ∀ j u, c[j]? = some u → w.cell? (a.add (i * d.sz + j)) = some u := by
    intro i y hy
    exact hps i (i, y) (by simp [hy])
   have hpl' : ps.length = elems.length := by simpa using hpl
   have back : ∀ i p, ps[i]? = some p → ∃ y, elems[i]? = some y := fun i p hp => by
    have := (List.getElem?_eq_some_iff.1 hp).1
    exact ⟨elems[i]'(by omega), List.getElem?_eq_getElem (by omega)⟩
   refine ⟨ps, ⟨some a, cap, by rw [hpl', hel], by omega, ⟨rfl, by unfold maxLen at hcm; omega, fun _ => ⟨a, rfl, fun j p hp => ?_⟩⟩⟩, fun p hp => ?_, ?_⟩
   ·obtain ⟨y, hy⟩ := back j p hp
    obtain ⟨p', hp', c, h1, h2, _, h4⟩ := hat j y hy
    rw [hp] at hp'
    cases hp'
    exact ⟨c, h1, h2, h4⟩
   ·obtain ⟨i, hi⟩ := List.getElem?_of_mem hp
    obtain ⟨y, hy⟩ := back i p hi
    obtain ⟨p', hp', c, _, _, h3, _⟩ := hat i y hy
    rw [hi] at hp'
    cases hp'
    exact h3.1
   ·have hs := sum_le (wt := wt) (bk := fun y : DataW H × List MemPlace => Rows.uptoBulk y.1) ps elems hpl' (fun i y hy => by
     obtain ⟨p, hp, c, _, _, h3, _⟩ := hat i y hy
     exact ⟨p, hp, h3.2⟩)
    simp only [Rows.uptoBulk, bulkAll_sum, List.map_map]
    have e1 : (elems.map (Rows.uptoBulk ∘ fun x => x.1)).sum = (elems.map fun y : DataW H × List MemPlace => Rows.uptoBulk y.1).sum := rfl
    omega
end Go.Proofs.YtbnlifldnjgpmaaGreatDoor
/- A world in which the listed variables hold what their initialisers lay, errors.errorType too: for the witness of a row that lists them. -/
set_option linter.unusedVariables false
namespace Go.Proofs.YtbnlifldnjgpmaaGreatDoor
open Go.ChangeShapes Go.WideShapes Go.ChangeAt Go.RowKit Go.Lib Go.Shelf
theorem own : ownKnob Tryz.prog.godebug = none := by kernel_rfl
theorem laidOut : laidOutB Tryz.prog = true := by kernel_rfl
/-- The rows of the list that are read as data. -/
def restList : List (String × DataW Unit) := [("unicode/utf8.acceptRanges", Lib.acceptData), ("unicode.properties", Lib.tabData .u8 Lib.propertiesTab), ("unicode.Letter", Lib.rtabData Lib.letterT), ("unicode/utf8.first", Lib.firstData)]
theorem rest_eq : theList.filter (fun x => x.2.handleName?.isNone) = restList := by kernel_rfl
theorem hand_eq : theList.filter (fun x => x.2.handleName?.isSome) = [("errors.errorType", Rows.laid_errors_errorType)] := by kernel_rfl
theorem split_laid {W : World} (h : laidMetH Tryz.prog theList W) : laidMet Tryz.prog restList W ∧ handlesMet Tryz.prog [("errors.errorType", Rows.laid_errors_errorType)] W := by
 unfold laidMetH at h
 rw [hand_eq, rest_eq] at h
 exact h
theorem glob_of_rest {W : World} (hL : laidMet Tryz.prog restList W) : Glob W :=
 ⟨tabIs_of_reads gProps gPropsType Tryz.underlying160 Tryz.underlying5 cells5 cellsTab (Lib.laidMet.reads hL (.tail _ (.head _))),
  rvar_of_reads { Tryz.laysLetter with } xL (by kernel_rfl) (by kernel_rfl) (Lib.laidMet.reads hL (.tail _ (.tail _ (.head _)))),
  utf8Tabs_of_readsT (U8Types.of196 Tryz.laysValid) ⟨by kernel_rfl, by kernel_rfl, by kernel_rfl, by kernel_rfl, by kernel_rfl, by kernel_rfl, by kernel_rfl⟩ (Lib.laidMet.reads hL (.tail _ (.tail _ (.tail _ (.head _))))) (Lib.laidMet.reads hL (.head _))⟩
theorem gErr : Tryz.prog.globalNamed "errors.errorType" = some 0 := by kernel_rfl
theorem tRtype : (Tryz.prog.cutTypes.find? (·.1 == "internal/reflectlite.rtype")).map (·.2) = some 141 := by kernel_rfl
theorem oneRow : ((List.range Tryz.prog.types.size).filter fun t => Tryz.prog.rowNamed t [101, 114, 114, 111, 114]) = [30] := by kernel_rfl
theorem errT_of_laid {W : World} (h : handlesMet Tryz.prog [("errors.errorType", Rows.laid_errors_errorType)] W) : ErrT W := by
 obtain ⟨name, u, ty, e1, e2, e3, e4, e5⟩ := h _ (List.mem_singleton.2 rfl)
 have en : name = [101, 114, 114, 111, 114] := (Option.some.inj e1).symm
 subst en
 obtain rfl := Option.some.inj (tRtype.symm.trans e2)
 have hm : ty ∈ (List.range Tryz.prog.types.size).filter fun t => Tryz.prog.rowNamed t [101, 114, 114, 111, 114] := List.mem_filter.2 ⟨List.mem_range.2 e3, e4⟩
 rw [oneRow] at hm
 obtain rfl := List.mem_singleton.1 hm
 have hh : typeHandle Tryz.prog 30 = .pointer (some ⟨6, 30, none⟩) := by kernel_rfl
 rw [hh] at e5
 unfold ErrT
 simpa using World.var?_cell gErr e5 0
noncomputable abbrev N0 : Nat := (World.settled Tryz.prog default).heap.size
noncomputable def laidWorld (os : Os) : World :=
 let N := (World.settled Tryz.prog os).heap.size
 let ρ := Tryz.laysLetter_ren
 let w0 := World.holding Tryz.prog os ⟨#[
  .cells (rgCells .u16 letterT.r16) (ρ.t 198), .cells (rgCells .u32 letterT.r32) (ρ.t 201),
  .cells #[.slice (some ⟨N, 0, none⟩) letterT.r16.size letterT.r16.size, .slice (some ⟨N + 1, 0, none⟩) letterT.r32.size letterT.r32.size, .int .i64 letterT.off] (ρ.t 196)], #[], []⟩
 let put (h : Array Obj) (g : Nat) (cs : Array Value) : Array Obj := h.modify g fun
  | .cells _ t frozen => .cells cs t frozen
  | o => o
 let h0 := put w0.heap 0 #[.iface 141 (.agg #[.pointer (some ⟨6, 30, none⟩)])]
 let h1 := put h0 3 (Lib.propertiesTab.map fun z => Value.int .u8 z).toArray
 let h2 := put h1 4 #[.pointer (some ⟨N + 2, 0, none⟩)]
 let h3 := put h2 1 (Lib.firstTab.map fun z => Value.int .u8 z).toArray
 let h4 := put h3 2 ((List.range 16).flatMap fun i => [Value.int .u8 (Lib.accLo i), Value.int .u8 (Lib.accHi i)]).toArray
 { w0 with heap := h4 }
noncomputable abbrev laidMem (os : Os) (args : Array Value) : World := ((laidWorld os).forCall (fun _ _ => 0) ⟨#[], args, []⟩).memory
theorem piece0 (os : Os) (args : Array Value) : LaidIn Tryz.prog (laidMem os args) [("unicode/utf8.acceptRanges", Lib.acceptData), ("unicode.properties", Lib.tabData .u8 Lib.propertiesTab)] [2, 3] :=
 LaidIn.of_run [2, 3] 8 (by kernel_rfl) (by kernel_rfl) (by kernel_rfl) (by kernel_rfl)
theorem piece1 (os : Os) (args : Array Value) : LaidIn Tryz.prog (laidMem os args) [("unicode.Letter", Lib.rtabData letterT)] [4, N0 + 2, N0, N0 + 1] :=
 laidIn_rtab (ρ := Tryz.laysLetter_ren) { Tryz.laysLetter with } xL (by kernel_rfl) (by kernel_rfl) letterT (N0 + 2) N0 (N0 + 1) (Tryz.laysLetter_ren.t 198) (Tryz.laysLetter_ren.t 201)
  (by kernel_rfl) (by kernel_rfl) (by kernel_rfl) (by kernel_rfl) (by kernel_rfl) (of_decide_eq_true (by kernel_rfl)) (of_decide_eq_true (by kernel_rfl)) (of_decide_eq_true (by kernel_rfl))
theorem piece2 (os : Os) (args : Array Value) : LaidIn Tryz.prog (laidMem os args) [("unicode/utf8.first", Lib.firstData)] [1] :=
 LaidIn.of_run [1] 8 (by kernel_rfl) (by kernel_rfl) (by kernel_rfl) (by kernel_rfl)
theorem laid_met (os : Os) (args : Array Value) : laidMet Tryz.prog restList (laidMem os args) :=
 (((piece0 os args).append (piece1 os args) (by kernel_rfl)).append (piece2 os args) (by kernel_rfl)).met
theorem laid_metH (os : Os) (args : Array Value) : laidMetH Tryz.prog theList (laidMem os args) := by
 refine laidMetH_of_parts ?_ ?_
 ·rw [rest_eq]
  exact laid_met os args
 ·rw [hand_eq]
  kernel_rfl
end Go.Proofs.YtbnlifldnjgpmaaGreatDoor
