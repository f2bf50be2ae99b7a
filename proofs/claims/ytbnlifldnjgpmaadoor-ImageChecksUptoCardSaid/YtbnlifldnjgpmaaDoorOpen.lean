/- From an argument's reading to the printed walks' facts: what reads as data of a type of whole numbers, bools, strings, slices and structs of these is told by its kind (Kd), its numbers fit, and its bulk bounds its weight. Plain lemmas; each bears its premises. -/
import Derived.Test.YtbnlifldnjgpmaaDoorRows
import Derived.Test.YtbnlifldnjgpmaaDoorWWords
import Derived.ChangeArms
import Derived.DataReads
import Derived.ProofKit
set_option linter.unusedVariables false
namespace Go.Proofs.YtbnlifldnjgpmaaDoor
open Go.RowKit Go.Proofs.YtbnlifldnjgpmaaDoorW.PrintWords

theorem bulk_one {H : Type} (d : DataW H) : 1 ≤ Rows.uptoBulk d := by
  cases d with
  | lit l => cases l <;> simp [Rows.uptoBulk]
  | nil => simp [Rows.uptoBulk]
  | ptr d => simp [Rows.uptoBulk]
  | slice elems spare => simp [Rows.uptoBulk]
  | agg parts => simp [Rows.uptoBulk]
  | iface t d => simp [Rows.uptoBulk]
  | map entries => simp [Rows.uptoBulk]
  | held h => simp [Rows.uptoBulk]
theorem bulk_app {H : Type} (l r : List (DataW H)) : Rows.uptoBulkAll (l ++ r) = Rows.uptoBulkAll l + Rows.uptoBulkAll r := by
  induction l with
  | nil => simp [Rows.uptoBulkAll]
  | cons x l ih => simp only [List.cons_append, Rows.uptoBulkAll, ih]; omega

/-- What reads at type T is of kind d; its numbers fit; its weight is at most its bulk. -/
structure Opens (P : Program) (T : TypeId) {α : Type} (d : Kd α) (ok : α → Prop) (wt : α → Nat) : Prop where
  cells : P.cellsOf T = d.sz
  op : ∀ {H : Type} {enc : TypeId × Value → H} {w : World} {spare : Nat → Bool} {held : Bool} {fuel : Nat} {cs : List Value} {x : DataW H × List MemPlace},
    DataW.trod enc P w 0 spare held fuel T cs = some x → ∃ a, d.K w a cs ∧ ok a ∧ wt a ≤ Rows.uptoBulk x.1

theorem Opens.int {P : Program} {T : TypeId} {k : IntKind} (ht : P.underlying T = some (.int k)) (hc : P.cellsOf T = 1) : Opens P T (Kd.int k) (fun n => (Lit.int k n).wf = true) (fun _ => 1) where
  cells := hc
  op h := by
    obtain ⟨n, rfl, hx, hw⟩ := DataW.trod_int ht h
    exact ⟨n, rfl, hw, bulk_one _⟩
theorem Opens.bool {P : Program} {T : TypeId} (ht : P.underlying T = some .bool) (hc : P.cellsOf T = 1) : Opens P T Kd.bool (fun _ => True) (fun _ => 1) where
  cells := hc
  op h := by
    obtain ⟨n, rfl, hx⟩ := DataW.trod_bool ht h
    exact ⟨n, rfl, trivial, bulk_one _⟩
theorem Opens.string {P : Program} {T : TypeId} (ht : P.underlying T = some .string) (hc : P.cellsOf T = 1) : Opens P T Kd.string (fun _ => True) (fun s => s.size + 1) where
  cells := hc
  op h := by
    obtain ⟨s, rfl, hx, hw⟩ := DataW.trod_string ht h
    refine ⟨s, rfl, trivial, ?_⟩
    rw [hx]
    simp only [Rows.uptoBulk]
    have : s.data.toList.length = s.size := by simp
    omega

/-- The fields from offset o on. -/
structure Fields (P : Program) (fs : List Field) (o : Nat) {α : Type} (d : Kd α) (ok : α → Prop) (wt : α → Nat) : Prop where
  op : ∀ {H : Type} {enc : TypeId × Value → H} {w : World} {spare : Nat → Bool} {held : Bool} {n : Nat} {cs : List Value} {xs : List (DataW H × List MemPlace)},
    cs.length = o + d.sz → xs.length = fs.length →
    (∀ (i : Nat) (f : Field), fs[i]? = some f → DataW.trod enc P w 0 spare held n f.type ((cs.drop f.offset).take (P.cellsOf f.type)) = xs[i]?) →
    ∃ a, d.K w a (cs.drop o) ∧ ok a ∧ wt a ≤ Rows.uptoBulkAll (xs.map (·.1))
theorem Fields.one {P : Program} {f : Field} {o : Nat} {α : Type} {d : Kd α} {ok : α → Prop} {wt : α → Nat} (ho : f.offset = o) (h : Opens P f.type d ok wt) : Fields P [f] o d ok wt where
  op hl hx hf := by
    rename_i H enc w spare held n cs xs
    obtain ⟨x, rfl⟩ : ∃ x, xs = [x] := by
      match xs, hx with
      | [x], _ => exact ⟨x, rfl⟩
    have h1 := hf 0 f rfl
    rw [ho, h.cells, List.take_of_length_le (by simp; omega)] at h1
    obtain ⟨a, hk, hok, hw⟩ := h.op h1
    refine ⟨a, hk, hok, ?_⟩
    simp only [List.map_cons, List.map_nil, Rows.uptoBulkAll]
    omega
theorem Fields.cons {P : Program} {f : Field} {fs : List Field} {o : Nat} {α β : Type} {d : Kd α} {ok : α → Prop} {wt : α → Nat} {d' : Kd β} {ok' : β → Prop} {wt' : β → Nat} (ho : f.offset = o) (h : Opens P f.type d ok wt) (h' : Fields P fs (o + d.sz) d' ok' wt') :
    Fields P (f :: fs) o (Kd.pair d d') (fun p => ok p.1 ∧ ok' p.2) (fun p => wt p.1 + wt' p.2) where
  op hl hx hf := by
    rename_i H enc w spare held n cs xs
    obtain ⟨x, xs, rfl⟩ : ∃ x xs', xs = x :: xs' := by
      match xs, hx with
      | x :: xs', _ => exact ⟨x, xs', rfl⟩
    have hl' : cs.length = o + (d.sz + d'.sz) := hl
    have h1 := hf 0 f rfl
    rw [ho, h.cells] at h1
    obtain ⟨a, hk, hok, hw⟩ := h.op h1
    obtain ⟨b, hk2, hok2, hw2⟩ := h'.op (cs := cs) (xs := xs) (n := n) (enc := enc) (w := w) (spare := spare) (held := held) (by omega) (by simpa using hx) (fun i g hg => by
      have := hf (i + 1) g (by simpa using hg)
      simpa using this)
    refine ⟨(a, b), ⟨_, _, ?_, hk, hk2⟩, ⟨hok, hok2⟩, ?_⟩
    · rw [← List.drop_drop, List.take_append_drop]
    · simp only [List.map_cons, Rows.uptoBulkAll]
      omega
theorem Opens.struct {P : Program} {T : TypeId} {fs : Array Field} {α β : Type} {d : Kd α} {ok : α → Prop} {wt : α → Nat} (g : β → α) (hg : ∀ a, ∃ b, g b = a) (ht : P.underlying T = some (.struct fs)) (hc : P.cellsOf T = d.sz) (h : Fields P fs.toList 0 d ok wt) :
    Opens P T (Kd.iso d g) (fun b => ok (g b)) (fun b => wt (g b) + 1) where
  cells := hc
  op hx := by
    obtain ⟨xs, n, rfl, hx1, hl, hxl, hf⟩ := DataW.trod_struct ht hx
    obtain ⟨a, hk, hok, hw⟩ := h.op (by omega) (by simpa using hxl) (fun i f hi => hf i f (by simpa using hi))
    obtain ⟨b, rfl⟩ := hg a
    refine ⟨b, (show d.K _ (g b) _ from by simpa using hk), hok, ?_⟩
    rw [hx1]
    simp only [Rows.uptoBulk]
    omega

theorem build {α β : Type} (R : α → β → Prop) : ∀ (l : List β), (∀ b ∈ l, ∃ a, R a b) → ∃ ps : List α, ps.length = l.length ∧ ∀ (i : Nat) (b : β), l[i]? = some b → ∃ a, ps[i]? = some a ∧ R a b
  | [], _ => ⟨[], rfl, by simp⟩
  | b :: l, h => by
    obtain ⟨a, ha⟩ := h b (by simp)
    obtain ⟨ps, hl, hps⟩ := build R l (fun c hc => h c (by simp [hc]))
    refine ⟨a :: ps, by simp [hl], fun i c hc => ?_⟩
    cases i with
    | zero => simp at hc; subst hc; exact ⟨a, rfl, ha⟩
    | succ i => simpa using hps i c (by simpa using hc)
theorem sum_le {α β : Type} {wt : α → Nat} {bk : β → Nat} : ∀ (ps : List α) (l : List β), ps.length = l.length → (∀ (i : Nat) (b : β), l[i]? = some b → ∃ a, ps[i]? = some a ∧ wt a ≤ bk b) → (ps.map wt).sum ≤ (l.map bk).sum
  | [], [], _, _ => by simp
  | a :: ps, b :: l, hl, h => by
    have h0 := h 0 b rfl
    simp at h0
    have := sum_le ps l (by simpa using hl) (fun i c hc => by simpa using h (i + 1) c (by simpa using hc))
    simp only [List.map_cons, List.sum_cons]
    omega
theorem bulkAll_sum {H : Type} : ∀ l : List (DataW H), Rows.uptoBulkAll l = (l.map Rows.uptoBulk).sum
  | [] => by simp [Rows.uptoBulkAll]
  | x :: l => by simp only [Rows.uptoBulkAll, List.map_cons, List.sum_cons, bulkAll_sum l]
/-- A slice's elements. -/
theorem Opens.slice {P : Program} {T E e' : TypeId} {α : Type} {d : Kd α} {ok : α → Prop} {wt : α → Nat} (ht : P.underlying T = some (.slice E)) (hc : P.cellsOf T = 1) (h : Opens P E d ok wt) :
    Opens P T (Kd.slice e' d) (fun l => ∀ x ∈ l, ok x) (fun l => (l.map wt).sum + 1) where
  cells := hc
  op hx := by
    rename_i H enc w spare held fuel cs x
    rcases DataW.trod_slice ht hx with ⟨rfl, rfl⟩ | ⟨a, len, cap, elems, rest, n, rfl, rfl, rfl, hb, hlc, hcm, hel, hf, _⟩
    · exact ⟨[], ⟨none, 0, rfl, by simp, Kd.C_nil d w⟩, by simp, by simp [Rows.uptoBulk]⟩
    · have key : ∀ i y, elems[i]? = some y → ∃ p c, c.length = d.sz ∧ d.K w p c ∧ (ok p ∧ wt p ≤ Rows.uptoBulk y.1) ∧ ∀ j u, c[j]? = some u → w.cell? (a.add (i * d.sz + j)) = some u := by
        intro i y hy
        have hi : i < len := by
          have := (List.getElem?_eq_some_iff.1 hy).1
          omega
        have h1 := hf i hi
        rw [hy, h.cells] at h1
        obtain ⟨c, hc1, hc2⟩ := Option.bind_eq_some_iff.1 h1
        obtain ⟨p, hk, hok, hw⟩ := h.op hc2
        obtain ⟨_, hl, hcell⟩ := World.cells?_some hc1
        refine ⟨p, c, hl, hk, ⟨hok, hw⟩, fun j u hj => ?_⟩
        have hjl : j < d.sz := by
          have := (List.getElem?_eq_some_iff.1 hj).1
          omega
        rw [← Addr.add_add, hcell j hjl, hj]
      obtain ⟨ps, hpl, hps⟩ := build (fun (p : α) (z : Nat × (DataW H × List MemPlace)) => ∃ c, c.length = d.sz ∧ d.K w p c ∧ (ok p ∧ wt p ≤ Rows.uptoBulk z.2.1) ∧ ∀ j u, c[j]? = some u → w.cell? (a.add (z.1 * d.sz + j)) = some u)
        (elems.zipIdx.map fun z => (z.2, z.1)) (fun z hz => by
          obtain ⟨⟨y, i⟩, hy, rfl⟩ := List.mem_map.1 hz
          have := List.mem_zipIdx_iff_getElem?.1 hy
          exact key i y this)
      have hat : ∀ (i : Nat) (y : DataW H × List MemPlace), elems[i]? = some y → ∃ p, ps[i]? = some p ∧ ∃ c, c.length = d.sz ∧ d.K w p c ∧ (ok p ∧ wt p ≤ Rows.uptoBulk y.1) ∧ ∀ j u, c[j]? = some u → w.cell? (a.add (i * d.sz + j)) = some u := by
        intro i y hy
        exact hps i (i, y) (by simp [hy])
      have hpl' : ps.length = elems.length := by simpa using hpl
      have back : ∀ i p, ps[i]? = some p → ∃ y, elems[i]? = some y := fun i p hp => by
        have := (List.getElem?_eq_some_iff.1 hp).1
        exact ⟨elems[i]'(by omega), List.getElem?_eq_getElem (by omega)⟩
      refine ⟨ps, ⟨some a, cap, by rw [hpl', hel], by omega, ⟨rfl, by unfold maxLen at hcm; omega, fun _ => ⟨a, rfl, fun j p hp => ?_⟩⟩⟩, fun p hp => ?_, ?_⟩
      · obtain ⟨y, hy⟩ := back j p hp
        obtain ⟨p', hp', c, h1, h2, _, h4⟩ := hat j y hy
        rw [hp] at hp'
        cases hp'
        exact ⟨c, h1, h2, h4⟩
      · obtain ⟨i, hi⟩ := List.getElem?_of_mem hp
        obtain ⟨y, hy⟩ := back i p hi
        obtain ⟨p', hp', c, _, _, h3, _⟩ := hat i y hy
        rw [hi] at hp'
        cases hp'
        exact h3.1
      · have hs := sum_le (wt := wt) (bk := fun y : DataW H × List MemPlace => Rows.uptoBulk y.1) ps elems hpl' (fun i y hy => by
          obtain ⟨p, hp, c, _, _, h3, _⟩ := hat i y hy
          exact ⟨p, hp, h3.2⟩)
        simp only [Rows.uptoBulk, bulkAll_sum, List.map_map]
        have e1 : (elems.map (Rows.uptoBulk ∘ fun x => x.1)).sum = (elems.map fun y : DataW H × List MemPlace => Rows.uptoBulk y.1).sum := rfl
        omega
end Go.Proofs.YtbnlifldnjgpmaaDoor
