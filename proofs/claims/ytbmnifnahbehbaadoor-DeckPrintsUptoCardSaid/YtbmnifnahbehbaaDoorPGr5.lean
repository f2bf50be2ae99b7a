/- From an argument's reading to the printed walks' facts: what reads as data of a type of whole numbers, bools, strings, slices and structs of these is told by its kind (Kd), its numbers fit, and its bulk bounds its weight. Plain lemmas; each bears its premises. -/
import Derived.Test.YtbmnifnahbehbaaDoorRows
import Derived.Test.YtbmnifnahbehbaaDoorPWds1
import Derived.ChangeArms
import Derived.DataReads
import Derived.ProofKit
import Derived.Test.YtbmnifnahbehbaaDoorPGr4
import Derived.OpenShut
import Derived.Test.YtbmnifnahbehbaaDoorPGr1
import Derived.Deep.DeepHandedRow
import Derived.Deep.DeepWitnessRowRef
import Derived.Deep.DeepLaidRun
import Derived.Lib.LaidIn
import Derived.Lib.LaidU8
import Derived.SizedLaws
set_option linter.unusedVariables false
namespace Go.Proofs.YtbmnifnahbehbaaDoor
open Go.RowKit Go.Proofs.YtbmnifnahbehbaaDoorW.PrintWords

theorem bulk_one {H : Type} (d : DataW H) : 1 ≤ Rows.uptoBulk d := by
  cases d with
  | lit l => cases l <;> simp [Rows.uptoBulk]
  | nil => simp [Rows.uptoBulk]
  | ptr d => simp [Rows.uptoBulk]
  | slice elems spare => simp [Rows.uptoBulk]
  | agg parts => simp [Rows.uptoBulk]
  | iface t d => simp [Rows.uptoBulk]
  | map entries => simp [Rows.uptoBulk]
  | held h => simp [Rows.uptoBulk]
theorem bulk_app {H : Type} (l r : List (DataW H)) : Rows.uptoBulkAll (l ++ r) = Rows.uptoBulkAll l + Rows.uptoBulkAll r := by
  induction l with
  | nil => simp [Rows.uptoBulkAll]
  | cons x l ih => simp only [List.cons_append, Rows.uptoBulkAll, ih]; omega

/-- What reads at type T is of kind d; its numbers fit; its weight is at most its bulk. -/
structure Opens (P : Program) (T : TypeId) {α : Type} (d : Kd α) (ok : α → Prop) (wt : α → Nat) : Prop where
  cells : P.cellsOf T = d.sz
  op : ∀ {H : Type} {enc : TypeId × Value → H} {w : World} {spare : Nat → Bool} {held : Bool} {fuel : Nat} {cs : List Value} {x : DataW H × List MemPlace},
    DataW.trod enc P w 0 spare held fuel T cs = some x → ∃ a, d.K w a cs ∧ ok a ∧ wt a ≤ Rows.uptoBulk x.1

theorem Opens.int {P : Program} {T : TypeId} {k : IntKind} (ht : P.underlying T = some (.int k)) (hc : P.cellsOf T = 1) : Opens P T (Kd.int k) (fun n => (Lit.int k n).wf = true) (fun _ => 1) where
  cells := hc
  op h := by
    obtain ⟨n, rfl, hx, hw⟩ := DataW.trod_int ht h
    exact ⟨n, rfl, hw, bulk_one _⟩
theorem Opens.bool {P : Program} {T : TypeId} (ht : P.underlying T = some .bool) (hc : P.cellsOf T = 1) : Opens P T Kd.bool (fun _ => True) (fun _ => 1) where
  cells := hc
  op h := by
    obtain ⟨n, rfl, hx⟩ := DataW.trod_bool ht h
    exact ⟨n, rfl, trivial, bulk_one _⟩
theorem Opens.string {P : Program} {T : TypeId} (ht : P.underlying T = some .string) (hc : P.cellsOf T = 1) : Opens P T Kd.string (fun _ => True) (fun s => s.size + 1) where
  cells := hc
  op h := by
    obtain ⟨s, rfl, hx, hw⟩ := DataW.trod_string ht h
    refine ⟨s, rfl, trivial, ?_⟩
    rw [hx]
    simp only [Rows.uptoBulk]
    have : s.data.toList.length = s.size := by simp
    omega

/-- The fields from offset o on. -/
structure Fields (P : Program) (fs : List Field) (o : Nat) {α : Type} (d : Kd α) (ok : α → Prop) (wt : α → Nat) : Prop where
  op : ∀ {H : Type} {enc : TypeId × Value → H} {w : World} {spare : Nat → Bool} {held : Bool} {n : Nat} {cs : List Value} {xs : List (DataW H × List MemPlace)},
    cs.length = o + d.sz → xs.length = fs.length →
    (∀ (i : Nat) (f : Field), fs[i]? = some f → DataW.trod enc P w 0 spare held n f.type ((cs.drop f.offset).take (P.cellsOf f.type)) = xs[i]?) →
    ∃ a, d.K w a (cs.drop o) ∧ ok a ∧ wt a ≤ Rows.uptoBulkAll (xs.map (·.1))
theorem Fields.one {P : Program} {f : Field} {o : Nat} {α : Type} {d : Kd α} {ok : α → Prop} {wt : α → Nat} (ho : f.offset = o) (h : Opens P f.type d ok wt) : Fields P [f] o d ok wt where
  op hl hx hf := by
    rename_i H enc w spare held n cs xs
    obtain ⟨x, rfl⟩ : ∃ x, xs = [x] := by
      match xs, hx with
      | [x], _ => exact ⟨x, rfl⟩
    have h1 := hf 0 f rfl
    rw [ho, h.cells, List.take_of_length_le (by simp; omega)] at h1
    obtain ⟨a, hk, hok, hw⟩ := h.op h1
    refine ⟨a, hk, hok, ?_⟩
    simp only [List.map_cons, List.map_nil, Rows.uptoBulkAll]
    omega
theorem Fields.cons {P : Program} {f : Field} {fs : List Field} {o : Nat} {α β : Type} {d : Kd α} {ok : α → Prop} {wt : α → Nat} {d' : Kd β} {ok' : β → Prop} {wt' : β → Nat} (ho : f.offset = o) (h : Opens P f.type d ok wt) (h' : Fields P fs (o + d.sz) d' ok' wt') :
    Fields P (f :: fs) o (Kd.pair d d') (fun p => ok p.1 ∧ ok' p.2) (fun p => wt p.1 + wt' p.2) where
  op hl hx hf := by
    rename_i H enc w spare held n cs xs
    obtain ⟨x, xs, rfl⟩ : ∃ x xs', xs = x :: xs' := by
      match xs, hx with
      | x :: xs', _ => exact ⟨x, xs', rfl⟩
    have hl' : cs.length = o + (d.sz + d'.sz) := hl
    have h1 := hf 0 f rfl
    rw [ho, h.cells] at h1
    obtain ⟨a, hk, hok, hw⟩ := h.op h1
    obtain ⟨b, hk2, hok2, hw2⟩ := h'.op (cs := cs) (xs := xs) (n := n) (enc := enc) (w := w) (spare := spare) (held := held) (by omega) (by simpa using hx) (fun i g hg => by
      have := hf (i + 1) g (by simpa using hg)
      simpa using this)
    refine ⟨(a, b), ⟨_, _, ?_, hk, hk2⟩, ⟨hok, hok2⟩, ?_⟩
    · rw [← List.drop_drop, List.take_append_drop]
    · simp only [List.map_cons, Rows.uptoBulkAll]
      omega
theorem Opens.struct {P : Program} {T : TypeId} {fs : Array Field} {α β : Type} {d : Kd α} {ok : α → Prop} {wt : α → Nat} (g : β → α) (hg : ∀ a, ∃ b, g b = a) (ht : P.underlying T = some (.struct fs)) (hc : P.cellsOf T = d.sz) (h : Fields P fs.toList 0 d ok wt) :
    Opens P T (Kd.iso d g) (fun b => ok (g b)) (fun b => wt (g b) + 1) where
  cells := hc
  op hx := by
    obtain ⟨xs, n, rfl, hx1, hl, hxl, hf⟩ := DataW.trod_struct ht hx
    obtain ⟨a, hk, hok, hw⟩ := h.op (by omega) (by simpa using hxl) (fun i f hi => hf i f (by simpa using hi))
    obtain ⟨b, rfl⟩ := hg a
    refine ⟨b, (show d.K _ (g b) _ from by simpa using hk), hok, ?_⟩
    rw [hx1]
    simp only [Rows.uptoBulk]
    omega

theorem build {α β : Type} (R : α → β → Prop) : ∀ (l : List β), (∀ b ∈ l, ∃ a, R a b) → ∃ ps : List α, ps.length = l.length ∧ ∀ (i : Nat) (b : β), l[i]? = some b → ∃ a, ps[i]? = some a ∧ R a b
  | [], _ => ⟨[], rfl, by simp⟩
  | b :: l, h => by
    obtain ⟨a, ha⟩ := h b (by simp)
    obtain ⟨ps, hl, hps⟩ := build R l (fun c hc => h c (by simp [hc]))
    refine ⟨a :: ps, by simp [hl], fun i c hc => ?_⟩
    cases i with
    | zero => simp at hc; subst hc; exact ⟨a, rfl, ha⟩
    | succ i => simpa using hps i c (by simpa using hc)
theorem sum_le {α β : Type} {wt : α → Nat} {bk : β → Nat} : ∀ (ps : List α) (l : List β), ps.length = l.length → (∀ (i : Nat) (b : β), l[i]? = some b → ∃ a, ps[i]? = some a ∧ wt a ≤ bk b) → (ps.map wt).sum ≤ (l.map bk).sum
  | [], [], _, _ => by simp
  | a :: ps, b :: l, hl, h => by
    have h0 := h 0 b rfl
    simp at h0
    have := sum_le ps l (by simpa using hl) (fun i c hc => by simpa using h (i + 1) c (by simpa using hc))
    simp only [List.map_cons, List.sum_cons]
    omega
theorem bulkAll_sum {H : Type} : ∀ l : List (DataW H), Rows.uptoBulkAll l = (l.map Rows.uptoBulk).sum
  | [] => by simp [Rows.uptoBulkAll]
  | x :: l => by simp only [Rows.uptoBulkAll, List.map_cons, List.sum_cons, bulkAll_sum l]
/-- A slice's elements. -/
theorem Opens.slice {P : Program} {T E e' : TypeId} {α : Type} {d : Kd α} {ok : α → Prop} {wt : α → Nat} (ht : P.underlying T = some (.slice E)) (hc : P.cellsOf T = 1) (h : Opens P E d ok wt) :
    Opens P T (Kd.slice e' d) (fun l => ∀ x ∈ l, ok x) (fun l => (l.map wt).sum + 1) where
  cells := hc
  op hx := by
    rename_i H enc w spare held fuel cs x
    rcases DataW.trod_slice ht hx with ⟨rfl, rfl⟩ | ⟨a, len, cap, elems, rest, n, rfl, rfl, rfl, hb, hlc, hcm, hel, hf, _⟩
    · exact ⟨[], ⟨none, 0, rfl, by simp, Kd.C_nil d w⟩, by simp, by simp [Rows.uptoBulk]⟩
    · have key : ∀ i y, elems[i]? = some y → ∃ p c, c.length = d.sz ∧ d.K w p c ∧ (ok p ∧ wt p ≤ Rows.uptoBulk y.1) ∧ ∀ j u, c[j]? = some u → w.cell? (a.add (i * d.sz + j)) = some u := by
        intro i y hy
        have hi : i < len := by
          have := (List.getElem?_eq_some_iff.1 hy).1
          omega
        have h1 := hf i hi
        rw [hy, h.cells] at h1
        obtain ⟨c, hc1, hc2⟩ := Option.bind_eq_some_iff.1 h1
        obtain ⟨p, hk, hok, hw⟩ := h.op hc2
        obtain ⟨_, hl, hcell⟩ := World.cells?_some hc1
        refine ⟨p, c, hl, hk, ⟨hok, hw⟩, fun j u hj => ?_⟩
        have hjl : j < d.sz := by
          have := (List.getElem?_eq_some_iff.1 hj).1
          omega
        rw [← Addr.add_add, hcell j hjl, hj]
      obtain ⟨ps, hpl, hps⟩ := build (fun (p : α) (z : Nat × (DataW H × List MemPlace)) => ∃ c, c.length = d.sz ∧ d.K w p c ∧ (ok p ∧ wt p ≤ Rows.uptoBulk z.2.1) ∧ ∀ j u, c[j]? = some u → w.cell? (a.add (z.1 * d.sz + j)) = some u)
        (elems.zipIdx.map fun z => (z.2, z.1)) (fun z hz => by
          obtain ⟨⟨y, i⟩, hy, rfl⟩ := List.mem_map.1 hz
          have := List.mem_zipIdx_iff_getElem?.1 hy
          exact key i y this)
      have hat : ∀ (i : Nat) (y : DataW H × List MemPlace), elems[i]? = some y → ∃ p, ps[i]? = some p ∧ ∃ c, c.length = d.sz ∧ d.K w p c ∧ (ok p ∧ wt p ≤ Rows.uptoBulk y.1) ∧ ∀ j u, c[j]? = some u → w.cell? (a.add (i * d.sz + j)) = some u := by
        intro i y hy
        exact hps i (i, y) (by simp [hy])
      have hpl' : ps.length = elems.length := by simpa using hpl
      have back : ∀ i p, ps[i]? = some p → ∃ y, elems[i]? = some y := fun i p hp => by
        have := (List.getElem?_eq_some_iff.1 hp).1
        exact ⟨elems[i]'(by omega), List.getElem?_eq_getElem (by omega)⟩
      refine ⟨ps, ⟨some a, cap, by rw [hpl', hel], by omega, ⟨rfl, by unfold maxLen at hcm; omega, fun _ => ⟨a, rfl, fun j p hp => ?_⟩⟩⟩, fun p hp => ?_, ?_⟩
      · obtain ⟨y, hy⟩ := back j p hp
        obtain ⟨p', hp', c, h1, h2, _, h4⟩ := hat j y hy
        rw [hp] at hp'
        cases hp'
        exact ⟨c, h1, h2, h4⟩
      · obtain ⟨i, hi⟩ := List.getElem?_of_mem hp
        obtain ⟨y, hy⟩ := back i p hi
        obtain ⟨p', hp', c, _, _, h3, _⟩ := hat i y hy
        rw [hi] at hp'
        cases hp'
        exact h3.1
      · have hs := sum_le (wt := wt) (bk := fun y : DataW H × List MemPlace => Rows.uptoBulk y.1) ps elems hpl' (fun i y hy => by
          obtain ⟨p, hp, c, _, _, h3, _⟩ := hat i y hy
          exact ⟨p, hp, h3.2⟩)
        simp only [Rows.uptoBulk, bulkAll_sum, List.map_map]
        have e1 : (elems.map (Rows.uptoBulk ∘ fun x => x.1)).sum = (elems.map fun y : DataW H × List MemPlace => Rows.uptoBulk y.1).sum := rfl
        omega
end Go.Proofs.YtbmnifnahbehbaaDoor

/- A deck as an argument: from its reading to the walks' facts. -/
set_option linter.unusedVariables false
namespace Go.Proofs.YtbmnifnahbehbaaDoor
open Go.ChangeShapes Go.WideShapes Go.ChangeAt Go.RowKit Go.Lib Go.Proofs.YtbmnifnahbehbaaDoorW.PrintWords
open PPr
/-- What a Cpu's cell can hold. -/
def okC (j : Nat) (v : Int) : Prop := if j = 33 ∨ j = 34 ∨ j = 79 ∨ j = 81 then True else Ok64 v
/-- What reads at type T are n of a Cpu's cells, from cell o on. -/
structure RdC (o : Nat) (T : TypeId) (n : Nat) : Prop where
  op : ∀ {H : Type} {enc : TypeId × Value → H} {w : World} {spare : Nat → Bool} {held : Bool} {fuel : Nat} {cs : List Value} {x : DataW H × List MemPlace},
    DataW.trod enc Tryd.prog w 0 spare held fuel T cs = some x → cs.length = n ∧ ∀ i, i < n → ∃ v, cs[i]? = some (cellOf (o + i) v) ∧ okC (o + i) v
theorem wf64 {n : Int} (h : (Lit.int .u64 n).wf = true) : Ok64 n := by
  unfold Lit.wf at h
  have e : IntKind.u64.min = 0 := by kernel_rfl
  have e2 : IntKind.u64.max = 18446744073709551615 := by kernel_rfl
  simp [e, e2] at h
  unfold Ok64
  omega
theorem wf8 {n : Int} (h : (Lit.int .u8 n).wf = true) : 0 ≤ n ∧ n < 256 := by
  unfold Lit.wf at h
  have e : IntKind.u8.min = 0 := by kernel_rfl
  have e2 : IntKind.u8.max = 255 := by kernel_rfl
  simp [e, e2] at h
  omega
theorem rd_u64 (o : Nat) (h1 : ¬ (o = 33 ∨ o = 81)) (h2 : ¬ (o = 34 ∨ o = 79)) (h3 : ¬ (47 ≤ o ∧ o < 63)) : RdC o 22 1 where
  op h := by
    obtain ⟨n, rfl, _, hw⟩ := DataW.trod_int Tryd.underlying22 h
    refine ⟨rfl, fun i hi => ?_⟩
    obtain rfl : i = 0 := by omega
    refine ⟨n, ?_, ?_⟩
    · unfold cellOf
      rw [Nat.add_zero, if_neg h1, if_neg h2, if_neg h3]
      rfl
    · unfold okC
      split
      · trivial
      · exact wf64 hw
theorem rd_u8 (o : Nat) (h3 : 47 ≤ o ∧ o < 63) : RdC o 5 1 where
  op h := by
    obtain ⟨n, rfl, _, hw⟩ := DataW.trod_int Tryd.underlying5 h
    refine ⟨rfl, fun i hi => ?_⟩
    obtain rfl : i = 0 := by omega
    refine ⟨n, ?_, ?_⟩
    · unfold cellOf
      rw [Nat.add_zero, if_neg (by omega), if_neg (by omega), if_pos h3]
      rfl
    · unfold okC
      split
      · trivial
      · have := wf8 hw
        unfold Ok64
        omega
theorem rd_i64 (o : Nat) (h3 : o = 33 ∨ o = 81) : RdC o 3 1 where
  op h := by
    obtain ⟨n, rfl, _, hw⟩ := DataW.trod_int Tryd.underlying3 h
    refine ⟨rfl, fun i hi => ?_⟩
    obtain rfl : i = 0 := by omega
    refine ⟨n, ?_, ?_⟩
    · unfold cellOf
      rw [Nat.add_zero, if_pos h3]
      rfl
    · unfold okC
      rw [if_pos (by omega)]
      trivial
theorem rd_bool (o : Nat) (h3 : o = 34 ∨ o = 79) : RdC o 4 1 where
  op h := by
    obtain ⟨b, rfl, _⟩ := DataW.trod_bool Tryd.underlying4 h
    refine ⟨rfl, fun i hi => ?_⟩
    obtain rfl : i = 0 := by omega
    refine ⟨if b then 1 else 0, ?_, ?_⟩
    · unfold cellOf
      rw [Nat.add_zero, if_neg (by omega), if_pos h3]
      cases b <;> rfl
    · unfold okC
      rw [if_pos (by omega)]
      trivial
theorem rd_arr {o n : Nat} {T e : TypeId} (ht : Tryd.prog.underlying T = some (.array n e)) (hc : Tryd.prog.cellsOf T = n) (h1 : Tryd.prog.cellsOf e = 1) (h : ∀ i, i < n → RdC (o + i) e 1) : RdC o T n where
  op hx := by
    obtain ⟨xs, m, rfl, rfl, hl, hxl, hf⟩ := DataW.trod_array ht hx
    refine ⟨by rw [hl, hc], fun i hi => ?_⟩
    have h2 := hf i hi
    rw [h1, Nat.mul_one, List.getElem?_eq_getElem (by omega)] at h2
    obtain ⟨_, h3⟩ := (h i hi).op h2
    obtain ⟨v, h4, h5⟩ := h3 0 (by omega)
    rw [Nat.add_zero] at h4 h5
    refine ⟨v, ?_, h5⟩
    rw [List.getElem?_take] at h4
    simpa using h4
theorem rd_struct {o n : Nat} {T : TypeId} {fs : Array Field} (ht : Tryd.prog.underlying T = some (.struct fs)) (hc : Tryd.prog.cellsOf T = n) (hall : ∀ f ∈ fs.toList, RdC (o + f.offset) f.type (Tryd.prog.cellsOf f.type)) (cov : ((List.range n).all fun i => fs.toList.any fun f => decide (f.offset ≤ i) && decide (i < f.offset + Tryd.prog.cellsOf f.type)) = true) : RdC o T n where
  op hx := by
    obtain ⟨xs, m, rfl, rfl, hl, hxl, hf⟩ := DataW.trod_struct ht hx
    refine ⟨by rw [hl, hc], fun i hi => ?_⟩
    have h1 := List.all_eq_true.1 cov i (List.mem_range.2 hi)
    obtain ⟨f, hfm, hfi⟩ := List.any_eq_true.1 h1
    rw [Bool.and_eq_true] at hfi
    have hlo := of_decide_eq_true hfi.1
    have hhi := of_decide_eq_true hfi.2
    obtain ⟨k, hk⟩ := List.getElem?_of_mem hfm
    have hk2 : fs[k]? = some f := by simpa using hk
    have hkl : k < fs.size := (Array.getElem?_eq_some_iff.1 hk2).1
    have h2 := hf k f hk2
    rw [List.getElem?_eq_getElem (by omega)] at h2
    obtain ⟨h3, h4⟩ := (hall f hfm).op h2
    obtain ⟨v, h5, h6⟩ := h4 (i - f.offset) (by omega)
    have e : o + f.offset + (i - f.offset) = o + i := by omega
    rw [e] at h5 h6
    refine ⟨v, ?_, h6⟩
    rw [List.getElem?_take, if_pos (by omega), List.getElem?_drop] at h5
    rw [show f.offset + (i - f.offset) = i by omega] at h5
    exact h5
theorem rd_pmp : RdC 47 27 32 := by
  refine rd_struct Tryd.underlying27 (by kernel_rfl) ?_ (by kernel_rfl)
  intro f hf
  simp only [List.mem_cons, List.not_mem_nil, or_false] at hf
  rcases hf with rfl | rfl
  · exact (show RdC 47 24 (Tryd.prog.cellsOf 24) from (show Tryd.prog.cellsOf 24 = 16 by kernel_rfl) ▸ rd_arr Tryd.underlying24 (by kernel_rfl) (by kernel_rfl) (fun i hi => rd_u8 _ (by omega)))
  · exact (show RdC 63 25 (Tryd.prog.cellsOf 25) from (show Tryd.prog.cellsOf 25 = 16 by kernel_rfl) ▸ rd_arr Tryd.underlying25 (by kernel_rfl) (by kernel_rfl) (fun i hi => rd_u64 _ (by omega) (by omega) (by omega)))
theorem c22 : Tryd.prog.cellsOf 22 = 1 := by kernel_rfl
theorem c3_ : Tryd.prog.cellsOf 3 = 1 := by kernel_rfl
theorem c4_ : Tryd.prog.cellsOf 4 = 1 := by kernel_rfl
theorem rd_res : RdC 79 29 3 := by
  refine rd_struct Tryd.underlying29 (by kernel_rfl) ?_ (by kernel_rfl)
  intro f hf
  simp only [List.mem_cons, List.not_mem_nil, or_false] at hf
  rcases hf with rfl | rfl | rfl
  · exact (show RdC 79 4 (Tryd.prog.cellsOf 4) from c4_ ▸ rd_bool _ (by omega))
  · exact (show RdC 80 22 (Tryd.prog.cellsOf 22) from c22 ▸ rd_u64 _ (by omega) (by omega) (by omega))
  · exact (show RdC 81 3 (Tryd.prog.cellsOf 3) from c3_ ▸ rd_i64 _ (by omega))
theorem rd_x : RdC 1 23 32 := rd_arr Tryd.underlying23 (by kernel_rfl) (by kernel_rfl) (fun i hi => rd_u64 _ (by omega) (by omega) (by omega))
theorem rd_cpu : RdC 0 31 82 := by
  refine rd_struct Tryd.underlying31 (by kernel_rfl) ?_ (by kernel_rfl)
  intro f hf
  simp only [List.mem_cons, List.not_mem_nil, or_false] at hf
  rcases hf with rfl | rfl | rfl | rfl | rfl | rfl | rfl | rfl | rfl | rfl | rfl | rfl | rfl | rfl | rfl | rfl | rfl | rfl
  · exact (show RdC 0 22 (Tryd.prog.cellsOf 22) from c22 ▸ rd_u64 _ (by omega) (by omega) (by omega))
  · exact (show RdC 1 23 (Tryd.prog.cellsOf 23) from (show Tryd.prog.cellsOf 23 = 32 by kernel_rfl) ▸ rd_x)
  · exact (show RdC 33 3 (Tryd.prog.cellsOf 3) from c3_ ▸ rd_i64 _ (by omega))
  · exact (show RdC 34 4 (Tryd.prog.cellsOf 4) from c4_ ▸ rd_bool _ (by omega))
  · exact (show RdC 35 22 (Tryd.prog.cellsOf 22) from c22 ▸ rd_u64 _ (by omega) (by omega) (by omega))
  · exact (show RdC 36 22 (Tryd.prog.cellsOf 22) from c22 ▸ rd_u64 _ (by omega) (by omega) (by omega))
  · exact (show RdC 37 22 (Tryd.prog.cellsOf 22) from c22 ▸ rd_u64 _ (by omega) (by omega) (by omega))
  · exact (show RdC 38 22 (Tryd.prog.cellsOf 22) from c22 ▸ rd_u64 _ (by omega) (by omega) (by omega))
  · exact (show RdC 39 22 (Tryd.prog.cellsOf 22) from c22 ▸ rd_u64 _ (by omega) (by omega) (by omega))
  · exact (show RdC 40 22 (Tryd.prog.cellsOf 22) from c22 ▸ rd_u64 _ (by omega) (by omega) (by omega))
  · exact (show RdC 41 22 (Tryd.prog.cellsOf 22) from c22 ▸ rd_u64 _ (by omega) (by omega) (by omega))
  · exact (show RdC 42 22 (Tryd.prog.cellsOf 22) from c22 ▸ rd_u64 _ (by omega) (by omega) (by omega))
  · exact (show RdC 43 22 (Tryd.prog.cellsOf 22) from c22 ▸ rd_u64 _ (by omega) (by omega) (by omega))
  · exact (show RdC 44 22 (Tryd.prog.cellsOf 22) from c22 ▸ rd_u64 _ (by omega) (by omega) (by omega))
  · exact (show RdC 45 22 (Tryd.prog.cellsOf 22) from c22 ▸ rd_u64 _ (by omega) (by omega) (by omega))
  · exact (show RdC 46 22 (Tryd.prog.cellsOf 22) from c22 ▸ rd_u64 _ (by omega) (by omega) (by omega))
  · exact (show RdC 47 27 (Tryd.prog.cellsOf 27) from (show Tryd.prog.cellsOf 27 = 32 by kernel_rfl) ▸ rd_pmp)
  · exact (show RdC 79 29 (Tryd.prog.cellsOf 29) from (show Tryd.prog.cellsOf 29 = 3 by kernel_rfl) ▸ rd_res)
/-- A Cpu's cells, told by one function. -/
theorem cpu_cells {cs : List Value} (hl : cs.length = 82) (h : ∀ i, i < 82 → ∃ v, cs[i]? = some (cellOf (0 + i) v) ∧ okC (0 + i) v) : ∃ c : Cp, cs = cpuL c ∧ ∀ i, i < 82 → okC i (c i) := by
  have h2 : ∀ i, ∃ v, i < 82 → cs[i]? = some (cellOf i v) ∧ okC i v := fun i => by
    by_cases hi : i < 82
    · obtain ⟨v, h1, h2⟩ := h i hi
      rw [Nat.zero_add] at h1 h2
      exact ⟨v, fun _ => ⟨h1, h2⟩⟩
    · exact ⟨0, fun h => absurd h hi⟩
  obtain ⟨c, hc⟩ := Classical.axiomOfChoice h2
  refine ⟨c, ?_, fun i hi => (hc i hi).2⟩
  apply List.ext_getElem?
  intro j
  by_cases hj : j < 82
  · rw [(hc j hj).1, cpuL_get hj]
  · rw [List.getElem?_eq_none (by omega), List.getElem?_eq_none (by rw [cpuL_len]; omega)]
/-! ### the lists -/
def wtData (l : List Int) : Nat := (l.map (fun _ => 1)).sum + 1
abbrev okI (k : IntKind) (n : Int) : Prop := (Lit.int k n).wf = true
def okData (l : List Int) : Prop := ∀ x ∈ l, okI .u8 x
theorem oData : Opens Tryd.prog 44 (Kd.slice 5 (Kd.int .u8)) okData wtData := Opens.slice Tryd.underlying44 (by kernel_rfl) (Opens.int Tryd.underlying5 (by kernel_rfl))
def okSeg (s : S46) : Prop := okI .u64 s.f0 ∧ okI .u64 s.f1 ∧ okI .i64 s.f2 ∧ okData s.f3
def wSeg (s : S46) : Nat := 1 + (1 + (1 + wtData s.f3)) + 1
def okWd (s : S48) : Prop := True ∧ True ∧ True ∧ okData s.f3
def wWd (s : S48) : Nat := 1 + (1 + (1 + wtData s.f3)) + 1
set_option maxRecDepth 100000 in
theorem oSeg : Opens Tryd.prog 46 k46 okSeg wSeg :=
  Opens.struct (fun x : S46 => (x.f0, x.f1, x.f2, x.f3)) (fun a => ⟨⟨a.1, a.2.1, a.2.2.1, a.2.2.2⟩, rfl⟩) Tryd.underlying46 (by kernel_rfl)
    (Fields.cons rfl (Opens.int Tryd.underlying22 (by kernel_rfl)) (Fields.cons rfl (Opens.int Tryd.underlying22 (by kernel_rfl)) (Fields.cons rfl (Opens.int Tryd.underlying3 (by kernel_rfl)) (Fields.one rfl oData))))
set_option maxRecDepth 100000 in
theorem oWd : Opens Tryd.prog 48 k48 okWd wWd :=
  Opens.struct (fun x : S48 => (x.f0, x.f1, x.f2, x.f3)) (fun a => ⟨⟨a.1, a.2.1, a.2.2.1, a.2.2.2⟩, rfl⟩) Tryd.underlying48 (by kernel_rfl)
    (Fields.cons rfl (Opens.bool Tryd.underlying4 (by kernel_rfl)) (Fields.cons rfl (Opens.bool Tryd.underlying4 (by kernel_rfl)) (Fields.cons rfl (Opens.bool Tryd.underlying4 (by kernel_rfl)) (Fields.one rfl oData))))
theorem oSegs : Opens Tryd.prog 32 (Kd.slice 46 k46) (fun l => ∀ x ∈ l, okSeg x) (fun l => (l.map wSeg).sum + 1) := Opens.slice Tryd.underlying32 (by kernel_rfl) oSeg
theorem oWds : Opens Tryd.prog 33 (Kd.slice 48 k48) (fun l => ∀ x ∈ l, okWd x) (fun l => (l.map wWd).sum + 1) := Opens.slice Tryd.underlying33 (by kernel_rfl) oWd
theorem sum_mem {α : Type} (f : α → Nat) : ∀ (l : List α) (x : α), x ∈ l → f x ≤ (l.map f).sum
  | a :: l, x, h => by
    simp only [List.map_cons, List.sum_cons]
    rcases List.mem_cons.1 h with rfl | h
    · omega
    · have := sum_mem f l x h
      omega
theorem sum_len {α : Type} (f : α → Nat) (h : ∀ x, 1 ≤ f x) : ∀ l : List α, l.length ≤ (l.map f).sum
  | [] => by simp
  | a :: l => by
    have := sum_len f h l
    have := h a
    simp only [List.map_cons, List.sum_cons, List.length_cons]
    omega
theorem wData_le (l : List Int) : l.length ≤ wtData l := by
  unfold wtData
  have := sum_len (fun _ : Int => 1) (fun _ => Nat.le_refl _) l
  omega
theorem bytes_ok {l : List Int} (h : okData l) : BytesI l := fun x hx => wf8 (h x hx)
/-- A deck that came in. -/
theorem deck_open {H : Type} {enc : TypeId × Value → H} {w : World} {spare : Nat → Bool} {held : Bool} {fuel : Nat} {cs : List Value} {x : DataW H × List MemPlace}
    (h : DataW.trod enc Tryd.prog w 0 spare held fuel 35 cs = some x) (hb : Rows.uptoBulk x.1 ≤ 1048576) :
    ∃ ram c mt ps ws Ap cp Aw cw, cs = (dkA ram c mt (.slice Ap ps.length cp) (.slice Aw ws.length cw)).toList ∧ Kd.C k46 w Ap ps.length ps ∧ Kd.C k48 w Aw ws.length ws ∧ DeckOk c mt ps ws := by
  obtain ⟨xs, m, rfl, rfl, hl, hxl, hf⟩ := DataW.trod_struct Tryd.underlying35 h
  have hl86 : cs.length = 86 := by rw [hl]; kernel_rfl
  match xs, hxl with
  | [x0, x1, x2, x3, x4], _ =>
    have f0 : DataW.trod enc Tryd.prog w 0 spare held m 3 ((cs.drop 0).take (Tryd.prog.cellsOf 3)) = some x0 := hf 0 _ rfl
    have f1 : DataW.trod enc Tryd.prog w 0 spare held m 31 ((cs.drop 1).take (Tryd.prog.cellsOf 31)) = some x1 := hf 1 _ rfl
    have f2 : DataW.trod enc Tryd.prog w 0 spare held m 22 ((cs.drop 83).take (Tryd.prog.cellsOf 22)) = some x2 := hf 2 _ rfl
    have f3 : DataW.trod enc Tryd.prog w 0 spare held m 32 ((cs.drop 84).take (Tryd.prog.cellsOf 32)) = some x3 := hf 3 _ rfl
    have f4 : DataW.trod enc Tryd.prog w 0 spare held m 33 ((cs.drop 85).take (Tryd.prog.cellsOf 33)) = some x4 := hf 4 _ rfl
    obtain ⟨ram, e0, _, _⟩ := DataW.trod_int Tryd.underlying3 f0
    obtain ⟨l1, g1⟩ := rd_cpu.op f1
    obtain ⟨c, e1, hc⟩ := cpu_cells l1 g1
    obtain ⟨mt, e2, _, hmt⟩ := DataW.trod_int Tryd.underlying22 f2
    obtain ⟨ps, ⟨Ap, cp, e3, _, hC3⟩, hps, hw3⟩ := oSegs.op f3
    obtain ⟨ws, ⟨Aw, cw, e4, _, hC4⟩, hws, hw4⟩ := oWds.op f4
    rw [c3_] at e0
    rw [c22] at e2
    rw [show Tryd.prog.cellsOf 31 = 82 by kernel_rfl] at e1
    rw [show Tryd.prog.cellsOf 32 = 1 by kernel_rfl] at e3
    rw [show Tryd.prog.cellsOf 33 = 1 by kernel_rfl] at e4
    have hbb : Rows.uptoBulk x3.1 + Rows.uptoBulk x4.1 ≤ 1048576 := by
      simp only [List.map_cons, List.map_nil, Rows.uptoBulk, Rows.uptoBulkAll] at hb
      omega
    refine ⟨ram, c, mt, ps, ws, Ap, cp, Aw, cw, ?_, hC3, hC4, ?_⟩
    · have hsplit : cs = (cs.drop 0).take 1 ++ ((cs.drop 1).take 82 ++ ((cs.drop 83).take 1 ++ ((cs.drop 84).take 1 ++ (cs.drop 85).take 1))) := by
        have s4 : (cs.drop 85).take 1 = cs.drop 85 := List.take_of_length_le (by rw [List.length_drop]; omega)
        have s3 : (cs.drop 84).take 1 ++ cs.drop 85 = cs.drop 84 := by
          rw [show cs.drop 85 = (cs.drop 84).drop 1 by rw [List.drop_drop]]
          exact List.take_append_drop _ _
        have s2 : (cs.drop 83).take 1 ++ cs.drop 84 = cs.drop 83 := by
          rw [show cs.drop 84 = (cs.drop 83).drop 1 by rw [List.drop_drop]]
          exact List.take_append_drop _ _
        have s1 : (cs.drop 1).take 82 ++ cs.drop 83 = cs.drop 1 := by
          rw [show cs.drop 83 = (cs.drop 1).drop 82 by rw [List.drop_drop]]
          exact List.take_append_drop _ _
        rw [s4, s3, s2, s1, List.drop_zero]
        exact (List.take_append_drop 1 cs).symm
      rw [hsplit, e0, e1, e2, e3, e4]
      rfl
    · have k3 := sum_len wSeg (fun s => by unfold wSeg; omega) ps
      have k4 := sum_len wWd (fun s => by unfold wWd; omega) ws
      have key : ∀ i, i < 82 → i ≠ 33 → i ≠ 34 → i ≠ 79 → i ≠ 81 → Ok64 (c i) := fun i hi a1 a2 a3 a4 => by
        have := hc i hi
        unfold okC at this
        rw [if_neg (by omega)] at this
        exact this
      refine ⟨fun i hi => key _ (by omega) (by omega) (by omega) (by omega) (by omega), fun i hi => key _ (by omega) (by omega) (by omega) (by omega) (by omega), key 80 (by omega) (by omega) (by omega) (by omega) (by omega), wf64 hmt, fun s hs => ?_, fun s hs => ?_, by omega, by omega⟩
      · obtain ⟨a1, a2, a3, a4⟩ := hps s hs
        have m3 := sum_mem wSeg ps s hs
        have m4 : wSeg s = 1 + (1 + (1 + wtData s.f3)) + 1 := rfl
        have m5 := wData_le s.f3
        exact ⟨wf64 a1, wf64 a2, bytes_ok a4, by omega⟩
      · obtain ⟨_, _, _, a4⟩ := hws s hs
        have m3 := sum_mem wWd ws s hs
        have m4 : wWd s = 1 + (1 + (1 + wtData s.f3)) + 1 := rfl
        have m5 := wData_le s.f3
        exact ⟨bytes_ok a4, by omega⟩
end Go.Proofs.YtbmnifnahbehbaaDoor

/- A world in which the listed variables hold what their initialisers lay: for the witness of the row. -/
set_option linter.unusedVariables false
namespace Go.Proofs.YtbmnifnahbehbaaDoor
open Go.ChangeShapes Go.WideShapes Go.ChangeAt Go.RowKit Go.Lib Go.Shelf
theorem own : ownKnob Tryd.prog.godebug = none := by kernel_rfl
theorem laidOut : laidOutB Tryd.prog = true := by kernel_rfl
def litCell : DataW Unit → Value
  | .lit (.int k z) => .int k z
  | .lit (.string b) => .string ⟨b.toArray⟩
  | _ => .nilIface
def aggCells : DataW Unit → Array Value
  | .agg l => (l.map litCell).toArray
  | _ => #[]
def putAll (h : Array Obj) : List (Nat × Array Value) → Array Obj
  | [] => h
  | (g, cs) :: r => putAll (h.modify g fun
    | .cells _ t frozen => .cells cs t frozen
    | o => o) r
noncomputable def laidWorld (os : Os) : World :=
  let N := (World.settled Tryd.prog os).heap.size
  let w0 := World.holding Tryd.prog os ⟨#[.cells (Lib.whiteT.map fun (z : Nat) => Value.int .u16 (z : Int)).toArray (Tryd.laysFields_ren.t 198), .cells #[.slice (some ⟨N, 0, none⟩) 7 7, .slice none 0 0, .int .i64 2] (Tryd.laysFields_ren.t 196)], #[], []⟩
  { w0 with heap := putAll w0.heap [(5, aggCells Rows.laid_strings_asciiSpace), (7, #[.pointer (some ⟨N + 1, 0, none⟩)]), (2, aggCells Rows.laid_anvil_anvilref07_regs),
      (9, aggCells Rows.laid_math_bits_deBruijn32tab), (10, aggCells Rows.laid_math_bits_deBruijn64tab), (6, aggCells Rows.laid_internal_strconv_uint64pow10),
      (4, aggCells Rows.laid_anvil_anvilref07_csrNames), (3, aggCells Rows.laid_anvil_anvilref07_csrNumbers), (1, aggCells Rows.laid_anvil_anvilref14_Csrs), (0, aggCells Rows.laid_anvil_deck_flags)] }
noncomputable abbrev laidMem (os : Os) (args : Array Value) : World := ((laidWorld os).forCall (fun _ _ => 0) ⟨#[], args, []⟩).memory
theorem met_deck (os : Os) (args : Array Value) : laidMet Tryd.prog Rows.deckPrintsRow.laid (laidMem os args) :=
  laidMet_of_run3 10 (by kernel_rfl) (by kernel_rfl) (by kernel_rfl)
end Go.Proofs.YtbmnifnahbehbaaDoor
