/- Package-level arrays of numbers or strings: from a row's list to the fact that a printed walk asks of an array that is read. Plain lemmas; each bears its premises. -/
import Derived.Test.YtkcaebdhkodleaaDoorRows
import Derived.Test.YtkcaebdhkodleaaDoorWWords
import Derived.ChangeArms
import Derived.Lib.LaidTab
import Derived.Lib.LaidU8
import Derived.Below
set_option linter.unusedVariables false
namespace Go.Proofs.YtkcaebdhkodleaaDoor
open Go.RowKit Go.Lib Go.Proofs.YtkcaebdhkodleaaDoorW.PrintWords

def strsData {H : Type} (l : List ByteArray) : DataW H := .agg (l.map fun s => .lit (.string s.data.toList))
/-- A variable's cells. -/
def CellsAre (w : World) (g : Nat) (vs : List Value) : Prop := ∀ i u, vs[i]? = some u → w.cell? ⟨g, i, none⟩ = some u
theorem CellsAre.below {w W : World} {g : Nat} {vs : List Value} (h : CellsAre w g vs) (hb : Below w.heap.size w W) : CellsAre W g vs := fun i u hu =>
  pw_cell_below hb (h i u hu)
theorem CellsAre.of_var {P : Program} {W : World} {name : String} {g : Nat} {vs : List Value} (hg : P.globalNamed name = some g) (h : W.var? P name = some vs.toArray) : CellsAre W g vs := fun i u hu => by
  have := World.var?_cell hg h i
  rw [this]
  simpa using hu
theorem cells_of_strs {H : Type} {enc : TypeId × Value → H} {P : Program} {w : World} {base : Nat} {sp : Nat → Bool} {held : Bool} {fuel : Nat} {t e : TypeId} {n : Nat} {cs : List Value} {l : List ByteArray} {p : List MemPlace}
    (ht : P.underlying t = some (.array n e)) (he : P.underlying e = some .string) (hce : P.cellsOf e = 1) (hct : P.cellsOf t = n)
    (h : DataW.trod enc P w base sp held fuel t cs = some (strsData l, p)) : cs = l.map Value.string := by
  cases fuel with
  | zero => simp [DataW.trod] at h
  | succ fuel =>
    simp only [DataW.trod, ht, hce, hct, Nat.mul_one] at h
    split at h
    · rename_i hl
      obtain ⟨xs, hm, hx⟩ := Option.map_eq_some_iff.1 h
      have hxs : xs.map (·.1) = l.map fun s => (DataW.lit (.string s.data.toList) : DataW H) := by
        have := congrArg Prod.fst hx
        simpa [strsData] using this
      have hxl : xs.length = n := by simpa using mapM_length hm
      have hzl : l.length = n := by
        have := congrArg List.length hxs
        simp at this
        omega
      apply List.ext_getElem?
      intro i
      by_cases hi : i < n
      · obtain ⟨b, hb, hf⟩ := mapM_at hm i i (by simp [hi])
        obtain ⟨s, hc, rfl, _⟩ := DataW.trod_string he hf
        have h1 : cs[i]? = some (.string s) := by
          have := congrArg (·[0]?) hc
          simpa [List.getElem?_take, List.getElem?_drop] using this
        have h2 : (xs.map (·.1))[i]? = some (DataW.lit (.string s.data.toList) : DataW H) := by simp [hb]
        rw [hxs] at h2
        simp only [List.getElem?_map, Option.map_eq_some_iff, DataW.lit.injEq, Lit.string.injEq] at h2
        obtain ⟨s', hs', e'⟩ := h2
        have : s' = s := by
          cases s'; cases s
          simp only [Array.toList_inj] at e'
          exact congrArg ByteArray.mk e'
        simp [h1, hs', this]
      · rw [List.getElem?_eq_none (by omega), List.getElem?_eq_none (by simp; omega)]
    · cases h
theorem strs_of_reads {P : Program} {W : World} {name : String} {l : List ByteArray} {g : Nat} {t e : TypeId} {n : Nat}
    (hg : P.globalNamed name = some g) (hgt : (P.globals[g]?).map (·.type) = some t) (ht : P.underlying t = some (.array n e)) (he : P.underlying e = some .string) (hce : P.cellsOf e = 1) (hct : P.cellsOf t = n)
    (h : VarReads P W name (strsData l)) : CellsAre W g (l.map Value.string) := by
  obtain ⟨g', t', cs, fuel, p, h1, h2, h3, h4⟩ := h
  rw [hg] at h1
  cases h1
  rw [hgt] at h2
  cases h2
  have := cells_of_strs ht he hce hct h4
  exact CellsAre.of_var hg (by rw [h3, ← this])
theorem ints_of_reads {P : Program} {W : World} {name : String} {k : IntKind} {l : List Int} {g : Nat} {t e : TypeId} {n : Nat}
    (hg : P.globalNamed name = some g) (hgt : (P.globals[g]?).map (·.type) = some t) (ht : P.underlying t = some (.array n e)) (he : P.underlying e = some (.int k)) (hce : P.cellsOf e = 1) (hct : P.cellsOf t = n)
    (h : VarReads P W name (Lib.tabData k l)) : W.var? P name = some (l.map fun z => Value.int k z).toArray := by
  obtain ⟨g', t', cs, fuel, p, h1, h2, h3, h4⟩ := h
  rw [hg] at h1
  cases h1
  rw [hgt] at h2
  cases h2
  have := cells_of_tab ht he hce hct h4
  rw [h3, ← this]
theorem C_strs {w : World} {g : Nat} {l : List ByteArray} (h : CellsAre w g (l.map Value.string)) (hl : l.length ≤ 9223372036854775807) : Kd.C Kd.string w (some ⟨g, 0, none⟩) l.length l :=
  ⟨rfl, hl, fun _ => ⟨_, rfl, fun j p hp => ⟨[.string p], rfl, rfl, fun i u hu => by
    match i, hu with
    | 0, hu =>
      simp at hu
      subst hu
      have : Addr.add ⟨g, 0, none⟩ (j * 1 + 0) = ⟨g, j, none⟩ := by simp [Addr.add]; omega
      show w.cell? (Addr.add ⟨g, 0, none⟩ (j * 1 + 0)) = _
      rw [this]
      exact h j _ (by simp [hp])⟩⟩⟩
theorem C_ints {w : World} {g : Nat} {k : IntKind} {l : List Int} (h : CellsAre w g (l.map fun z => Value.int k z)) (hl : l.length ≤ 9223372036854775807) : Kd.C (Kd.int k) w (some ⟨g, 0, none⟩) l.length l :=
  ⟨rfl, hl, fun _ => ⟨_, rfl, fun j p hp => ⟨[.int k p], rfl, rfl, fun i u hu => by
    match i, hu with
    | 0, hu =>
      simp at hu
      subst hu
      have : Addr.add ⟨g, 0, none⟩ (j * 1 + 0) = ⟨g, j, none⟩ := by simp [Addr.add]; omega
      show w.cell? (Addr.add ⟨g, 0, none⟩ (j * 1 + 0)) = _
      rw [this]
      exact h j _ (by simp [hp])⟩⟩⟩
end Go.Proofs.YtkcaebdhkodleaaDoor
