/- Package-level arrays of numbers or strings: from a row's list to the fact that a printed walk asks of an array that is read. Plain lemmas; each bears its premises. -/
import Derived.Test.YtbmnifnahbehbaaDoorRows
import Derived.Test.YtbmnifnahbehbaaDoorPWds1
import Derived.ChangeArms
import Derived.Lib.LaidTab
import Derived.Lib.LaidU8
import Derived.Below
import Derived.Ground.NamesProg
import Derived.Shelf.Strings.Fields
import Derived.Shelf.Strconv.Itoa3
import Derived.Shelf.Strings.BuilderK
import Derived.Shelf.Strings.OnBuilder
import Derived.Test.YtbmnifnahbehbaaDoorProg
import Derived.Lib.LaidIn
import Derived.Lib.Hide
import Derived.Lib.QuietBelow
import Derived.Shelf.Unicode.PredsPay
import Derived.Deep.Draws
import Derived.Deep.AppendLies
import Derived.Maps.AppendAt
import Derived.OwnWalk
import Derived.Laws.BytesArg
import Derived.Laws.MakeOwn
import Derived.Laws.OwnMore
import Derived.Deep.OwnRows
import Derived.Tactics
import Derived.Lib.ConvBytes
import Derived.Laws.Slices
import Derived.WalkKit
import Derived.KernelRfl
import Derived.RowKit3
import Derived.Deep.LoopGhost
import Derived.Deep.QuietTactic
import Derived.BigQuiet
import Derived.WideLaws
import Derived.Deep.DeepCutAuto
import Derived.Deep.CutBlock
import Derived.Deep.RegionHeld3
import Derived.Laws.Rows
import Derived.Lib.AppendStr
import Derived.ArgAppend
import Derived.Laws.IdiomCopy
import Derived.OrdersHeld
import Derived.Laws.BitsLemmas
import Derived.RowKit
import Derived.WalkMore
import Derived.Lib.Walk
import Derived.RegionTactic
import Derived.Laws.IdiomStrings
import Derived.Lib.AppendIntMem
import Derived.Test.YtbmnifnahbehbaaDoorPDk
import Derived.Lib.OthersKept
import Derived.Lib.FrozenHead
import Derived.Deep.RegionHeld2
import Derived.Deep.RegionWith
set_option linter.unusedVariables false
namespace Go.Proofs.YtbmnifnahbehbaaDoor
open Go.RowKit Go.Lib Go.Proofs.YtbmnifnahbehbaaDoorW.PrintWords

def strsData {H : Type} (l : List ByteArray) : DataW H := .agg (l.map fun s => .lit (.string s.data.toList))
/-- A variable's cells. -/
def CellsAre (w : World) (g : Nat) (vs : List Value) : Prop := ∀ i u, vs[i]? = some u → w.cell? ⟨g, i, none⟩ = some u
theorem CellsAre.below {w W : World} {g : Nat} {vs : List Value} (h : CellsAre w g vs) (hb : Below w.heap.size w W) : CellsAre W g vs := fun i u hu =>
  pw_cell_below hb (h i u hu)
theorem CellsAre.of_var {P : Program} {W : World} {name : String} {g : Nat} {vs : List Value} (hg : P.globalNamed name = some g) (h : W.var? P name = some vs.toArray) : CellsAre W g vs := fun i u hu => by
  have := World.var?_cell hg h i
  rw [this]
  simpa using hu
theorem cells_of_strs {H : Type} {enc : TypeId × Value → H} {P : Program} {w : World} {base : Nat} {sp : Nat → Bool} {held : Bool} {fuel : Nat} {t e : TypeId} {n : Nat} {cs : List Value} {l : List ByteArray} {p : List MemPlace}
    (ht : P.underlying t = some (.array n e)) (he : P.underlying e = some .string) (hce : P.cellsOf e = 1) (hct : P.cellsOf t = n)
    (h : DataW.trod enc P w base sp held fuel t cs = some (strsData l, p)) : cs = l.map Value.string := by
  cases fuel with
  | zero => simp [DataW.trod] at h
  | succ fuel =>
    simp only [DataW.trod, ht, hce, hct, Nat.mul_one] at h
    split at h
    · rename_i hl
      obtain ⟨xs, hm, hx⟩ := Option.map_eq_some_iff.1 h
      have hxs : xs.map (·.1) = l.map fun s => (DataW.lit (.string s.data.toList) : DataW H) := by
        have := congrArg Prod.fst hx
        simpa [strsData] using this
      have hxl : xs.length = n := by simpa using mapM_length hm
      have hzl : l.length = n := by
        have := congrArg List.length hxs
        simp at this
        omega
      apply List.ext_getElem?
      intro i
      by_cases hi : i < n
      · obtain ⟨b, hb, hf⟩ := mapM_at hm i i (by simp [hi])
        obtain ⟨s, hc, rfl, _⟩ := DataW.trod_string he hf
        have h1 : cs[i]? = some (.string s) := by
          have := congrArg (·[0]?) hc
          simpa [List.getElem?_take, List.getElem?_drop] using this
        have h2 : (xs.map (·.1))[i]? = some (DataW.lit (.string s.data.toList) : DataW H) := by simp [hb]
        rw [hxs] at h2
        simp only [List.getElem?_map, Option.map_eq_some_iff, DataW.lit.injEq, Lit.string.injEq] at h2
        obtain ⟨s', hs', e'⟩ := h2
        have : s' = s := by
          cases s'; cases s
          simp only [Array.toList_inj] at e'
          exact congrArg ByteArray.mk e'
        simp [h1, hs', this]
      · rw [List.getElem?_eq_none (by omega), List.getElem?_eq_none (by simp; omega)]
    · cases h
theorem strs_of_reads {P : Program} {W : World} {name : String} {l : List ByteArray} {g : Nat} {t e : TypeId} {n : Nat}
    (hg : P.globalNamed name = some g) (hgt : (P.globals[g]?).map (·.type) = some t) (ht : P.underlying t = some (.array n e)) (he : P.underlying e = some .string) (hce : P.cellsOf e = 1) (hct : P.cellsOf t = n)
    (h : VarReads P W name (strsData l)) : CellsAre W g (l.map Value.string) := by
  obtain ⟨g', t', cs, fuel, p, h1, h2, h3, h4⟩ := h
  rw [hg] at h1
  cases h1
  rw [hgt] at h2
  cases h2
  have := cells_of_strs ht he hce hct h4
  exact CellsAre.of_var hg (by rw [h3, ← this])
theorem ints_of_reads {P : Program} {W : World} {name : String} {k : IntKind} {l : List Int} {g : Nat} {t e : TypeId} {n : Nat}
    (hg : P.globalNamed name = some g) (hgt : (P.globals[g]?).map (·.type) = some t) (ht : P.underlying t = some (.array n e)) (he : P.underlying e = some (.int k)) (hce : P.cellsOf e = 1) (hct : P.cellsOf t = n)
    (h : VarReads P W name (Lib.tabData k l)) : W.var? P name = some (l.map fun z => Value.int k z).toArray := by
  obtain ⟨g', t', cs, fuel, p, h1, h2, h3, h4⟩ := h
  rw [hg] at h1
  cases h1
  rw [hgt] at h2
  cases h2
  have := cells_of_tab ht he hce hct h4
  rw [h3, ← this]
theorem C_strs {w : World} {g : Nat} {l : List ByteArray} (h : CellsAre w g (l.map Value.string)) (hl : l.length ≤ 9223372036854775807) : Kd.C Kd.string w (some ⟨g, 0, none⟩) l.length l :=
  ⟨rfl, hl, fun _ => ⟨_, rfl, fun j p hp => ⟨[.string p], rfl, rfl, fun i u hu => by
    match i, hu with
    | 0, hu =>
      simp at hu
      subst hu
      have : Addr.add ⟨g, 0, none⟩ (j * 1 + 0) = ⟨g, j, none⟩ := by simp [Addr.add]; omega
      show w.cell? (Addr.add ⟨g, 0, none⟩ (j * 1 + 0)) = _
      rw [this]
      exact h j _ (by simp [hp])⟩⟩⟩
theorem C_ints {w : World} {g : Nat} {k : IntKind} {l : List Int} (h : CellsAre w g (l.map fun z => Value.int k z)) (hl : l.length ≤ 9223372036854775807) : Kd.C (Kd.int k) w (some ⟨g, 0, none⟩) l.length l :=
  ⟨rfl, hl, fun _ => ⟨_, rfl, fun j p hp => ⟨[.int k p], rfl, rfl, fun i u hu => by
    match i, hu with
    | 0, hu =>
      simp at hu
      subst hu
      have : Addr.add ⟨g, 0, none⟩ (j * 1 + 0) = ⟨g, j, none⟩ := by simp [Addr.add]; omega
      show w.cell? (Addr.add ⟨g, 0, none⟩ (j * 1 + 0)) = _
      rw [this]
      exact h j _ (by simp [hp])⟩⟩⟩
end Go.Proofs.YtbmnifnahbehbaaDoor

/-
  DERIVED: THE SHELF's CONTRACTS AT THIS DUMP, IN PLAIN WORDS (tools/lay-plain.mjs out of 'YtbmnifnahbehbaaDoorShelf.lean', which tools/lay-shelf.mjs wrote): THE SAME DECLARATIONS UNDER THE SAME NAMES: 'import', 'namespace', 'open', 'def', 'theorem' AND NOTHING ELSE: no command of the shelf's: FOR A HAND-IN. Each laying: the table of numbers ('.._ren') and one theorem, a field a fact of the dump's own or the kernel's comparison; each contract: ONE APPLICATION.
-/
namespace Go.Proofs
open Go.Shelf
def Tryd.laysFields_ren : Go.Shelf.Ren := ⟨fun | 157 => 54 | 229 => 66 | 199 => 67 | 261 => 76 | 311 => 79 | 312 => 80 | n => n, fun | 9 => 9 | 31 => 67 | 3 => 3 | 5 => 5 | 4 => 4 | 119 => 111 | 0 => 0 | 40 => 113 | 152 => 126 | 21 => 21 | 154 => 128 | 51 => 121 | 141 => 130 | 196 => 135 | 193 => 132 | 198 => 138 | 49 => 136 | 194 => 133 | 201 => 141 | 226 => 145 | 46 => 63 | 227 => 146 | n => n, fun | 0 => 5 | 6 => 7 | n => n⟩
theorem Tryd.laysFields : Go.Proofs.Lays.n157 Tryd.prog Tryd.laysFields_ren := {
  mixed := by kernel_rfl
  f157 := Tryd.func54.trans (congrArg some (by kernel_rfl))
  f199 := Tryd.func67.trans (congrArg some (by kernel_rfl))
  f229 := Tryd.func66.trans (congrArg some (by kernel_rfl))
  f261 := Tryd.func76.trans (congrArg some (by kernel_rfl))
  f311 := Tryd.func79.trans (congrArg some (by kernel_rfl))
  f312 := Tryd.func80.trans (congrArg some (by kernel_rfl))
  t0 := Tryd.underlying0
  a0 := Tryd.isAgg0
  z0 := Tryd.sizeOf0
  v0 := Tryd.zeroValue0
  t3 := Tryd.underlying3
  a3 := Tryd.isAgg3
  z3 := Tryd.sizeOf3
  v3 := Tryd.zeroValue3
  t4 := Tryd.underlying4
  a4 := Tryd.isAgg4
  z4 := Tryd.sizeOf4
  v4 := Tryd.zeroValue4
  t5 := Tryd.underlying5
  a5 := Tryd.isAgg5
  z5 := Tryd.sizeOf5
  v5 := Tryd.zeroValue5
  t9 := Tryd.underlying9
  a9 := Tryd.isAgg9
  z9 := Tryd.sizeOf9
  v9 := Tryd.zeroValue9
  t21 := Tryd.underlying21
  a21 := Tryd.isAgg21
  z21 := Tryd.sizeOf21
  v21 := Tryd.zeroValue21
  t31 := Tryd.underlying67
  a31 := Tryd.isAgg67
  z31 := Tryd.sizeOf67
  v31 := Tryd.zeroValue67
  t40 := Tryd.underlying113
  a40 := Tryd.isAgg113
  z40 := Tryd.sizeOf113
  v40 := Tryd.zeroValue113
  t46 := Tryd.underlying63
  a46 := Tryd.isAgg63
  z46 := Tryd.sizeOf63
  v46 := Tryd.zeroValue63
  t49 := Tryd.underlying136
  a49 := Tryd.isAgg136
  z49 := Tryd.sizeOf136
  v49 := Tryd.zeroValue136
  t51 := Tryd.underlying121
  a51 := Tryd.isAgg121
  z51 := Tryd.sizeOf121
  v51 := Tryd.zeroValue121
  t119 := Tryd.underlying111
  a119 := Tryd.isAgg111
  z119 := Tryd.sizeOf111
  t141 := Tryd.underlying130
  a141 := Tryd.isAgg130
  z141 := Tryd.sizeOf130
  v141 := Tryd.zeroValue130
  t152 := Tryd.underlying126
  a152 := Tryd.isAgg126
  z152 := Tryd.sizeOf126
  v152 := Tryd.zeroValue126
  t154 := Tryd.underlying128
  a154 := Tryd.isAgg128
  z154 := Tryd.sizeOf128
  v154 := Tryd.zeroValue128
  t193 := Tryd.underlying132
  a193 := Tryd.isAgg132
  z193 := Tryd.sizeOf132
  v193 := Tryd.zeroValue132
  t194 := Tryd.underlying133
  a194 := Tryd.isAgg133
  z194 := Tryd.sizeOf133
  v194 := Tryd.zeroValue133
  t196 := Tryd.underlying135
  a196 := Tryd.isAgg135
  z196 := Tryd.sizeOf135
  v196 := Tryd.zeroValue135
  t198 := Tryd.underlying138
  a198 := Tryd.isAgg138
  z198 := Tryd.sizeOf138
  v198 := Tryd.zeroValue138
  t201 := Tryd.underlying141
  a201 := Tryd.isAgg141
  z201 := Tryd.sizeOf141
  v201 := Tryd.zeroValue141
  t226 := Tryd.underlying145
  a226 := Tryd.isAgg145
  z226 := Tryd.sizeOf145
  v226 := Tryd.zeroValue145
  t227 := Tryd.underlying146
  a227 := Tryd.isAgg146
  z227 := Tryd.sizeOf146
  v227 := Tryd.zeroValue146
  g0 := by kernel_rfl
  g6 := by kernel_rfl }
def Tryd.laysItoa_ren : Go.Shelf.Ren := ⟨fun | 171 => 10 | 243 => 30 | 246 => 52 | 283 => 58 | 284 => 59 | 285 => 60 | 286 => 61 | 129 => 71 | 317 => 70 | 318 => 72 | 319 => 73 | 320 => 74 | 337 => 77 | 338 => 78 | n => n, fun | 3 => 3 | 9 => 9 | 2 => 2 | 4 => 4 | 171 => 101 | 0 => 0 | 53 => 22 | 37 => 44 | 5 => 5 | 173 => 104 | 212 => 120 | 51 => 121 | 20 => 20 | 213 => 122 | 46 => 63 | 232 => 143 | 233 => 144 | n => n, fun | 17 => 6 | 18 => 9 | 19 => 10 | n => n⟩
theorem Tryd.laysItoa : Go.Proofs.LaysM.n171 Tryd.prog Tryd.laysItoa_ren := {
  mixed := by kernel_rfl
  f129 := Tryd.func71.trans (congrArg some (by kernel_rfl))
  f171 := Tryd.func10.trans (congrArg some (by kernel_rfl))
  f243 := Tryd.func30.trans (congrArg some (by kernel_rfl))
  f246 := Tryd.func52.trans (congrArg some (by kernel_rfl))
  f283 := Tryd.func58.trans (congrArg some (by kernel_rfl))
  f284 := Tryd.func59.trans (congrArg some (by kernel_rfl))
  f285 := Tryd.func60.trans (congrArg some (by kernel_rfl))
  f286 := Tryd.func61.trans (congrArg some (by kernel_rfl))
  f317 := Tryd.func70.trans (congrArg some (by kernel_rfl))
  f318 := Tryd.func72.trans (congrArg some (by kernel_rfl))
  f319 := Tryd.func73.trans (congrArg some (by kernel_rfl))
  f320 := Tryd.func74.trans (congrArg some (by kernel_rfl))
  f337 := Tryd.func77.trans (congrArg some (by kernel_rfl))
  f338 := Tryd.func78.trans (congrArg some (by kernel_rfl))
  t0 := Tryd.underlying0
  a0 := Tryd.isAgg0
  z0 := Tryd.sizeOf0
  v0 := Tryd.zeroValue0
  t2 := Tryd.underlying2
  a2 := Tryd.isAgg2
  z2 := Tryd.sizeOf2
  v2 := Tryd.zeroValue2
  t3 := Tryd.underlying3
  a3 := Tryd.isAgg3
  z3 := Tryd.sizeOf3
  v3 := Tryd.zeroValue3
  t4 := Tryd.underlying4
  a4 := Tryd.isAgg4
  z4 := Tryd.sizeOf4
  v4 := Tryd.zeroValue4
  t5 := Tryd.underlying5
  a5 := Tryd.isAgg5
  z5 := Tryd.sizeOf5
  v5 := Tryd.zeroValue5
  t9 := Tryd.underlying9
  a9 := Tryd.isAgg9
  z9 := Tryd.sizeOf9
  v9 := Tryd.zeroValue9
  t20 := Tryd.underlying20
  a20 := Tryd.isAgg20
  z20 := Tryd.sizeOf20
  v20 := Tryd.zeroValue20
  t37 := Tryd.underlying44
  a37 := Tryd.isAgg44
  z37 := Tryd.sizeOf44
  v37 := Tryd.zeroValue44
  t46 := Tryd.underlying63
  a46 := Tryd.isAgg63
  z46 := Tryd.sizeOf63
  v46 := Tryd.zeroValue63
  t51 := Tryd.underlying121
  a51 := Tryd.isAgg121
  z51 := Tryd.sizeOf121
  v51 := Tryd.zeroValue121
  t53 := Tryd.underlying22
  a53 := Tryd.isAgg22
  z53 := Tryd.sizeOf22
  v53 := Tryd.zeroValue22
  t171 := Tryd.underlying101
  a171 := Tryd.isAgg101
  z171 := Tryd.sizeOf101
  v171 := Tryd.zeroValue101
  t173 := Tryd.underlying104
  a173 := Tryd.isAgg104
  z173 := Tryd.sizeOf104
  v173 := Tryd.zeroValue104
  t212 := Tryd.underlying120
  a212 := Tryd.isAgg120
  z212 := Tryd.sizeOf120
  v212 := Tryd.zeroValue120
  t213 := Tryd.underlying122
  a213 := Tryd.isAgg122
  z213 := Tryd.sizeOf122
  t232 := Tryd.underlying143
  a232 := Tryd.isAgg143
  z232 := Tryd.sizeOf143
  v232 := Tryd.zeroValue143
  t233 := Tryd.underlying144
  a233 := Tryd.isAgg144
  z233 := Tryd.sizeOf144
  v233 := Tryd.zeroValue144
  g17 := by kernel_rfl
  g18 := by kernel_rfl
  g19 := by kernel_rfl
  i0 := by kernel_rfl
  i2 := by kernel_rfl
  i3 := by kernel_rfl
  i4 := by kernel_rfl
  i5 := by kernel_rfl
  i9 := by kernel_rfl
  i20 := by kernel_rfl
  i37 := by kernel_rfl
  i46 := by kernel_rfl
  i51 := by kernel_rfl
  i53 := by kernel_rfl
  i171 := by kernel_rfl
  i173 := by kernel_rfl
  i212 := by kernel_rfl
  i232 := by kernel_rfl
  i233 := by kernel_rfl
  m17 := by kernel_rfl
  m18 := by kernel_rfl
  m19 := by kernel_rfl }
def Tryd.laysJoin_ren : Go.Shelf.Ren := ⟨fun | 156 => 32 | 165 => 53 | 166 => 9 | 169 => 18 | 240 => 29 | 241 => 65 | 276 => 51 | 277 => 75 | n => n, fun | 31 => 67 | 9 => 9 | 3 => 3 | 4 => 4 | 0 => 0 | 20 => 20 | 72 => 51 | 76 => 54 | 70 => 49 | 37 => 44 | 75 => 53 | 127 => 88 | 164 => 94 | 5 => 5 | 80 => 66 | n => n, fun | n => n⟩
theorem Tryd.laysJoin : Go.Proofs.Lays.n156 Tryd.prog Tryd.laysJoin_ren := {
  mixed := by kernel_rfl
  f156 := Tryd.func32.trans (congrArg some (by kernel_rfl))
  f165 := Tryd.func53.trans (congrArg some (by kernel_rfl))
  f166 := Tryd.func9.trans (congrArg some (by kernel_rfl))
  f169 := Tryd.func18.trans (congrArg some (by kernel_rfl))
  f240 := Tryd.func29.trans (congrArg some (by kernel_rfl))
  f241 := Tryd.func65.trans (congrArg some (by kernel_rfl))
  f276 := Tryd.func51.trans (congrArg some (by kernel_rfl))
  f277 := Tryd.func75.trans (congrArg some (by kernel_rfl))
  t0 := Tryd.underlying0
  a0 := Tryd.isAgg0
  z0 := Tryd.sizeOf0
  v0 := Tryd.zeroValue0
  t3 := Tryd.underlying3
  a3 := Tryd.isAgg3
  z3 := Tryd.sizeOf3
  v3 := Tryd.zeroValue3
  t4 := Tryd.underlying4
  a4 := Tryd.isAgg4
  z4 := Tryd.sizeOf4
  v4 := Tryd.zeroValue4
  t9 := Tryd.underlying9
  a9 := Tryd.isAgg9
  z9 := Tryd.sizeOf9
  v9 := Tryd.zeroValue9
  t20 := Tryd.underlying20
  a20 := Tryd.isAgg20
  z20 := Tryd.sizeOf20
  v20 := Tryd.zeroValue20
  t31 := Tryd.underlying67
  a31 := Tryd.isAgg67
  z31 := Tryd.sizeOf67
  v31 := Tryd.zeroValue67
  t37 := Tryd.underlying44
  a37 := Tryd.isAgg44
  z37 := Tryd.sizeOf44
  v37 := Tryd.zeroValue44
  t70 := Tryd.underlying49
  a70 := Tryd.isAgg49
  z70 := Tryd.sizeOf49
  v70 := Tryd.zeroValue49
  t72 := Tryd.underlying51
  a72 := Tryd.isAgg51
  z72 := Tryd.sizeOf51
  v72 := Tryd.zeroValue51
  t75 := Tryd.underlying53
  a75 := Tryd.isAgg53
  z75 := Tryd.sizeOf53
  v75 := Tryd.zeroValue53
  t76 := Tryd.underlying54
  a76 := Tryd.isAgg54
  z76 := Tryd.sizeOf54
  v76 := Tryd.zeroValue54
  t127 := Tryd.underlying88
  a127 := Tryd.isAgg88
  z127 := Tryd.sizeOf88
  v127 := Tryd.zeroValue88
  t164 := Tryd.underlying94
  a164 := Tryd.isAgg94
  z164 := Tryd.sizeOf94
  v164 := Tryd.zeroValue94 }
end Go.Proofs

/- The package-level variables that DeckPrints reads: from the row's list, and kept while nothing below the heap's size is written. -/
set_option linter.unusedVariables false
namespace Go.Proofs.YtbmnifnahbehbaaDoor
open Go.RowKit Go.Lib Go.Shelf Go.Proofs.YtbmnifnahbehbaaDoorW.PrintWords
def glob0 : List ByteArray := [⟨#[45]⟩, ⟨#[114]⟩, ⟨#[119]⟩, ⟨#[114, 119]⟩, ⟨#[120]⟩, ⟨#[114, 120]⟩, ⟨#[119, 120]⟩, ⟨#[114, 119, 120]⟩]
def glob1 : List Int := [768, 773, 772, 774, 800, 778, 832, 833, 834, 835, 2816, 2818]
def glob2 : List ByteArray := [⟨#[122, 101, 114, 111]⟩, ⟨#[114, 97]⟩, ⟨#[115, 112]⟩, ⟨#[103, 112]⟩, ⟨#[116, 112]⟩, ⟨#[116, 48]⟩, ⟨#[116, 49]⟩, ⟨#[116, 50]⟩, ⟨#[115, 48]⟩, ⟨#[115, 49]⟩, ⟨#[97, 48]⟩, ⟨#[97, 49]⟩, ⟨#[97, 50]⟩, ⟨#[97, 51]⟩, ⟨#[97, 52]⟩, ⟨#[97, 53]⟩, ⟨#[97, 54]⟩, ⟨#[97, 55]⟩, ⟨#[115, 50]⟩, ⟨#[115, 51]⟩, ⟨#[115, 52]⟩, ⟨#[115, 53]⟩, ⟨#[115, 54]⟩, ⟨#[115, 55]⟩, ⟨#[115, 56]⟩, ⟨#[115, 57]⟩, ⟨#[115, 49, 48]⟩, ⟨#[115, 49, 49]⟩, ⟨#[116, 51]⟩, ⟨#[116, 52]⟩, ⟨#[116, 53]⟩, ⟨#[116, 54]⟩]
def glob3 : List Int := [3857, 3858, 3859, 3860, 3861, 768, 769, 772, 773, 774, 778, 800, 832, 833, 834, 835, 836, 928, 930, 2816, 2818, 3072, 3073, 3074, -1, -1]
def glob4 : List ByteArray := [⟨#[109, 118, 101, 110, 100, 111, 114, 105, 100]⟩, ⟨#[109, 97, 114, 99, 104, 105, 100]⟩, ⟨#[109, 105, 109, 112, 105, 100]⟩, ⟨#[109, 104, 97, 114, 116, 105, 100]⟩, ⟨#[109, 99, 111, 110, 102, 105, 103, 112, 116, 114]⟩, ⟨#[109, 115, 116, 97, 116, 117, 115]⟩, ⟨#[109, 105, 115, 97]⟩, ⟨#[109, 105, 101]⟩, ⟨#[109, 116, 118, 101, 99]⟩, ⟨#[109, 99, 111, 117, 110, 116, 101, 114, 101, 110]⟩, ⟨#[109, 101, 110, 118, 99, 102, 103]⟩, ⟨#[109, 99, 111, 117, 110, 116, 105, 110, 104, 105, 98, 105, 116]⟩, ⟨#[109, 115, 99, 114, 97, 116, 99, 104]⟩, ⟨#[109, 101, 112, 99]⟩, ⟨#[109, 99, 97, 117, 115, 101]⟩, ⟨#[109, 116, 118, 97, 108]⟩, ⟨#[109, 105, 112]⟩, ⟨#[112, 109, 112, 99, 102, 103, 48]⟩, ⟨#[112, 109, 112, 99, 102, 103, 50]⟩, ⟨#[109, 99, 121, 99, 108, 101]⟩, ⟨#[109, 105, 110, 115, 116, 114, 101, 116]⟩, ⟨#[99, 121, 99, 108, 101]⟩, ⟨#[116, 105, 109, 101]⟩, ⟨#[105, 110, 115, 116, 114, 101, 116]⟩, ⟨#[]⟩, ⟨#[]⟩]
def glob9 : List Int := [0, 1, 28, 2, 29, 14, 24, 3, 30, 22, 20, 15, 25, 17, 4, 8, 31, 27, 13, 23, 21, 19, 16, 7, 26, 12, 18, 6, 11, 5, 10, 9]
def glob10 : List Int := [0, 1, 56, 2, 57, 49, 28, 3, 61, 58, 42, 50, 38, 29, 17, 4, 62, 47, 59, 36, 45, 43, 51, 22, 53, 39, 33, 30, 24, 18, 12, 5, 63, 55, 48, 27, 60, 41, 37, 16, 46, 35, 44, 21, 52, 32, 23, 11, 54, 26, 40, 15, 34, 20, 31, 10, 25, 14, 19, 9, 13, 8, 7, 6]
structure Glob (w : World) : Prop where
  v0 : CellsAre w 0 (glob0.map Value.string)
  v1 : CellsAre w 1 (glob1.map (fun z => Value.int .i64 z))
  v2 : CellsAre w 2 (glob2.map Value.string)
  v3 : CellsAre w 3 (glob3.map (fun z => Value.int .i64 z))
  v4 : CellsAre w 4 (glob4.map Value.string)
  v9 : CellsAre w 9 (glob9.map (fun z => Value.int .u8 z))
  v10 : CellsAre w 10 (glob10.map (fun z => Value.int .u8 z))
  v5 : Lib.TabIs Tryd.prog w "strings.asciiSpace" .u8 Lib.asciiSpaceTab
  v6 : Lib.TabIs Tryd.prog w "internal/strconv.uint64pow10" .u64 Lib.pow10Tab
theorem Glob.step {w W : World} (h : Glob w) (hb : Below w.heap.size w W) : Glob W := ⟨h.v0.below hb, h.v1.below hb, h.v2.below hb, h.v3.below hb, h.v4.below hb, h.v9.below hb, h.v10.below hb, TabIs_below (g := 5) (by kernel_rfl) h.v5 hb, TabIs_below (g := 6) (by kernel_rfl) h.v6 hb⟩
theorem Glob.g0 {w : World} (h : Glob w) : Kd.C Kd.string w (some ⟨0, 0, none⟩) glob0.length glob0 := C_strs h.v0 (by decide)
theorem Glob.g1 {w : World} (h : Glob w) : Kd.C (Kd.int .i64) w (some ⟨1, 0, none⟩) glob1.length glob1 := C_ints h.v1 (by decide)
theorem Glob.g2 {w : World} (h : Glob w) : Kd.C Kd.string w (some ⟨2, 0, none⟩) glob2.length glob2 := C_strs h.v2 (by decide)
theorem Glob.g3 {w : World} (h : Glob w) : Kd.C (Kd.int .i64) w (some ⟨3, 0, none⟩) glob3.length glob3 := C_ints h.v3 (by decide)
theorem Glob.g4 {w : World} (h : Glob w) : Kd.C Kd.string w (some ⟨4, 0, none⟩) glob4.length glob4 := C_strs h.v4 (by decide)
theorem Glob.g9 {w : World} (h : Glob w) : Kd.C (Kd.int .u8) w (some ⟨9, 0, none⟩) glob9.length glob9 := C_ints h.v9 (by decide)
theorem Glob.g10 {w : World} (h : Glob w) : Kd.C (Kd.int .u8) w (some ⟨10, 0, none⟩) glob10.length glob10 := C_ints h.v10 (by decide)
theorem d0 : (Rows.laid_anvil_deck_flags : DataW Unit) = strsData glob0 := by kernel_rfl
theorem d1 : (Rows.laid_anvil_anvilref14_Csrs : DataW Unit) = Lib.tabData .i64 glob1 := by kernel_rfl
theorem d2 : (Rows.laid_anvil_anvilref07_regs : DataW Unit) = strsData glob2 := by kernel_rfl
theorem d3 : (Rows.laid_anvil_anvilref07_csrNumbers : DataW Unit) = Lib.tabData .i64 glob3 := by kernel_rfl
theorem d4 : (Rows.laid_anvil_anvilref07_csrNames : DataW Unit) = strsData glob4 := by kernel_rfl
theorem d9 : (Rows.laid_math_bits_deBruijn32tab : DataW Unit) = Lib.tabData .u8 glob9 := by kernel_rfl
theorem d10 : (Rows.laid_math_bits_deBruijn64tab : DataW Unit) = Lib.tabData .u8 glob10 := by kernel_rfl
theorem d5 : (Rows.laid_strings_asciiSpace : DataW Unit) = Lib.tabData .u8 Lib.asciiSpaceTab := by kernel_rfl
theorem d6 : (Rows.laid_internal_strconv_uint64pow10 : DataW Unit) = Lib.tabData .u64 Lib.pow10Tab := by kernel_rfl
theorem glob_of {W : World} (h0 : VarReads Tryd.prog W "anvil/deck.flags" Rows.laid_anvil_deck_flags) (h1 : VarReads Tryd.prog W "anvil/anvilref14.Csrs" Rows.laid_anvil_anvilref14_Csrs) (h2 : VarReads Tryd.prog W "anvil/anvilref07.regs" Rows.laid_anvil_anvilref07_regs) (h3 : VarReads Tryd.prog W "anvil/anvilref07.csrNumbers" Rows.laid_anvil_anvilref07_csrNumbers) (h4 : VarReads Tryd.prog W "anvil/anvilref07.csrNames" Rows.laid_anvil_anvilref07_csrNames) (h9 : VarReads Tryd.prog W "math/bits.deBruijn32tab" Rows.laid_math_bits_deBruijn32tab) (h10 : VarReads Tryd.prog W "math/bits.deBruijn64tab" Rows.laid_math_bits_deBruijn64tab) (h5 : VarReads Tryd.prog W "strings.asciiSpace" Rows.laid_strings_asciiSpace) (h6 : VarReads Tryd.prog W "internal/strconv.uint64pow10" Rows.laid_internal_strconv_uint64pow10) : Glob W :=
  ⟨strs_of_reads (g := 0) (t := 61) (e := 9) (n := 8) (by kernel_rfl) (by kernel_rfl) Tryd.underlying61 Tryd.underlying9 (by kernel_rfl) (by kernel_rfl) (d0 ▸ h0),
   CellsAre.of_var (by kernel_rfl) (ints_of_reads (g := 1) (t := 92) (e := 3) (n := 12) (by kernel_rfl) (by kernel_rfl) Tryd.underlying92 Tryd.underlying3 (by kernel_rfl) (by kernel_rfl) (d1 ▸ h1)),
   strs_of_reads (g := 2) (t := 106) (e := 9) (n := 32) (by kernel_rfl) (by kernel_rfl) Tryd.underlying106 Tryd.underlying9 (by kernel_rfl) (by kernel_rfl) (d2 ▸ h2),
   CellsAre.of_var (by kernel_rfl) (ints_of_reads (g := 3) (t := 107) (e := 3) (n := 26) (by kernel_rfl) (by kernel_rfl) Tryd.underlying107 Tryd.underlying3 (by kernel_rfl) (by kernel_rfl) (d3 ▸ h3)),
   strs_of_reads (g := 4) (t := 108) (e := 9) (n := 26) (by kernel_rfl) (by kernel_rfl) Tryd.underlying108 Tryd.underlying9 (by kernel_rfl) (by kernel_rfl) (d4 ▸ h4),
   CellsAre.of_var (by kernel_rfl) (ints_of_reads (g := 9) (t := 143) (e := 5) (n := 32) (by kernel_rfl) (by kernel_rfl) Tryd.underlying143 Tryd.underlying5 (by kernel_rfl) (by kernel_rfl) (d9 ▸ h9)),
   CellsAre.of_var (by kernel_rfl) (ints_of_reads (g := 10) (t := 144) (e := 5) (n := 64) (by kernel_rfl) (by kernel_rfl) Tryd.underlying144 Tryd.underlying5 (by kernel_rfl) (by kernel_rfl) (d10 ▸ h10)),
   ints_of_reads (g := 5) (t := 111) (e := 5) (n := 256) (by kernel_rfl) (by kernel_rfl) Tryd.underlying111 Tryd.underlying5 (by kernel_rfl) (by kernel_rfl) (d5 ▸ h5),
   ints_of_reads (g := 6) (t := 120) (e := 22) (n := 20) (by kernel_rfl) (by kernel_rfl) Tryd.underlying120 Tryd.underlying22 (by kernel_rfl) (by kernel_rfl) (d6 ▸ h6)⟩
theorem cntF_le : ∀ (l : List UInt8) (ws : Bool), Lib.cntF ws l ≤ l.length
  | [], _ => Nat.le_refl _
  | b :: t, ws => by
    have := cntF_le t (Lib.isSp b)
    simp only [Lib.cntF, List.length_cons]
    split <;> omega
theorem infoS : (Tryd.prog.info? 9).map (fun i => (i.zero, i.size, i.bytes)) = some (some (.string ByteArray.empty), 1, 16) := by kernel_rfl
def fieldsL (s : ByteArray) : List ByteArray := (Lib.fields s.data.toList).map fun l => ⟨l.toArray⟩
theorem fields_c (s : ByteArray) (w : World) (hs : s.size < 4294967281) (ha : ∀ b ∈ s.data.toList, b.toNat < 128) (hG : Glob w) :
    Calls Tryd.prog 54 #[.string s] w fun e w' => ∃ v0_ : Value, e = .returned v0_ ∧ Kd.R Kd.string 9 w' w.heap.size (fun _ => True) v0_ (fieldsL s) ∧ Below w.heap.size w w' := by
  refine (Any.strings_Fields Tryd.laysFields infoS (show Tryd.prog.globalNamed "strings.asciiSpace" = some 5 by kernel_rfl) s w hs (fun j b hb => ha b (List.mem_of_getElem? hb)) hG.v5).mono fun e w' ⟨he, hw⟩ => ?_
  subst he hw
  have hN : (Lib.fields s.data.toList).length ≤ s.size := by rw [Lib.fields_length, Lib.size_eq]; exact cntF_le _ _
  have hrep : Reps (Kd.string.M (w.alloc (.cells ((Lib.fields s.data.toList).map fun l => Value.string ⟨l.toArray⟩).toArray 9)) w.heap.size (fun k => (fun _ => True) k ∧ some k ≠ (Value.slice (some ⟨w.heap.size, 0, none⟩) (Lib.fields s.data.toList).length (Lib.fields s.data.toList).length).ownBlock)) 1 (fieldsL s) ((fieldsL s).map Value.string) := by
    refine ⟨by simp, fun j p hp => ?_⟩
    have h1 : (((fieldsL s).map Value.string).drop (j * 1)).take 1 = [Value.string p] := by
      apply List.ext_getElem?
      intro i
      rw [List.getElem?_take]
      split
      · have : i = 0 := by omega
        subst this
        simp [hp]
      · simp; omega
    rw [h1]
    exact rfl
  refine ⟨_, rfl, ⟨fun k hk => trivial, ?_⟩, (Below.refl _ w).alloc (Nat.le_refl _) _⟩
  have hl := OwnRow.lit (e := 9) w w.heap.size hrep (Nat.le_refl _) (by simp [fieldsL]; omega)
  simp [fieldsL, Function.comp_def] at hl ⊢
  exact hl
def itoaB (n : Int) : ByteArray := ⟨(Lib.itoa n).toArray⟩
theorem itoa_c (n : Int) (h0 : -9223372036854775808 ≤ n) (h1 : n ≤ 9223372036854775807) (w : World) (hG : Glob w) :
    Calls Tryd.prog 10 #[.int .i64 n] w fun e w' => e = .returned (.string (itoaB n)) ∧ Below w.heap.size w w' := by
  refine (Any.strconv_Itoa Tryd.laysItoa n h0 h1 w hG.v6).mono ?_
  rintro e w' ⟨rfl, k, os, rfl⟩
  refine ⟨rfl, ?_⟩
  exact ⟨rfl, rfl, rfl, by simp [Sort.grow, World.drewN], fun i hi => by show (w.heap ++ os)[i]? = w.heap[i]?; rw [Array.getElem?_append_left hi]⟩
theorem CellsAre.low {w W : World} {g B : Nat} {vs : List Value} (h : CellsAre w g vs) (hb : Below B w W) (hg : g < B) : CellsAre W g vs := fun i u hu => (hb.cell (p := ⟨g, i, none⟩) hg).trans (h i u hu)
theorem TabIs_low {n : String} {g B : Nat} {k : IntKind} {zs : List Int} {w w' : World} (hg : Tryd.prog.globalNamed n = some g) (h : Lib.TabIs Tryd.prog w n k zs) (hb : Below B w w') (hB : g < B) : Lib.TabIs Tryd.prog w' n k zs := by
  unfold Lib.TabIs World.var? at h ⊢
  rw [hg] at h ⊢
  simp only [Option.bind_some] at h ⊢
  rw [hb.block g hB]
  exact h
theorem Glob.low {w W : World} {B : Nat} (h : Glob w) (hb : Below B w W) (hB : 11 ≤ B) : Glob W :=
  ⟨h.v0.low hb (by omega), h.v1.low hb (by omega), h.v2.low hb (by omega), h.v3.low hb (by omega), h.v4.low hb (by omega), h.v9.low hb (by omega), h.v10.low hb (by omega), TabIs_low (g := 5) (by kernel_rfl) h.v5 hb (by omega), TabIs_low (g := 6) (by kernel_rfl) h.v6 hb (by omega)⟩
theorem Glob.size {w : World} (h : Glob w) : 11 ≤ w.heap.size := by
  have := World.block_lt_of_cell? w _ (h.v10 0 _ rfl)
  exact this
end Go.Proofs.YtbmnifnahbehbaaDoor

-- BY PROGRAM of this session (the kit's printer, turned by wip/tools/patch_print.py). Lean checks it.
namespace Go.Proofs.YtbmnifnahbehbaaDoor.PTz
open Go.RowKit Go.Proofs.YtbmnifnahbehbaaDoorW.PrintWords Go.Proofs.YtbmnifnahbehbaaDoorW.PrintLast Go.Proofs.YtbmnifnahbehbaaDoorW.PrintMore
attribute [local go_sem] max2_int min2_int max_two min_two max_three min_three max_four min_four   -- for this text's walks alone
set_option linter.unusedVariables false
set_option linter.unusedSimpArgs false



def errW : Option Int → Value
  | none => .nilIface
  | some c => .iface 0 (.int .i64 c)
theorem errW_none : errW none = .nilIface := rfl
theorem errW_some (c : Int) : errW (some c) = .iface 0 (.int .i64 c) := rfl

-- the values' own types

end Go.Proofs.YtbmnifnahbehbaaDoor.PTz

-- BY PROGRAM of this session (the kit's printer, turned by wip/tools/patch_print.py). Lean checks it.
namespace Go.Proofs.YtbmnifnahbehbaaDoor.PTz
open Go.RowKit Go.Proofs.YtbmnifnahbehbaaDoorW.PrintWords Go.Proofs.YtbmnifnahbehbaaDoorW.PrintLast Go.Proofs.YtbmnifnahbehbaaDoorW.PrintMore
attribute [local go_sem] max2_int min2_int max_two min_two max_three min_three max_four min_four   -- for this text's walks alone
set_option linter.unusedVariables false
set_option linter.unusedSimpArgs false

/-! ### bits_TrailingZeros32: function 77 -/
def bits_TrailingZeros32.f (a0 : Int) : Option (Int) := if a0 = 0 then (some 32) else (if 0 ≤ ((((Go.bits .and .u32 a0 ((-a0) % 4294967296)) * 125613361) % 4294967296) / 134217728) then (if ((((Go.bits .and .u32 a0 ((-a0) % 4294967296)) * 125613361) % 4294967296) / 134217728) < 32 then (some (wrap64 (rd glob9 ((((Go.bits .and .u32 a0 ((-a0) % 4294967296)) * 125613361) % 4294967296) / 134217728)))) else (none)) else (none))
set_option maxHeartbeats 8000000 in
set_option maxRecDepth 100000 in
theorem bits_TrailingZeros32.calls (a0 : Int) (r : Int) (w : World) (hG : Glob w) (h : bits_TrailingZeros32.f a0 = some r) :
    Calls Tryd.prog 77 #[.int .u32 a0] w fun e w' => e = .returned (.int .i64 r) ∧ Drawn0 w w' := by
  have GL9 := Aside0.mk (Glob.g9 hG)
  have HG := Aside0.mk hG
  clear hG
  have H : (if a0 = 0 then (some 32) else (if 0 ≤ ((((Go.bits .and .u32 a0 ((-a0) % 4294967296)) * 125613361) % 4294967296) / 134217728) then (if ((((Go.bits .and .u32 a0 ((-a0) % 4294967296)) * 125613361) % 4294967296) / 134217728) < 32 then (some (wrap64 (rd glob9 ((((Go.bits .and .u32 a0 ((-a0) % 4294967296)) * 125613361) % 4294967296) / 134217728)))) else (none)) else (none))) = some r := h
  clear h
  by_cases c2 : a0 = 0
  · rw [if_pos c2] at H
    have c2b0 : (a0 == 0) = true := beq_iff_eq.mpr c2
    have c2b1 : (a0 != 0) = false := bne_eq_false_iff_eq.mpr c2
    clear c2
    obtain rfl := Option.some.inj H
    go_enter Tryd.func77, Tryd.ntmps77
    go_wp2
    go_ret
    exact ⟨by first | rfl | (simp; done) | (simp only [i64_w, i32_w]; done) | (simp [i64_w, i32_w]; done) | (simp [*]; done), by repeat (first | exact Drawn0.refl _ | apply Drawn0.step)⟩
  · rw [if_neg c2] at H
    have c2b0 : (a0 == 0) = false := beq_eq_false_iff_ne.mpr c2
    have c2b1 : (a0 != 0) = true := bne_iff_ne.mpr c2
    obtain ⟨ji3, hji3⟩ : ∃ j_ : Int, ((((Go.bits .and .u32 a0 ((-a0) % 4294967296)) * 125613361) % 4294967296) / 134217728) = j_ := ⟨_, rfl⟩
    replace H : (if 0 ≤ (ji3) then (if (ji3) < 32 then (some (wrap64 (rd glob9 (ji3)))) else (none)) else (none)) = some r := by first | (rw [hji3] at H; exact H) | (simp only [hji3] at H ⊢; exact H)
    by_cases c4 : 0 ≤ (ji3)
    · rw [if_pos c4] at H
      have c4b0 : decide (0 ≤ (ji3)) = true := decide_eq_true c4
      clear c4
      by_cases c5 : (ji3) < 32
      · rw [if_pos c5] at H
        have c5b0 : decide ((ji3) < 32) = true := decide_eq_true c5
        clear c5
        obtain rfl := Option.some.inj H
        have p101 : 0 ≤ ((ji3) : Int) := of_decide_eq_true (by first | (with_reducible assumption) | assumption)
        have q101 : (ji3) < (glob9.length : Int) := of_decide_eq_true (by first | (with_reducible assumption) | assumption)
        have ql101 : (((ji3) : Int) < (32 : Int)) = True := eq_true (of_decide_eq_true (by first | (with_reducible assumption) | assumption))
        obtain ⟨ad101, e101, hx101_0⟩ := Kd.at_int GL9.out (ji3) p101 q101
        obtain rfl : (⟨9, 0, none⟩ : Addr) = ad101 := (by injection e101)
        (first | simp only [add_plain] at hx101_0 | simp only [add_at] at hx101_0 | simp only [Addr.add, Nat.zero_add] at hx101_0 | skip)
        replace p101 := eq_true p101
        replace q101 := eq_true q101
        go_enter Tryd.func77, Tryd.ntmps77
        go_wp2
        go_ret
        exact ⟨by first | rfl | (simp; done) | (simp only [← hji3] <;> (first | rfl | simp)) | (simp [*]; done), by repeat (first | exact Drawn0.refl _ | apply Drawn0.step)⟩
      · rw [if_neg c5] at H
        exact absurd H (by simp)
    · rw [if_neg c4] at H
      exact absurd H (by simp)

/-! ### bits_TrailingZeros64: function 78 -/
def bits_TrailingZeros64.f (a0 : Int) : Option (Int) := if a0 = 0 then (some 64) else (if 0 ≤ ((IntKind.u64.wrap ((Go.bits .and .u64 a0 (IntKind.u64.wrap (-a0))) * 285870213051353865)) / 288230376151711744) then (if ((IntKind.u64.wrap ((Go.bits .and .u64 a0 (IntKind.u64.wrap (-a0))) * 285870213051353865)) / 288230376151711744) < 64 then (some (wrap64 (rd glob10 ((IntKind.u64.wrap ((Go.bits .and .u64 a0 (IntKind.u64.wrap (-a0))) * 285870213051353865)) / 288230376151711744)))) else (none)) else (none))
set_option maxHeartbeats 8000000 in
set_option maxRecDepth 100000 in
theorem bits_TrailingZeros64.calls (a0 : Int) (r : Int) (w : World) (hG : Glob w) (h : bits_TrailingZeros64.f a0 = some r) :
    Calls Tryd.prog 78 #[.int .u64 a0] w fun e w' => e = .returned (.int .i64 r) ∧ Drawn0 w w' := by
  have GL10 := Aside0.mk (Glob.g10 hG)
  have HG := Aside0.mk hG
  clear hG
  have H : (if a0 = 0 then (some 64) else (if 0 ≤ ((IntKind.u64.wrap ((Go.bits .and .u64 a0 (IntKind.u64.wrap (-a0))) * 285870213051353865)) / 288230376151711744) then (if ((IntKind.u64.wrap ((Go.bits .and .u64 a0 (IntKind.u64.wrap (-a0))) * 285870213051353865)) / 288230376151711744) < 64 then (some (wrap64 (rd glob10 ((IntKind.u64.wrap ((Go.bits .and .u64 a0 (IntKind.u64.wrap (-a0))) * 285870213051353865)) / 288230376151711744)))) else (none)) else (none))) = some r := h
  clear h
  by_cases c2 : a0 = 0
  · rw [if_pos c2] at H
    have c2b0 : (a0 == 0) = true := beq_iff_eq.mpr c2
    have c2b1 : (a0 != 0) = false := bne_eq_false_iff_eq.mpr c2
    clear c2
    obtain rfl := Option.some.inj H
    go_enter Tryd.func78, Tryd.ntmps78
    go_wp2
    go_ret
    exact ⟨by first | rfl | (simp; done) | (simp only [i64_w, i32_w]; done) | (simp [i64_w, i32_w]; done) | (simp [*]; done), by repeat (first | exact Drawn0.refl _ | apply Drawn0.step)⟩
  · rw [if_neg c2] at H
    have c2b0 : (a0 == 0) = false := beq_eq_false_iff_ne.mpr c2
    have c2b1 : (a0 != 0) = true := bne_iff_ne.mpr c2
    obtain ⟨ji3, hji3⟩ : ∃ j_ : Int, ((IntKind.u64.wrap ((Go.bits .and .u64 a0 (IntKind.u64.wrap (-a0))) * 285870213051353865)) / 288230376151711744) = j_ := ⟨_, rfl⟩
    replace H : (if 0 ≤ (ji3) then (if (ji3) < 64 then (some (wrap64 (rd glob10 (ji3)))) else (none)) else (none)) = some r := by first | (rw [hji3] at H; exact H) | (simp only [hji3] at H ⊢; exact H)
    by_cases c4 : 0 ≤ (ji3)
    · rw [if_pos c4] at H
      have c4b0 : decide (0 ≤ (ji3)) = true := decide_eq_true c4
      clear c4
      by_cases c5 : (ji3) < 64
      · rw [if_pos c5] at H
        have c5b0 : decide ((ji3) < 64) = true := decide_eq_true c5
        clear c5
        obtain rfl := Option.some.inj H
        have p102 : 0 ≤ ((ji3) : Int) := of_decide_eq_true (by first | (with_reducible assumption) | assumption)
        have q102 : (ji3) < (glob10.length : Int) := of_decide_eq_true (by first | (with_reducible assumption) | assumption)
        have ql102 : (((ji3) : Int) < (64 : Int)) = True := eq_true (of_decide_eq_true (by first | (with_reducible assumption) | assumption))
        obtain ⟨ad102, e102, hx102_0⟩ := Kd.at_int GL10.out (ji3) p102 q102
        obtain rfl : (⟨10, 0, none⟩ : Addr) = ad102 := (by injection e102)
        (first | simp only [add_plain] at hx102_0 | simp only [add_at] at hx102_0 | simp only [Addr.add, Nat.zero_add] at hx102_0 | skip)
        replace p102 := eq_true p102
        replace q102 := eq_true q102
        go_enter Tryd.func78, Tryd.ntmps78
        go_wp2
        go_ret
        exact ⟨by first | rfl | (simp; done) | (simp only [← hji3] <;> (first | rfl | simp)) | (simp [*]; done), by repeat (first | exact Drawn0.refl _ | apply Drawn0.step)⟩
      · rw [if_neg c5] at H
        exact absurd H (by simp)
    · rw [if_neg c4] at H
      exact absurd H (by simp)

/-! ### bits_TrailingZeros: function 74 -/
def bits_TrailingZeros.f (a0 : Int) : Option (Int) := (bits_TrailingZeros64.f a0).bind fun t103 => (some t103)
set_option maxHeartbeats 8000000 in
set_option maxRecDepth 100000 in
theorem bits_TrailingZeros.calls (a0 : Int) (r : Int) (w : World) (hG : Glob w) (h : bits_TrailingZeros.f a0 = some r) :
    Calls Tryd.prog 74 #[.int .u64 a0] w fun e w' => e = .returned (.int .i64 r) ∧ Drawn0 w w' := by
  have HG := Aside0.mk hG
  clear hG
  have H : ((bits_TrailingZeros64.f a0).bind fun t103 => (some t103)) = some r := h
  clear h
  replace H := Option.bind_eq_some_iff.mp H
  obtain ⟨t103, A20, H⟩ := H
  replace H : (some t103) = some r := H
  have A2 := Aside0.mk A20
  clear A20
  obtain rfl := Option.some.inj H
  go_enter Tryd.func74, Tryd.ntmps74
  go_wp2_with (first | ((with_reducible refine gate_callee (f := 78) rfl ?_); refine goesL_ (some 7) rfl rfl Tryd.func78 (by kernel_rfl) rfl #[.int .u64 a0] rfl (by (try simp only [List.map_toArray, List.map_cons, List.map_nil]); first | done | rfl | (simp only [List.length_drop, List.length_take]; rfl)) ?_; (with_reducible refine (bits_TrailingZeros64.calls a0 t103 _ ?side1 A2.out).mono ?_); (case side1 => first | exact HG.out | exact Glob.step HG.out HB.out | (refine Glob.step HG.out ?_; (repeat (first | exact Below.refl _ _ | apply pw_below_drewN | apply below_drew1)); done) | exact Glob.step HG.out (by repeat (first | (with_reducible first | exact HB.out | apply below_alloc | apply pw_below_drewN | apply below_drew1) | exact HB.out))); rintro e w' ⟨rfl, ⟨nd, rfl⟩⟩; refine ⟨_, rfl, ?_⟩))
  go_ret
  exact ⟨by first | rfl | (simp; done) | (simp only [i64_w, i32_w]; done) | (simp [i64_w, i32_w]; done) | (simp [*]; done), by repeat (first | exact Drawn0.refl _ | apply Drawn0.step)⟩

/-! ### strconv_isPowerOfTwo: function 73 -/
def strconv_isPowerOfTwo.f (a0 : Int) : Option (Bool) := some ((Go.bits .and .i64 a0 (wrap64 (a0 - 1))) == 0)
set_option maxHeartbeats 8000000 in
set_option maxRecDepth 100000 in
theorem strconv_isPowerOfTwo.calls (a0 : Int) (r : Bool) (w : World) (h : strconv_isPowerOfTwo.f a0 = some r) :
    Calls Tryd.prog 73 #[.int .i64 a0] w fun e w' => e = .returned (.bool r) ∧ Drawn0 w w' := by
  have H : (some ((Go.bits .and .i64 a0 (wrap64 (a0 - 1))) == 0)) = some r := h
  clear h
  obtain rfl := Option.some.inj H
  go_enter Tryd.func73, Tryd.ntmps73
  go_wp2
  go_ret
  exact ⟨by first | rfl | (simp; done) | (simp only [i64_w, i32_w]; done) | (simp [i64_w, i32_w]; done) | (simp [*]; done), by repeat (first | exact Drawn0.refl _ | apply Drawn0.step)⟩

/-- THE ONE PURE STATEMENT of strconv_isPowerOfTwo: yours. -/
def strconv_isPowerOfTwo.Pure : Prop := ∀ (a0 : Int), (Lit.int .i64 a0).wf = true → strconv_isPowerOfTwo.f a0 = some true
theorem strconv_isPowerOfTwo.walk (P : strconv_isPowerOfTwo.Pure) (a0 : Int) (w : World) (w0 : (Lit.int .i64 a0).wf = true) :
    Calls Tryd.prog 73 #[.int .i64 a0] w fun e w' => e = .returned (.bool true) ∧ Below w.heap.size w w' := by
  have h := P a0 w0
  refine (strconv_isPowerOfTwo.calls a0 true w h).mono ?_
  rintro e w' ⟨rfl, hd⟩
  exact ⟨rfl, hd.below⟩

end Go.Proofs.YtbmnifnahbehbaaDoor.PTz

/- strconv.FormatUint in base 16, for every 64-bit number: its digits; the premise: the library's table of de Bruijn stands as laid. -/
set_option linter.unusedVariables false
set_option linter.unusedSimpArgs false
namespace Go.Proofs.YtbmnifnahbehbaaDoor
open Go.RowKit Go.Lib Go.Proofs.YtbmnifnahbehbaaDoorW.PrintWords

def hexDigit (d : Nat) : UInt8 := UInt8.ofNat (if d < 10 then 48 + d else 87 + d)
def hexL (v : Nat) : List UInt8 := if h : v < 16 then [hexDigit v] else hexL (v / 16) ++ [hexDigit (v % 16)]
  decreasing_by omega
theorem hexL_len : ∀ (n v : Nat), 1 ≤ n → v < 16 ^ n → (hexL v).length ≤ n
  | 0, v, h, _ => by omega
  | n + 1, v, h, hv => by
    unfold hexL
    split
    · simp
    · rename_i h16
      rcases Nat.eq_zero_or_pos n with rfl | hn
      · simp at hv; omega
      · have := hexL_len n (v / 16) hn (by rw [Nat.pow_succ] at hv; omega)
        simp
        omega
theorem hexL_pos (v : Nat) : 1 ≤ (hexL v).length := by
  unfold hexL
  split <;> simp
theorem pow2_c (w : World) : Calls Tryd.prog 73 #[.int .i64 16] w fun e w' => e = .returned (.bool true) ∧ Drawn0 w w' :=
  PTz.strconv_isPowerOfTwo.calls 16 true w (by decide +kernel)
theorem tz_c (w : World) (hG : Glob w) : Calls Tryd.prog 74 #[.int .u64 16] w fun e w' => e = .returned (.int .i64 4) ∧ Drawn0 w w' :=
  PTz.bits_TrailingZeros.calls 16 4 w hG (by decide +kernel)

/-- The array's cells: the digits L stand at its end. -/
def Tail (w : World) (b : Nat) (L : List UInt8) (i : Int) : Prop :=
  ∃ cs : Array Value, w.heap[b]? = some (.cells cs 122 (0, 0)) ∧ cs.size = 65 ∧ i = 65 - (L.length : Int) ∧ ∀ j d, L[j]? = some d → cs[65 - L.length + j]? = some (.int .u8 (d.toNat : Int))
theorem wraps_u64 (n : Int) (h₀ : 0 ≤ n) (h₁ : n < 2 ^ 64) : IntKind.u64.wrap n = n := by
  have h : n % 2 ^ 64 = n := by omega
  simp [IntKind.wrap, IntKind.signed, IntKind.bits]
  omega
theorem and15 (u : Nat) (h : u < 18446744073709551616) : bits .and .u64 (u : Int) 15 = ((u % 16 : Nat) : Int) := by
  have := bits_mask .u64 64 (by decide) wraps_u64 4 (by decide) (u : Int) (by omega) (by omega)
  rw [show (15 : Int) = 2 ^ 4 - 1 from rfl, this]
  omega
theorem idx_hex (d : Nat) (hd : d < 16) (W : World) : (Instr.index 9 (.string ⟨#[48, 49, 50, 51, 52, 53, 54, 55, 56, 57, 97, 98, 99, 100, 101, 102, 103, 104, 105, 106, 107, 108, 109, 110, 111, 112, 113, 114, 115, 116, 117, 118, 119, 120, 121, 122]⟩) (.int .u64 (d : Int))).run Tryd.prog W = .ok (.int .u8 ((hexDigit d).toNat : Int)) W := by
  obtain rfl | rfl | rfl | rfl | rfl | rfl | rfl | rfl | rfl | rfl | rfl | rfl | rfl | rfl | rfl | rfl : d = 0 ∨ d = 1 ∨ d = 2 ∨ d = 3 ∨ d = 4 ∨ d = 5 ∨ d = 6 ∨ d = 7 ∨ d = 8 ∨ d = 9 ∨ d = 10 ∨ d = 11 ∨ d = 12 ∨ d = 13 ∨ d = 14 ∨ d = 15 := by omega
  all_goals kernel_rfl
/-- One digit more. -/
theorem Tail.store {w : World} {b : Nat} {L : List UInt8} {i : Int} {m : Nat} {x : UInt8} (h : Tail w b L i) (hi : i = (m : Int) + 1) : Tail (w.setCell ⟨b, m, none⟩ (.int .u8 (x.toNat : Int))) b (x :: L) m := by
  obtain ⟨cs, hb, hz, hl, hcs⟩ := h
  refine ⟨_, blk_set hb m _, by simpa using hz, by simp; omega, fun j d hj => ?_⟩
  cases j with
  | zero =>
    simp at hj
    subst hj
    rw [show 65 - (x :: L).length + 0 = m by simp; omega, Array.getElem?_setIfInBounds_self, if_pos (by omega)]
  | succ j =>
    have hj' : L[j]? = some d := by simpa using hj
    have := hcs j d hj'
    rw [Array.getElem?_setIfInBounds_ne (by simp; omega), ← this]
    congr 1
    simp
    omega
set_option maxHeartbeats 8000000 in
set_option maxRecDepth 1000000 in
theorem fb16 (v : Nat) (hv : v < 18446744073709551616) (w : World) (hG : Glob w) :
    Calls Tryd.prog 61 #[.slice none 0 0, .int .u64 v, .int .i64 16, .bool false, .bool false] w fun e w' => e = .returned (.tuple #[.slice none 0 0, .string ⟨(hexL v).toArray⟩]) ∧ Below w.heap.size w w' := by
  have AG := Lib.hid hG
  clear hG
  go_enter Tryd.func61, Tryd.ntmps61
  go_wp2_with (first | (go_at_call 73; refine (pow2_c _).mono ?_; rintro e w' ⟨rfl, ⟨n1, rfl⟩⟩) | (go_at_call 74; refine (tz_c _ (Glob.step AG.out (by repeat (first | exact Below.refl _ _ | apply pw_below_drewN | apply below_drew1 | apply below_alloc)))).mono ?_; rintro e w' ⟨rfl, ⟨n2, rfl⟩⟩))
  have AB := Lib.hid (show Below w.heap.size w ((w.alloc (Obj.cells Tryd.zeroCells122 122)).drewN (n1 + n2)) from by repeat (first | exact Below.refl _ _ | apply pw_below_drewN | apply below_drew1 | apply below_alloc))
  have AT := Lib.hid (show Tail ((w.alloc (Obj.cells Tryd.zeroCells122 122)).drewN (n1 + n2)) w.heap.size [] 65 from ⟨_, blk_new w _, by kernel_rfl, rfl, fun j d h => by simp at h⟩)
  go_loopw [1, 13] (fun v1 v13 wx => ∃ (u : Nat) (L : List UInt8) (i : Int), v1 = .int .u64 u ∧ v13 = .int .i64 i ∧ Hid (Tail wx w.heap.size L i) ∧ Hid (Below w.heap.size w wx) ∧ Hid (hexL u ++ L = hexL v ∧ u < 18446744073709551616 ∧ L.length + (hexL u).length ≤ 16)) (fun v1 _ _ => (RowKit.intOf v1).toNat)
  case atStart => exact ⟨v, [], 65, rfl, rfl, AT, AB, Lib.hid ⟨by simp, hv, by have := hexL_len 16 v (by omega) hv; simpa using this⟩⟩
  case round =>
    clear AB AT
    obtain ⟨u, L, i, rfl, rfl, HT, HB, HX⟩ := hrel
    have hu := HX.out.2.1
    have hl := HX.out.2.2
    have hp := hexL_pos u
    have hi := HT.out
    obtain ⟨cs, hb, hz, hi, hcs⟩ := hi
    have AC := Lib.hid hcs
    clear hcs
    obtain ⟨m, hm⟩ : ∃ m : Nat, m = 64 - L.length := ⟨_, rfl⟩
    obtain rfl : i = (m : Int) + 1 := by omega
    have hw1 : wrap64 ((m : Int) + 1 - 1) = m := by unfold wrap64; omega
    have hm2 : m < 65 := by omega
    have hc := blk_cell hb m
    rw [Array.getElem?_eq_getElem (by omega)] at hc
    have hf := blk_frozen hb m
    have AHB := Lib.hid hb
    have AM := Lib.hid hm
    have AZ := Lib.hid hz
    obtain ⟨cv, hcv⟩ : ∃ cv, cs[m]'(by omega) = cv := ⟨_, rfl⟩
    rw [hcv] at hc
    clear hb hm hcv hi hl hp hz
    by_cases h16 : 16 ≤ u
    · have c16 : decide ((u : Int) ≥ 16) = true := by simp; omega
      obtain ⟨d, hd⟩ : ∃ d, u % 16 = d := ⟨_, rfl⟩
      obtain ⟨u1, hu1⟩ : ∃ u1, u / 16 = u1 := ⟨_, rfl⟩
      have hand := and15 u hu
      rw [hd] at hand
      have hdiv : (u : Int) / 16 = (u1 : Int) := by omega
      have hd16 : d < 16 := by omega
      have hX := idx_hex d hd16
      have hlt : u1 < u := by omega
      have HT2 := Lib.hid (HT.out.store (x := hexDigit d) rfl)
      have HX2 : Hid (hexL u1 ++ (hexDigit d :: L) = hexL v ∧ u1 < 18446744073709551616 ∧ (hexDigit d :: L).length + (hexL u1).length ≤ 16) := by
        have h1 : hexL u = hexL u1 ++ [hexDigit d] := by
          rw [hexL, dif_neg (by omega), hu1, hd]
        obtain ⟨e1, e2, e3⟩ := HX.out
        rw [h1] at e1 e3
        exact Lib.hid ⟨by simpa using e1, by omega, by simp at e3 ⊢; omega⟩
      clear hd hu1 HX
      go_wp2
      refine ⟨⟨u1, _, _, rfl, rfl, HT2, Lib.hid (HB.out.setCell (p := ⟨w.heap.size, m, none⟩) (Nat.le_refl _) _), HX2⟩, ?_⟩
      simp [RowKit.intOf]
      omega
    · have c16 : decide ((u : Int) ≥ 16) = false := by simp; omega
      have hX := idx_hex u (by omega)
      have HT2 := Lib.hid (HT.out.store (x := hexDigit u) rfl)
      have HX2 : Hid (hexDigit u :: L = hexL v) := by
        have h1 : hexL u = [hexDigit u] := by
          rw [hexL, dif_pos (by omega)]
        obtain ⟨e1, e2, e3⟩ := HX.out
        rw [h1] at e1
        exact Lib.hid (by simpa using e1)
      have hB2 := Lib.hid (HB.out.setCell (Nat.le_refl _) (p := ⟨w.heap.size, m, none⟩) (.int .u8 ((hexDigit u).toNat : Int)))
      have hal : Tryd.prog.arrayLen 122 = 65 := by kernel_rfl
      have hsl : ∀ W, (Instr.sliceAt 122 (.pointer (some ⟨w.heap.size, 0, none⟩)) (some (.int .i64 (m : Int))) none none).run Tryd.prog W = .ok (.slice (some ⟨w.heap.size, m, none⟩) (65 - m) (65 - m)) W := fun W => by
        rw [run_sliceAt_array_l W 122 ⟨w.heap.size, 0, none⟩ (by kernel_rfl) .i64 (m : Int) (by omega) (by rw [hal]; omega), hal, show Sem.run Tryd.prog (sizeOf (Tryd.prog.elem 122)) W = .ok 1 W from by kernel_rfl]
        show Result.ok (slicedAt ⟨w.heap.size, 0, none⟩ (m : Int).toNat 65 65 1) W = _
        unfold slicedAt
        rw [Int.toNat_natCast, if_neg (by omega)]
        simp [Addr.add]
        omega
      have hcv : (convert 44 9 (.slice (some ⟨w.heap.size, m, none⟩) (65 - m) (65 - m))).run Tryd.prog (wr.setCell ⟨w.heap.size, m, none⟩ (.int .u8 ((hexDigit u).toNat : Int))) = .ok (.string ⟨(hexL v).toArray⟩) (wr.setCell ⟨w.heap.size, m, none⟩ (.int .u8 ((hexDigit u).toNat : Int))) := by
        obtain ⟨cs2, hb2, hz2, hi2, hcs2⟩ := HT2.out
        have hlen : (hexL v).length = 65 - m := by rw [← HX2.out]; omega
        have h := run_convert_bytes_back (P := Tryd.prog) (wr.setCell ⟨w.heap.size, m, none⟩ (.int .u8 ((hexDigit u).toNat : Int))) 44 9 5 ⟨w.heap.size, m, none⟩ (65 - m) (hexL v) Tryd.underlying44 Tryd.underlying5 Tryd.underlying9 (fun j hj => by
          have h1 := hcs2 j ((hexL v)[j]) (by rw [HX2.out]; exact List.getElem?_eq_getElem hj)
          rw [show Addr.add ⟨w.heap.size, m, none⟩ j = ⟨w.heap.size, m + j, none⟩ from by simp [Addr.add], blk_cell hb2, ← h1]
          congr 1
          omega)
        rw [hlen] at h
        exact h
      clear HX HB HT HX2 HT2 hal
      go_wp2
      go_ret2
      exact ⟨rfl, hB2.out⟩
set_option maxHeartbeats 8000000 in
set_option maxRecDepth 1000000 in
theorem fu16i (v : Nat) (hv : v < 18446744073709551616) (w : World) (hG : Glob w) :
    Calls Tryd.prog 40 #[.int .u64 v, .int .i64 16] w fun e w' => e = .returned (.string ⟨(hexL v).toArray⟩) ∧ Below w.heap.size w w' := by
  have cB := fb16 v hv w hG
  clear hG
  go_enter Tryd.func40, Tryd.ntmps40
  go_wp2_with (go_at_call 61; refine cB.mono ?_; rintro e w' ⟨rfl, hb⟩)
  go_ret
  exact ⟨rfl, hb⟩
set_option maxHeartbeats 8000000 in
set_option maxRecDepth 1000000 in
/-- strconv.FormatUint(v, 16). -/
theorem fu16 (v : Nat) (hv : v < 18446744073709551616) (w : World) (hG : Glob w) :
    Calls Tryd.prog 14 #[.int .u64 v, .int .i64 16] w fun e w' => e = .returned (.string ⟨(hexL v).toArray⟩) ∧ Below w.heap.size w w' := by
  have cB := fu16i v hv w hG
  clear hG
  go_enter Tryd.func14, Tryd.ntmps14
  go_wp2_with (go_at_call 40; refine cB.mono ?_; rintro e w' ⟨rfl, hb⟩)
  go_ret
  exact ⟨rfl, hb⟩
end Go.Proofs.YtbmnifnahbehbaaDoor

/- strconv.FormatUint in base 10: the digits of every 64-bit number (after the kit's text on FormatInt). -/
set_option linter.unusedVariables false
namespace Go.Proofs.YtbmnifnahbehbaaDoor
open Go.RowKit Go.Lib Go.Shelf Go.Proofs.YtbmnifnahbehbaaDoorW.PrintWords
theorem below_grow (w : World) (k : Nat) (os : Array Obj) : Below w.heap.size w (Sort.grow (w.drewN k) os) :=
  ⟨rfl, rfl, rfl, by simp [Sort.grow, World.drewN], fun i hi => by show (w.heap ++ os)[i]? = w.heap[i]?; rw [Array.getElem?_append_left hi]⟩
set_option maxHeartbeats 4000000 in
set_option maxRecDepth 100000 in
theorem fu10i (u : Nat) (hu64 : u < 18446744073709551616) (w : World) (hG : Glob w) :
    Calls Tryd.prog 40 #[.int .u64 u, .int .i64 10] w fun e w' => e = .returned (.string ⟨(Lib.decDigits u).toArray⟩) ∧ Below w.heap.size w w' := by
  by_cases hs : u < 100
  · have cS := Any.internal_strconv_small { Tryd.laysItoa with } u hs
    have hlt : decide ((u : Int) < 100) = true := decide_eq_true (by omega)
    have hw : IntKind.i64.wrap (u : Int) = (u : Int) := by rw [IntKind.wrap_i64]; omega
    clear hG
    go_enter Tryd.func40, Tryd.ntmps40
    go_wp2_with (go_at_call 58; refine (cS _).mono ?_; rintro e w' ⟨rfl, rfl⟩)
    go_ret
    exact ⟨rfl, Below.refl _ _⟩
  · have hu1 : 1 ≤ u := by omega
    have hlt : decide ((u : Int) < 100) = false := decide_eq_false (by omega)
    have hnd20 : Lib.nDigits u ≤ 20 := by have := Lib.numDigits_eq u hu1 hu64; split at this <;> omega
    have hal : Tryd.prog.arrayLen 101 = 24 := by kernel_rfl
    have hsl1 : ∀ W, (Instr.sliceAt 101 (.pointer (some ⟨w.heap.size, 0, none⟩)) none (some (.int .i64 (Lib.nDigits u : Int))) none).run Tryd.prog W = .ok (.slice (some ⟨w.heap.size, 0, none⟩) (Lib.nDigits u) 24) W := fun W => by
      rw [run_sliceAt_array_h W 101 ⟨w.heap.size, 0, none⟩ (by kernel_rfl) .i64 (Lib.nDigits u : Int) (by omega) (by rw [hal]; omega)]
      go_simp
    have hH0 := Lib.holds_zero0 w 101 (Lib.nDigits u) (by omega)
    have hfmt := Any.internal_strconv_formatBase10 { Tryd.laysItoa with } w.heap.size 0 24 u (Array.replicate (Lib.nDigits u) 0) (w.alloc (.cells Lib.zeros24 101)) hH0 (by rw [Array.size_replicate]; exact Lib.lt_pow_nDigits u) hu64 (by rw [Array.size_replicate]; omega)
    rw [Array.size_replicate] at hfmt
    have HH0 := Lib.hid hH0
    have htab := hG.v6
    have cN := Any.internal_strconv_numDigits { Tryd.laysItoa with } u hu1 hu64 (w.alloc (.cells Lib.zeros24 101)) (Lib.tabIs_alloc htab _)
    clear hH0 hal hG htab
    go_enter Tryd.func40, Tryd.ntmps40
    go_wp2_with (first
      | (go_at_call 59; refine cN.mono ?_; rintro e w' ⟨rfl, rfl⟩))
    go_at_call 60
    refine hfmt.mono ?_
    rintro e w' ⟨rfl, k, v', dk, rfl, hF⟩
    have hcv : (convert 44 9 (.slice (some ⟨w.heap.size, 0, none⟩) (Lib.nDigits u) 24)).run Tryd.prog ((Sort.putRow (fun (b : UInt8) => Value.int .u8 (b.toNat : Int)) (w.alloc (.cells Lib.zeros24 101)) w.heap.size 0 dk).drewN k) = .ok (.string ⟨(Lib.decDigits u).toArray⟩) ((Sort.putRow (fun (b : UInt8) => Value.int .u8 (b.toNat : Int)) (w.alloc (.cells Lib.zeros24 101)) w.heap.size 0 dk).drewN k) := by
      have h := run_convert_bytes_back (P := Tryd.prog) ((Sort.putRow (fun (b : UInt8) => Value.int .u8 (b.toNat : Int)) (w.alloc (.cells Lib.zeros24 101)) w.heap.size 0 dk).drewN k) 44 9 5 ⟨w.heap.size, 0, none⟩ 24 (Lib.decDigits u) Tryd.underlying44 Tryd.underlying5 Tryd.underlying9 (fun j hj => by
        rw [Lib.row_is_numeral hF j hj, Lib.add_plain, World.cell?_drewN]
        exact Sort.cell?_putRow (fun (b : UInt8) => Value.int .u8 (b.toNat : Int)) _ w.heap.size 0 _ dk HH0.out (by rw [hF.size, Array.size_replicate]) j (by rw [hF.size]; rw [Lib.decDigits_length] at hj; exact hj))
      rw [Lib.decDigits_length] at h
      exact h
    go_wp2
    go_ret
    obtain ⟨os, eo⟩ := Lib.fin_at w (.cells Lib.zeros24 101) dk k 0
    refine ⟨rfl, ?_⟩
    rw [eo]
    exact below_grow w k os
set_option maxHeartbeats 8000000 in
set_option maxRecDepth 1000000 in
/-- strconv.FormatUint(v, 10). -/
theorem fu10 (v : Nat) (hv : v < 18446744073709551616) (w : World) (hG : Glob w) :
    Calls Tryd.prog 14 #[.int .u64 v, .int .i64 10] w fun e w' => e = .returned (.string ⟨(Lib.decDigits v).toArray⟩) ∧ Below w.heap.size w w' := by
  have cB := fu10i v hv w hG
  clear hG
  go_enter Tryd.func14, Tryd.ntmps14
  go_wp2_with (go_at_call 40; refine cB.mono ?_; rintro e w' ⟨rfl, hb⟩)
  go_ret
  exact ⟨rfl, hb⟩
end Go.Proofs.YtbmnifnahbehbaaDoor

/- An append of a string's bytes to a row of the call's own, with the place where the new row lies: so that rows beside it stay apart (the print's law for it tells no place). -/
set_option linter.unusedVariables false
set_option linter.unusedSimpArgs false
namespace Go.Proofs.YtbmnifnahbehbaaDoor
open Go.RowKit Go.Lib Go.Proofs.YtbmnifnahbehbaaDoorW.PrintWords

@[go_sem] theorem max_wrap_u64 (x : Int) : max (IntKind.u64.wrap x) 0 = IntKind.u64.wrap x := by
  have : 0 ≤ IntKind.u64.wrap x := wrap_u64_nonneg x
  omega
section
variable {P : Program}
theorem ownsRow_base {w : World} {b b' : Nat} {e : TypeId} {size n : Nat} {v : Value} {xs : List Value} (h : w.ownsRow b e size v n xs) (hb : b' ≤ b) : w.ownsRow b' e size v n xs := by
  refine ⟨h.1, ?_⟩
  rcases h.2 with hn | ⟨g, cap, cur, hv, hg, rest⟩
  · exact .inl hn
  · exact .inr ⟨g, cap, cur, hv, Nat.le_trans hb hg, rest⟩
theorem run_append_str_at (w : World) (base : Nat) (t u ty e : TypeId) (i : TypeInfo) (ht : P.underlying t = some (.slice e)) (hu : P.underlying u = some .string) (hi : P.info? e = some i) (hz : i.zero = some (.int .u8 0))
    (hsize : i.size = 1) (hby : i.bytes = 1) (v : Value) (n : Nat) (xs : List Value) (hown : w.ownsRow base e 1 v n xs) (s : ByteArray)
    (h63 : n + s.size ≤ maxLen) (hbytes : n + s.size ≤ 140737488355328) (hbase : base ≤ w.heap.size) :
    ∃ v' w', (Builtin.append_ #[t, u] ty #[v, .string s]).run P w = .ok v' w' ∧ w'.ownsRow base e 1 v' (n + s.size) (xs ++ strCells s) ∧ w.grownBy w' v.ownBlock ∧
      (v'.ownBlock = v.ownBlock ∨ ∃ b, v'.ownBlock = some b ∧ w.heap.size ≤ b) := by
  rcases hown.2 with ⟨rfl, rfl⟩ | ⟨g, cap, cur, rfl, hbg, hg, hnc, hcm, hcs, htake⟩
  · have hx : xs = [] := List.eq_nil_of_length_eq_zero (by simpa using hown.1)
    subst hx
    obtain ⟨v', w', hr, ho, hgr, _⟩ := run_append_own_string (P := P) w w.heap.size t u ty e i ht hu hi hz hsize hby (.slice none 0 0) 0 [] (World.ownsRow_nil w _ e 1) s h63 hbytes (Nat.le_refl _)
    refine ⟨v', w', hr, ownsRow_base ho hbase, hgr, ?_⟩
    rcases ho.2 with ⟨rfl, _⟩ | ⟨g, cap, cur, rfl, hbg, _⟩
    · exact .inl rfl
    · exact .inr ⟨g, rfl, hbg⟩
  · obtain ⟨v', w', hr, ho, hgr, _⟩ := run_append_own_string (P := P) w base t u ty e i ht hu hi hz hsize hby _ n xs hown s h63 hbytes hbase
    refine ⟨v', w', hr, ho, hgr, ?_⟩
    by_cases hroom : n + s.size ≤ cap
    · have h1 := run_append_room_string (P := P) w t u ty e i ht hu hi hsize g n cap cur hg s hroom (by omega)
      rw [h1] at hr
      cases hr
      exact .inl rfl
    · have hxl : xs.length = n := by simpa using hown.1
      simp only [maxLen] at h63
      have hcap : cap < n + s.size := by omega
      have h1 := run_append_grow_string (P := P) w t u ty e i (.int .u8 0) ht hu hi hz ⟨g, 0, none⟩ n cap xs (by rw [hsize, hxl, Nat.mul_one])
        (fun j v hv => by
          have := hown.cells (g := g) rfl j v hv
          exact this) s hcap (by omega) (by
            rw [hby, Nat.mul_one]
            have := nextslicecap_le hcap
            omega)
      rw [h1] at hr
      cases hr
      exact .inr ⟨_, rfl, Nat.le_refl _⟩
end
section
variable {P : Program} {ops : Array Oper} {rest : List Oper} {o : Oper} {a : Act} {Q : Exit → Act → World → Prop}
theorem R_append_str {w0 W : World} (base : Nat) (hgd : o.guard = none) (s x : Operand) (t u e : TypeId)
    (ho : o.op = .call { callee := .builtin .append, args := #[s, x], argTypes := #[t, u] })
    (ht : P.underlying t = some (.slice e)) (hu : P.underlying u = some .string) (hinfo : (P.info? e).map (fun i => (i.zero, i.size, i.bytes)) = some (some (.int .u8 0), 1, 1))
    (v : Value) (xs : List Int) (y : ByteArray) (ok : Nat → Prop) (hs : a.eval s = v) (hx : a.eval x = .string y)
    (HO : (Kd.int .u8).R e W base ok v xs) (hfresh : ∀ k, W.heap.size ≤ k → ok k) (HB : Below base w0 W) (hbase : base ≤ W.heap.size) (hl : xs.length + y.size ≤ 140737488355328)
    (h : ∀ v1 w1, (Kd.int .u8).R e w1 base ok v1 (xs ++ bytesOf y) → Below base w0 w1 → W.grownBy w1 v.ownBlock → (v1.ownBlock = v.ownBlock ∨ ∃ b, v1.ownBlock = some b ∧ W.heap.size ≤ b) → wpList P ops Q rest (a.put o.dst v1) w1) :
    wpList P ops Q (o :: rest) a W := by
  obtain ⟨i0, hi, hzz⟩ := Option.map_eq_some_iff.1 hinfo
  simp only [Prod.mk.injEq] at hzz
  obtain ⟨hz0, hz1, hz2⟩ := hzz
  have HW : W.ownsRow base e 1 v xs.length (nums .u8 xs) := Kd.own_of_R HO
  obtain ⟨v1, w1, hr, hown, hg, hat⟩ := run_append_str_at (P := P) W base t u o.type e i0 ht hu hi hz0 hz1 hz2 v xs.length (nums .u8 xs) HW y (by simp only [maxLen]; omega) hl hbase
  have hl2 : (xs ++ bytesOf y).length = xs.length + y.size := by rw [List.length_append, bytesOf_length]
  have hc : nums .u8 (xs ++ bytesOf y) = nums .u8 xs ++ Lib.strCells y := by
    rw [nums_append]
    congr 1
    simp [nums, bytesOf, Lib.strCells]
  rw [← hl2, ← hc] at hown
  refine wpList_plain hgd fun K hK => ?_
  unfold Oper.wp execOp
  simp only [ho, resolve, invoke, builtin, Sem.run_bind, Sem.run_pure, Result.andThen_ok, List.map_toArray, List.map_cons, List.map_nil, hs, hx, hr]
  refine hK _ _ (h v1 w1 (Kd.R_of_own (h1 := fun _ => rfl) hown (fun k hk => ?_)) (HB.grown hg hbase (own_base HW)) hg hat)
  rcases hat with hat | ⟨b, hb, hle⟩
  · exact HO.1 k (hat ▸ hk)
  · rw [hb] at hk
    cases hk
    exact hfresh _ hle
end
end Go.Proofs.YtbmnifnahbehbaaDoor

-- BY PROGRAM of this session (the kit's printer, turned by wip/tools/patch_print.py). Lean checks it.
namespace Go.Proofs.YtbmnifnahbehbaaDoor.PPr
open Go.RowKit Go.Proofs.YtbmnifnahbehbaaDoorW.PrintWords Go.Proofs.YtbmnifnahbehbaaDoorW.PrintLast Go.Proofs.YtbmnifnahbehbaaDoorW.PrintMore
attribute [local go_sem] max2_int min2_int max_two min_two max_three min_three max_four min_four   -- for this text's walks alone
set_option linter.unusedVariables false
set_option linter.unusedSimpArgs false



def errW : Option Int → Value
  | none => .nilIface
  | some c => .iface 0 (.int .i64 c)
theorem errW_none : errW none = .nilIface := rfl
theorem errW_some (c : Int) : errW (some c) = .iface 0 (.int .i64 c) := rfl

theorem info3 : (Tryd.prog.info? 3).map (fun i => (i.zero, i.size, i.bytes)) = some (some (.int .i64 0), 1, 8) := by kernel_rfl
theorem info5 : (Tryd.prog.info? 5).map (fun i => (i.zero, i.size, i.bytes)) = some (some (.int .u8 0), 1, 1) := by kernel_rfl
theorem info85 : (Tryd.prog.info? 85).map (fun i => (i.zero, i.size, i.bytes)) = some (some (.agg #[(.bool false), (.string ⟨#[]⟩)]), 2, 24) := by kernel_rfl
theorem info117 : (Tryd.prog.info? 117).map (fun i => (i.zero, i.size, i.bytes)) = some (some (.agg #[(.string ⟨#[]⟩), (.int .i64 0), (.int .i64 0), (.int .i64 0)]), 4, 40) := by kernel_rfl
-- the values' own types
def rd_L3 (xs : List (List ByteArray)) (i : Int) : (List ByteArray) := xs.getD i.toNat ([] : List ByteArray)
theorem at_L3 {w : World} {A : Option Addr} {n : Nat} {xs : List (List ByteArray)} (h : Kd.C (Kd.slice 9 Kd.string) w A n xs) (i : Int) (h0 : 0 ≤ i) (h1 : i < n) : ∃ ad A0 c0, A = some ad ∧ w.cell? (ad.add i.toNat) = some (.slice A0 (rd_L3 xs i).length c0) ∧ (rd_L3 xs i).length ≤ c0 ∧ Kd.string.C w A0 (rd_L3 xs i).length (rd_L3 xs i) := by
  obtain ⟨ad, c, e, _, hK, hc0⟩ := Kd.C_get h ([] : List ByteArray) i h0 h1
  have hc : ∀ j u, c[j]? = some u → w.cell? (ad.add (i.toNat * 1 + j)) = some u := hc0
  obtain ⟨A0, c0, rfl, l0, g0⟩ := hK
  exact ⟨ad, A0, c0, e, by have hq := hc 0 _ rfl; rwa [Nat.mul_one, Nat.add_zero] at hq, l0, g0⟩

/-! #### struct type 117 -/
structure S117 where
  f0 : ByteArray
  f1 : Int
  f2 : Int
  f3 : Int
def z117 : S117 := ⟨(⟨#[]⟩ : ByteArray), (0 : Int), (0 : Int), (0 : Int)⟩
def k117 : Kd S117 := Kd.iso (Kd.pair Kd.string (Kd.pair (Kd.int .i64) (Kd.pair (Kd.int .i64) (Kd.int .i64)))) (fun x : S117 => (x.f0, x.f1, x.f2, x.f3))
theorem k117_open {w : World} {x : S117} {cs : List Value} (h : k117.K w x cs) : cs = [.string x.f0, .int .i64 x.f1, .int .i64 x.f2, .int .i64 x.f3] := by
  obtain ⟨_, _, rfl, rfl, ⟨_, _, rfl, rfl, ⟨_, _, rfl, rfl, rfl⟩⟩⟩ := h
  exact rfl
theorem k117_openM {w : World} {base : Nat} {ok : Nat → Prop} {x : S117} {cs : List Value} (h : k117.M w base ok x cs) : cs = [.string x.f0, .int .i64 x.f1, .int .i64 x.f2, .int .i64 x.f3] := by
  obtain ⟨_, _, rfl, rfl, ⟨_, _, rfl, rfl, ⟨_, _, rfl, rfl, rfl⟩⟩⟩ := h
  exact rfl
theorem k117_mk (w : World) (x : S117)  : k117.K w x [.string x.f0, .int .i64 x.f1, .int .i64 x.f2, .int .i64 x.f3] := ⟨[.string x.f0], [.int .i64 x.f1, .int .i64 x.f2, .int .i64 x.f3], rfl, rfl, ⟨[.int .i64 x.f1], [.int .i64 x.f2, .int .i64 x.f3], rfl, rfl, ⟨[.int .i64 x.f2], [.int .i64 x.f3], rfl, rfl, rfl⟩⟩⟩
theorem k117_mkM (w : World) (base : Nat) (ok : Nat → Prop) (x : S117)  : k117.M w base ok x [.string x.f0, .int .i64 x.f1, .int .i64 x.f2, .int .i64 x.f3] := ⟨[.string x.f0], [.int .i64 x.f1, .int .i64 x.f2, .int .i64 x.f3], rfl, rfl, ⟨[.int .i64 x.f1], [.int .i64 x.f2, .int .i64 x.f3], rfl, rfl, ⟨[.int .i64 x.f2], [.int .i64 x.f3], rfl, rfl, rfl⟩⟩⟩
def rd_T117 (xs : List S117) (i : Int) : S117 := xs.getD i.toNat z117
theorem at_T117 {w : World} {A : Option Addr} {n : Nat} {xs : List S117} (h : Kd.C k117 w A n xs) (i : Int) (h0 : 0 ≤ i) (h1 : i < n) : ∃ ad , A = some ad ∧ w.cell? (ad.add (i.toNat * 4)) = some (.string (rd_T117 xs i).f0) ∧ w.cell? ⟨(ad.add (i.toNat * 4)).block, (ad.add (i.toNat * 4)).off + 1, none⟩ = some (.int .i64 (rd_T117 xs i).f1) ∧ w.cell? ⟨(ad.add (i.toNat * 4)).block, (ad.add (i.toNat * 4)).off + 2, none⟩ = some (.int .i64 (rd_T117 xs i).f2) ∧ w.cell? ⟨(ad.add (i.toNat * 4)).block, (ad.add (i.toNat * 4)).off + 3, none⟩ = some (.int .i64 (rd_T117 xs i).f3) := by
  obtain ⟨ad, c, e, _, hK, hc0⟩ := Kd.C_get h z117 i h0 h1
  have hc : ∀ j u, c[j]? = some u → w.cell? (ad.add (i.toNat * 4 + j)) = some u := hc0
  obtain rfl := k117_open hK
  exact ⟨ad, e, hc 0 _ rfl, by rw [← add_field _ _ 1 (by omega)]; exact hc 1 _ rfl, by rw [← add_field _ _ 2 (by omega)]; exact hc 2 _ rfl, by rw [← add_field _ _ 3 (by omega)]; exact hc 3 _ rfl⟩

/-! #### struct type 85 -/
structure S85 where
  f0 : Bool
  f1 : ByteArray
def z85 : S85 := ⟨false, (⟨#[]⟩ : ByteArray)⟩
def k85 : Kd S85 := Kd.iso (Kd.pair Kd.bool Kd.string) (fun x : S85 => (x.f0, x.f1))
theorem k85_open {w : World} {x : S85} {cs : List Value} (h : k85.K w x cs) : cs = [.bool x.f0, .string x.f1] := by
  obtain ⟨_, _, rfl, rfl, rfl⟩ := h
  exact rfl
theorem k85_openM {w : World} {base : Nat} {ok : Nat → Prop} {x : S85} {cs : List Value} (h : k85.M w base ok x cs) : cs = [.bool x.f0, .string x.f1] := by
  obtain ⟨_, _, rfl, rfl, rfl⟩ := h
  exact rfl
theorem k85_mk (w : World) (x : S85)  : k85.K w x [.bool x.f0, .string x.f1] := ⟨[.bool x.f0], [.string x.f1], rfl, rfl, rfl⟩
theorem k85_mkM (w : World) (base : Nat) (ok : Nat → Prop) (x : S85)  : k85.M w base ok x [.bool x.f0, .string x.f1] := ⟨[.bool x.f0], [.string x.f1], rfl, rfl, rfl⟩
def rd_T85 (xs : List S85) (i : Int) : S85 := xs.getD i.toNat z85
theorem at_T85 {w : World} {A : Option Addr} {n : Nat} {xs : List S85} (h : Kd.C k85 w A n xs) (i : Int) (h0 : 0 ≤ i) (h1 : i < n) : ∃ ad , A = some ad ∧ w.cell? (ad.add (i.toNat * 2)) = some (.bool (rd_T85 xs i).f0) ∧ w.cell? ⟨(ad.add (i.toNat * 2)).block, (ad.add (i.toNat * 2)).off + 1, none⟩ = some (.string (rd_T85 xs i).f1) := by
  obtain ⟨ad, c, e, _, hK, hc0⟩ := Kd.C_get h z85 i h0 h1
  have hc : ∀ j u, c[j]? = some u → w.cell? (ad.add (i.toNat * 2 + j)) = some u := hc0
  obtain rfl := k85_open hK
  exact ⟨ad, e, hc 0 _ rfl, by rw [← add_field _ _ 1 (by omega)]; exact hc 1 _ rfl⟩

end Go.Proofs.YtbmnifnahbehbaaDoor.PPr

/- A deck's data: parts, worlds; the block of a deck. -/
set_option linter.unusedVariables false
namespace Go.Proofs.YtbmnifnahbehbaaDoor
open Go.RowKit Go.Lib Go.Proofs.YtbmnifnahbehbaaDoorW.PrintWords Go.Proofs.YtbmnifnahbehbaaDoorW.PrintMore Go.Proofs.YtbmnifnahbehbaaDoorW.PrintLast
open PPr
structure S46 where
  f0 : Int
  f1 : Int
  f2 : Int
  f3 : (List Int)
def z46 : S46 := ⟨(0 : Int), (0 : Int), (0 : Int), ([] : List Int)⟩
def k46 : Kd S46 := Kd.iso (Kd.pair (Kd.int .u64) (Kd.pair (Kd.int .u64) (Kd.pair (Kd.int .i64) (Kd.slice 5 (Kd.int .u8))))) (fun x : S46 => (x.f0, x.f1, x.f2, x.f3))
theorem k46_open {w : World} {x : S46} {cs : List Value} (h : k46.K w x cs) : ∃ A3 c3, cs = [.int .u64 x.f0, .int .u64 x.f1, .int .i64 x.f2, .slice A3 x.f3.length c3] ∧ x.f3.length ≤ c3 ∧ (Kd.int .u8).C w A3 x.f3.length x.f3 := by
  obtain ⟨_, _, rfl, rfl, ⟨_, _, rfl, rfl, ⟨_, _, rfl, rfl, ⟨A3, c3, rfl, l3, g3⟩⟩⟩⟩ := h
  exact ⟨A3, c3, rfl, l3, g3⟩
theorem k46_openM {w : World} {base : Nat} {ok : Nat → Prop} {x : S46} {cs : List Value} (h : k46.M w base ok x cs) : ∃ v3, cs = [.int .u64 x.f0, .int .u64 x.f1, .int .i64 x.f2, v3] ∧ (Kd.int .u8).R 5 w base ok v3 x.f3 := by
  obtain ⟨_, _, rfl, rfl, ⟨_, _, rfl, rfl, ⟨_, _, rfl, rfl, ⟨v3, rfl, g3⟩⟩⟩⟩ := h
  exact ⟨v3, rfl, g3⟩
theorem k46_mk (w : World) (x : S46) {A3 : Option Addr} {c3 : Nat} (l3 : x.f3.length ≤ c3) (g3 : (Kd.int .u8).C w A3 x.f3.length x.f3) : k46.K w x [.int .u64 x.f0, .int .u64 x.f1, .int .i64 x.f2, .slice A3 x.f3.length c3] := ⟨[.int .u64 x.f0], [.int .u64 x.f1, .int .i64 x.f2, .slice A3 x.f3.length c3], rfl, rfl, ⟨[.int .u64 x.f1], [.int .i64 x.f2, .slice A3 x.f3.length c3], rfl, rfl, ⟨[.int .i64 x.f2], [.slice A3 x.f3.length c3], rfl, rfl, ⟨A3, c3, rfl, l3, g3⟩⟩⟩⟩
theorem k46_mkM (w : World) (base : Nat) (ok : Nat → Prop) (x : S46) {v3 : Value} (g3 : (Kd.int .u8).R 5 w base ok v3 x.f3) : k46.M w base ok x [.int .u64 x.f0, .int .u64 x.f1, .int .i64 x.f2, v3] := ⟨[.int .u64 x.f0], [.int .u64 x.f1, .int .i64 x.f2, v3], rfl, rfl, ⟨[.int .u64 x.f1], [.int .i64 x.f2, v3], rfl, rfl, ⟨[.int .i64 x.f2], [v3], rfl, rfl, ⟨v3, rfl, g3⟩⟩⟩⟩
def rd_T46 (xs : List S46) (i : Int) : S46 := xs.getD i.toNat z46
theorem at_T46 {w : World} {A : Option Addr} {n : Nat} {xs : List S46} (h : Kd.C k46 w A n xs) (i : Int) (h0 : 0 ≤ i) (h1 : i < n) : ∃ ad A3 c3, A = some ad ∧ w.cell? (ad.add (i.toNat * 4)) = some (.int .u64 (rd_T46 xs i).f0) ∧ w.cell? ⟨(ad.add (i.toNat * 4)).block, (ad.add (i.toNat * 4)).off + 1, none⟩ = some (.int .u64 (rd_T46 xs i).f1) ∧ w.cell? ⟨(ad.add (i.toNat * 4)).block, (ad.add (i.toNat * 4)).off + 2, none⟩ = some (.int .i64 (rd_T46 xs i).f2) ∧ w.cell? ⟨(ad.add (i.toNat * 4)).block, (ad.add (i.toNat * 4)).off + 3, none⟩ = some (.slice A3 (rd_T46 xs i).f3.length c3) ∧ (rd_T46 xs i).f3.length ≤ c3 ∧ (Kd.int .u8).C w A3 (rd_T46 xs i).f3.length (rd_T46 xs i).f3 := by
  obtain ⟨ad, c, e, _, hK, hc0⟩ := Kd.C_get h z46 i h0 h1
  have hc : ∀ j u, c[j]? = some u → w.cell? (ad.add (i.toNat * 4 + j)) = some u := hc0
  obtain ⟨A3, c3, rfl, l3, g3⟩ := k46_open hK
  exact ⟨ad, A3, c3, e, hc 0 _ rfl, by rw [← add_field _ _ 1 (by omega)]; exact hc 1 _ rfl, by rw [← add_field _ _ 2 (by omega)]; exact hc 2 _ rfl, by rw [← add_field _ _ 3 (by omega)]; exact hc 3 _ rfl, l3, g3⟩
structure S48 where
  f0 : Bool
  f1 : Bool
  f2 : Bool
  f3 : (List Int)
def z48 : S48 := ⟨false, false, false, ([] : List Int)⟩
def k48 : Kd S48 := Kd.iso (Kd.pair (Kd.bool) (Kd.pair (Kd.bool) (Kd.pair (Kd.bool) (Kd.slice 5 (Kd.int .u8))))) (fun x : S48 => (x.f0, x.f1, x.f2, x.f3))
theorem k48_open {w : World} {x : S48} {cs : List Value} (h : k48.K w x cs) : ∃ A3 c3, cs = [.bool x.f0, .bool x.f1, .bool x.f2, .slice A3 x.f3.length c3] ∧ x.f3.length ≤ c3 ∧ (Kd.int .u8).C w A3 x.f3.length x.f3 := by
  obtain ⟨_, _, rfl, rfl, ⟨_, _, rfl, rfl, ⟨_, _, rfl, rfl, ⟨A3, c3, rfl, l3, g3⟩⟩⟩⟩ := h
  exact ⟨A3, c3, rfl, l3, g3⟩
theorem k48_openM {w : World} {base : Nat} {ok : Nat → Prop} {x : S48} {cs : List Value} (h : k48.M w base ok x cs) : ∃ v3, cs = [.bool x.f0, .bool x.f1, .bool x.f2, v3] ∧ (Kd.int .u8).R 5 w base ok v3 x.f3 := by
  obtain ⟨_, _, rfl, rfl, ⟨_, _, rfl, rfl, ⟨_, _, rfl, rfl, ⟨v3, rfl, g3⟩⟩⟩⟩ := h
  exact ⟨v3, rfl, g3⟩
theorem k48_mk (w : World) (x : S48) {A3 : Option Addr} {c3 : Nat} (l3 : x.f3.length ≤ c3) (g3 : (Kd.int .u8).C w A3 x.f3.length x.f3) : k48.K w x [.bool x.f0, .bool x.f1, .bool x.f2, .slice A3 x.f3.length c3] := ⟨[.bool x.f0], [.bool x.f1, .bool x.f2, .slice A3 x.f3.length c3], rfl, rfl, ⟨[.bool x.f1], [.bool x.f2, .slice A3 x.f3.length c3], rfl, rfl, ⟨[.bool x.f2], [.slice A3 x.f3.length c3], rfl, rfl, ⟨A3, c3, rfl, l3, g3⟩⟩⟩⟩
theorem k48_mkM (w : World) (base : Nat) (ok : Nat → Prop) (x : S48) {v3 : Value} (g3 : (Kd.int .u8).R 5 w base ok v3 x.f3) : k48.M w base ok x [.bool x.f0, .bool x.f1, .bool x.f2, v3] := ⟨[.bool x.f0], [.bool x.f1, .bool x.f2, v3], rfl, rfl, ⟨[.bool x.f1], [.bool x.f2, v3], rfl, rfl, ⟨[.bool x.f2], [v3], rfl, rfl, ⟨v3, rfl, g3⟩⟩⟩⟩
def rd_T48 (xs : List S48) (i : Int) : S48 := xs.getD i.toNat z48
theorem at_T48 {w : World} {A : Option Addr} {n : Nat} {xs : List S48} (h : Kd.C k48 w A n xs) (i : Int) (h0 : 0 ≤ i) (h1 : i < n) : ∃ ad A3 c3, A = some ad ∧ w.cell? (ad.add (i.toNat * 4)) = some (.bool (rd_T48 xs i).f0) ∧ w.cell? ⟨(ad.add (i.toNat * 4)).block, (ad.add (i.toNat * 4)).off + 1, none⟩ = some (.bool (rd_T48 xs i).f1) ∧ w.cell? ⟨(ad.add (i.toNat * 4)).block, (ad.add (i.toNat * 4)).off + 2, none⟩ = some (.bool (rd_T48 xs i).f2) ∧ w.cell? ⟨(ad.add (i.toNat * 4)).block, (ad.add (i.toNat * 4)).off + 3, none⟩ = some (.slice A3 (rd_T48 xs i).f3.length c3) ∧ (rd_T48 xs i).f3.length ≤ c3 ∧ (Kd.int .u8).C w A3 (rd_T48 xs i).f3.length (rd_T48 xs i).f3 := by
  obtain ⟨ad, c, e, _, hK, hc0⟩ := Kd.C_get h z48 i h0 h1
  have hc : ∀ j u, c[j]? = some u → w.cell? (ad.add (i.toNat * 4 + j)) = some u := hc0
  obtain ⟨A3, c3, rfl, l3, g3⟩ := k48_open hK
  exact ⟨ad, A3, c3, e, hc 0 _ rfl, by rw [← add_field _ _ 1 (by omega)]; exact hc 1 _ rfl, by rw [← add_field _ _ 2 (by omega)]; exact hc 2 _ rfl, by rw [← add_field _ _ 3 (by omega)]; exact hc 3 _ rfl, l3, g3⟩
/-- A deck, but for its slices' places. -/
structure Dk where
  ram : Int
  c : Cp
  mt : Int
  ps : List S46
  ws : List S48
/-- The cells of a deck's variable. -/
def dkA (ram : Int) (c : Cp) (mt : Int) (p w : Value) : Array Value := (.int .i64 ram :: (cpuL c ++ [.int .u64 mt, p, w])).toArray
def DBox (W : World) (g : Nat) (ram : Int) (c : Cp) (mt : Int) (p w : Value) : Prop := W.heap[g]? = some (.cells (dkA ram c mt p w) 35 (0, 0))
theorem dkA_size (ram : Int) (c : Cp) (mt : Int) (p w : Value) : (dkA ram c mt p w).size = 86 := by simp [dkA, cpuL_len]
section
variable {W : World} {g : Nat} {ram : Int} {c : Cp} {mt : Int} {p w : Value}
theorem DBox.c0 (h : DBox W g ram c mt p w) : W.cell? ⟨g, 0, none⟩ = some (.int .i64 ram) := blk_cell h 0
theorem DBox.at_ (h : DBox W g ram c mt p w) (k : Nat) : W.cell? ⟨g, 83 + k, none⟩ = [Value.int .u64 mt, p, w][k]? := by
  rw [blk_cell h (83 + k)]
  unfold dkA
  rw [List.getElem?_toArray, show 83 + k = (82 + k) + 1 by omega, List.getElem?_cons_succ, List.getElem?_append_right (by rw [cpuL_len]; omega), cpuL_len, Nat.add_sub_cancel_left]
theorem DBox.c83 (h : DBox W g ram c mt p w) : W.cell? ⟨g, 83, none⟩ = some (.int .u64 mt) := h.at_ 0
theorem DBox.c84 (h : DBox W g ram c mt p w) : W.cell? ⟨g, 84, none⟩ = some p := h.at_ 1
theorem DBox.c85 (h : DBox W g ram c mt p w) : W.cell? ⟨g, 85, none⟩ = some w := h.at_ 2
theorem DBox.cpu (h : DBox W g ram c mt p w) : W.rangeAt g 1 (cpuL c) := by
  intro j v hj
  rw [blk_cell h (1 + j)]
  unfold dkA
  have hl : j < (cpuL c).length := (List.getElem?_eq_some_iff.1 hj).1
  rw [List.getElem?_toArray, Nat.add_comm, List.getElem?_cons_succ, List.getElem?_append_left hl]
  exact hj
end
end Go.Proofs.YtbmnifnahbehbaaDoor

/- deck.valid, the document's Valid: which decks can be. -/
set_option linter.unusedVariables false
namespace Go.Proofs.YtbmnifnahbehbaaDoor
open Go.RowKit Go.Lib Go.Proofs.YtbmnifnahbehbaaDoorW.PrintWords Go.Proofs.YtbmnifnahbehbaaDoorW.PrintMore Go.Proofs.YtbmnifnahbehbaaDoorW.PrintLast
open PPr
/-- Does a part of that size lie in RAM? -/
def fitsB (ram addr size : Int) : Bool := decide (size ≤ IntKind.u64.wrap ram) && (decide (2147483648 ≤ addr) && decide (IntKind.u64.wrap (addr - 2147483648) ≤ IntKind.u64.wrap (IntKind.u64.wrap ram - size)))
set_option maxHeartbeats 1600000 in
set_option maxRecDepth 100000 in
theorem fits_c (g : Nat) (ram a s : Int) (w : World) (h : w.cell? ⟨g, 0, none⟩ = some (.int .i64 ram)) :
    Calls Tryd.prog 28 #[.pointer (some ⟨g, 0, none⟩), .int .u64 a, .int .u64 s] w fun e w' => e = .returned (.bool (fitsB ram a s)) ∧ w' = w := by
  go_enter Tryd.func28, Tryd.ntmps28
  cases h1 : decide (s ≤ IntKind.u64.wrap ram) <;> cases h2 : decide (2147483648 ≤ a) <;> cases h3 : decide (IntKind.u64.wrap (a - 2147483648) ≤ IntKind.u64.wrap (IntKind.u64.wrap ram - s))
  all_goals
    go_wp2
    go_ret
    exact ⟨by unfold fitsB; rw [h1, h2, h3]; rfl, rfl⟩
theorem inside_c (g : Nat) (ram a s : Int) (w : World) (h : w.cell? ⟨g, 0, none⟩ = some (.int .i64 ram)) :
    Calls Tryd.prog 42 #[.pointer (some ⟨g, 0, none⟩), .int .u64 a, .int .u64 s] w fun e w' => e = .returned (.bool (fitsB ram a s)) ∧ w' = w := by
  go_enter Tryd.func42, Tryd.ntmps42
  cases h1 : decide (s ≤ IntKind.u64.wrap ram) <;> cases h2 : decide (2147483648 ≤ a) <;> cases h3 : decide (IntKind.u64.wrap (a - 2147483648) ≤ IntKind.u64.wrap (IntKind.u64.wrap ram - s))
  all_goals
    go_wp2
    go_ret
    exact ⟨by unfold fitsB; rw [h1, h2, h3]; rfl, rfl⟩
def headB (ram : Int) (np nw : Nat) : Bool := !(decide (ram < 8)) && (!(decide (65536 < ram)) && (!(Int.tmod ram 8 != 0) && (!(decide (16 < np)) && !(decide (4000 < nw)))))
def lenB (s : S46) : Bool := decide (s.f1 < (s.f3.length : Int))
def flagB (s : S46) : Bool := decide (0 ≤ s.f2 ∧ s.f2 ≤ 7)
def segB (ram : Int) (s : S46) : Bool := fitsB ram s.f0 s.f1 && !(lenB s)
def validB (ram : Int) (ps : List S46) (ws : List S48) : Bool := headB ram ps.length ws.length && (ps.all (segB ram) && ws.all (fun x => decide (x.f3.length ≤ 64)))
theorem head_cases (ram : Int) (np nw : Nat) :
    (headB ram np nw = false ∧ decide (ram < 8) = true) ∨
    (headB ram np nw = false ∧ decide (ram < 8) = false ∧ decide (65536 < ram) = true) ∨
    (headB ram np nw = false ∧ decide (ram < 8) = false ∧ decide (65536 < ram) = false ∧ (Int.tmod ram 8 != 0) = true) ∨
    (headB ram np nw = false ∧ decide (ram < 8) = false ∧ decide (65536 < ram) = false ∧ (Int.tmod ram 8 != 0) = false ∧ decide (16 < np) = true ∧ decide (16 < (np : Int)) = true) ∨
    (headB ram np nw = false ∧ decide (ram < 8) = false ∧ decide (65536 < ram) = false ∧ (Int.tmod ram 8 != 0) = false ∧ decide (16 < np) = false ∧ decide (16 < (np : Int)) = false ∧ decide (4000 < nw) = true ∧ decide (4000 < (nw : Int)) = true) ∨
    (headB ram np nw = true ∧ decide (ram < 8) = false ∧ decide (65536 < ram) = false ∧ (Int.tmod ram 8 != 0) = false ∧ decide (16 < np) = false ∧ decide (16 < (np : Int)) = false ∧ decide (4000 < nw) = false ∧ decide (4000 < (nw : Int)) = false) := by
  have e4 : decide (16 < (np : Int)) = decide (16 < np) := by congr 1; exact propext ⟨fun h => by omega, fun h => by omega⟩
  have e5 : decide (4000 < (nw : Int)) = decide (4000 < nw) := by congr 1; exact propext ⟨fun h => by omega, fun h => by omega⟩
  rw [e4, e5]
  unfold headB
  cases decide (ram < 8) <;> cases decide (65536 < ram) <;> cases (Int.tmod ram 8 != 0) <;> cases decide (16 < np) <;> cases decide (4000 < nw) <;> simp
theorem read0 (ram : Int) : (Array.foldl (fun cs (x : Value × Nat) => cs.setIfInBounds x.snd x.fst) Tryd.zeroCells74 (Tryd.zeroCells35.setIfInBounds 0 (Value.int IntKind.i64 ram)).zipIdx 0 86)[0]? = some (.int .i64 ram) := by kernel_rfl
/-- The world of the walk of valid. -/
structure VS (w : World) (g gr : Nat) (ram : Int) (Ap : Option Addr) (np cp : Nat) (Aw : Option Addr) (nw cw : Nat) (ps : List S46) (ws : List S48) (W : World) : Prop where
  b : Below w.heap.size w W
  r : W.cell? ⟨gr, 0, none⟩ = some (.int .i64 ram)
  c84 : W.cell? ⟨g, 84, none⟩ = some (.slice Ap np cp)
  c85 : W.cell? ⟨g, 85, none⟩ = some (.slice Aw nw cw)
  p : Kd.C k46 W Ap np ps
  w' : Kd.C k48 W Aw nw ws
theorem VS.below {w : World} {g gr : Nat} {ram : Int} {Ap Aw : Option Addr} {np cp nw cw : Nat} {ps : List S46} {ws : List S48} {W W' : World} (h : VS w g gr ram Ap np cp Aw nw cw ps ws W) (hb : Below W.heap.size W W') : VS w g gr ram Ap np cp Aw nw cw ps ws W' :=
  ⟨h.b.trans (hb.mono h.b.size), (hb.cell (World.block_lt_of_cell? W _ h.r)).trans h.r, (hb.cell (World.block_lt_of_cell? W _ h.c84)).trans h.c84, (hb.cell (World.block_lt_of_cell? W _ h.c85)).trans h.c85, Kd.C_below h.p hb, Kd.C_below h.w' hb⟩
theorem seg_cases (ram : Int) (s : S46) :
    ((segB ram s && flagB s) = false ∧ fitsB ram s.f0 s.f1 = false) ∨
    ((segB ram s && flagB s) = false ∧ fitsB ram s.f0 s.f1 = true ∧ decide (s.f1 < (s.f3.length : Int)) = true) ∨
    ((segB ram s && flagB s) = false ∧ fitsB ram s.f0 s.f1 = true ∧ decide (s.f1 < (s.f3.length : Int)) = false ∧ decide (s.f2 < 0) = true) ∨
    ((segB ram s && flagB s) = false ∧ fitsB ram s.f0 s.f1 = true ∧ decide (s.f1 < (s.f3.length : Int)) = false ∧ decide (s.f2 < 0) = false ∧ decide (7 < s.f2) = true) ∨
    ((segB ram s && flagB s) = true ∧ fitsB ram s.f0 s.f1 = true ∧ decide (s.f1 < (s.f3.length : Int)) = false ∧ decide (s.f2 < 0) = false ∧ decide (7 < s.f2) = false) := by
  have e : flagB s = (!(decide (s.f2 < 0)) && !(decide (7 < s.f2))) := by
    unfold flagB
    by_cases h1 : s.f2 < 0 <;> by_cases h2 : 7 < s.f2 <;> simp [h1, h2] <;> omega
  rw [e]
  unfold segB lenB
  cases fitsB ram s.f0 s.f1 <;> cases decide (s.f1 < (s.f3.length : Int)) <;> cases decide (s.f2 < 0) <;> cases decide (7 < s.f2) <;> simp
theorem rd46 {ps : List S46} {i : Nat} (h : i < ps.length) : rd_T46 ps (i : Int) = ps[i] := by
  unfold rd_T46
  rw [Int.toNat_natCast, List.getD_eq_getElem?_getD, List.getElem?_eq_getElem h]
  rfl
theorem valid_seg {ram : Int} {ps : List S46} {ws : List S48} {np i : Nat} (h1 : ps.length = np) (hi : i < np) {s : S46} (hs : rd_T46 ps (i : Int) = s) (h : (segB ram s && flagB s) = false) : (validB ram ps ws && ps.all flagB) = false := by
  have hi' : i < ps.length := by omega
  rw [rd46 hi'] at hs
  have hm : s ∈ ps := hs ▸ List.getElem_mem hi'
  cases hx : (validB ram ps ws && ps.all flagB) with
  | false => rfl
  | true =>
    rw [Bool.and_eq_true] at hx
    unfold validB at hx
    rw [Bool.and_eq_true, Bool.and_eq_true] at hx
    have a := List.all_eq_true.1 hx.1.2.1 s hm
    have b := List.all_eq_true.1 hx.2 s hm
    rw [a, b] at h
    cases h
theorem rd48 {ws : List S48} {i : Nat} (h : i < ws.length) : rd_T48 ws (i : Int) = ws[i] := by
  unfold rd_T48
  rw [Int.toNat_natCast, List.getD_eq_getElem?_getD, List.getElem?_eq_getElem h]
  rfl
theorem valid_world {ram : Int} {ps : List S46} {ws : List S48} {nw i : Nat} (h1 : ws.length = nw) (hi : i < nw) {s : S48} (hs : rd_T48 ws (i : Int) = s) (h : ¬ s.f3.length ≤ 64) : (validB ram ps ws && ps.all flagB) = false := by
  have hi' : i < ws.length := by omega
  rw [rd48 hi'] at hs
  have hm : s ∈ ws := hs ▸ List.getElem_mem hi'
  cases hx : (validB ram ps ws && ps.all flagB) with
  | false => rfl
  | true =>
    rw [Bool.and_eq_true] at hx
    unfold validB at hx
    rw [Bool.and_eq_true, Bool.and_eq_true] at hx
    have a := of_decide_eq_true (List.all_eq_true.1 hx.1.2.2 s hm)
    exact absurd a h
theorem valid_yes {ram : Int} {ps : List S46} {ws : List S48} {np nw : Nat} (h1 : ps.length = np) (h2 : ws.length = nw) (h : headB ram np nw = true) (ha : ∀ j, j < np → (segB ram (rd_T46 ps (j : Int)) && flagB (rd_T46 ps (j : Int))) = true) (hb : ∀ j, j < nw → decide ((rd_T48 ws (j : Int)).f3.length ≤ 64) = true) : (validB ram ps ws && ps.all flagB) = true := by
  unfold validB
  rw [h1, h2, h, Bool.true_and]
  have e1 : ps.all (segB ram) = true := List.all_eq_true.2 (fun s hs => by
    obtain ⟨i, hi, rfl⟩ := List.getElem_of_mem hs
    have := ha i (by omega)
    rw [rd46 hi, Bool.and_eq_true] at this
    exact this.1)
  have e2 : ps.all flagB = true := List.all_eq_true.2 (fun s hs => by
    obtain ⟨i, hi, rfl⟩ := List.getElem_of_mem hs
    have := ha i (by omega)
    rw [rd46 hi, Bool.and_eq_true] at this
    exact this.2)
  have e3 : ws.all (fun x => decide (x.f3.length ≤ 64)) = true := List.all_eq_true.2 (fun s hs => by
    obtain ⟨i, hi, rfl⟩ := List.getElem_of_mem hs
    have := hb i (by omega)
    rw [rd48 hi] at this
    exact this)
  rw [e1, e2, e3]
  rfl
theorem valid_no {ram : Int} {ps : List S46} {ws : List S48} {np nw : Nat} (h1 : ps.length = np) (h2 : ws.length = nw) (h : headB ram np nw = false) : (validB ram ps ws && ps.all flagB) = false := by
  unfold validB
  rw [h1, h2, h]
  rfl
set_option maxHeartbeats 4000000 in
set_option maxRecDepth 100000 in
theorem valid_c (ram : Int) (c : Cp) (mt : Int) (ps : List S46) (ws : List S48) (Ap Aw : Option Addr) (cp cw : Nat) (w : World) (hps : Kd.C k46 w Ap ps.length ps) (hws : Kd.C k48 w Aw ws.length ws) :
    Calls Tryd.prog 8 #[.agg (dkA ram c mt (.slice Ap ps.length cp) (.slice Aw ws.length cw))] w fun e w' => e = .returned (.bool (validB ram ps ws && ps.all flagB)) ∧ Below w.heap.size w w' := by
  obtain ⟨DA, hDA⟩ : ∃ DA, dkA ram c mt (.slice Ap ps.length cp) (.slice Aw ws.length cw) = DA := ⟨_, rfl⟩
  rw [hDA]
  go_enter Tryd.func8, Tryd.ntmps8
  go_upto_region 1 with (first
    | ((with_reducible refine gate_dst (N := 1) rfl ?_); refine box_event ?hg (N := 1) ?hd (cs := DA) (t := 35) ?hr ?_; (case hd => rfl); (case hg => rfl); (case hr => rfl); intro g hg w1 hb1 hd1; have HG := Lib.hid hg; clear hg))
  rw [← hDA] at hb1
  have hD : DBox w1 g ram c mt (.slice Ap ps.length cp) (.slice Aw ws.length cw) := hb1
  clear hb1 hDA
  have q0 := hD.c0
  have q84 := hD.c84
  have q85 := hD.c85
  have hlp : ps.length ≤ 9223372036854775807 := hps.2.1
  have hlw : ws.length ≤ 9223372036854775807 := hws.2.1
  have HD1 := Lib.hid hd1
  have HP := Lib.hid (Kd.C_below hps hd1)
  have HW := Lib.hid (Kd.C_below hws hd1)
  clear hps hws hd1 hD
  obtain ⟨np, hnp⟩ : ∃ np, ps.length = np := ⟨_, rfl⟩
  obtain ⟨nw, hnw⟩ : ∃ nw, ws.length = nw := ⟨_, rfl⟩
  rw [hnp] at q84 hlp
  rw [hnw] at q85 hlw
  have HNP := Lib.hid hnp
  have HNW := Lib.hid hnw
  clear hnp hnw
  have HH := Lib.hid (head_cases ram np nw)
  rcases HH.out with ⟨hh, h1⟩ | ⟨hh, h1, h2⟩ | ⟨hh, h1, h2, h3⟩ | ⟨hh, h1, h2, h3, h4, h4b⟩ | ⟨hh, h1, h2, h3, h4, h4b, h5, h5b⟩ | ⟨hh, h1, h2, h3, h4, h4b, h5, h5b⟩
  all_goals
    have HHH := Lib.hid hh
    clear hh
    go_upto_region 3 with (fail)
  · go_ret
    exact ⟨congrArg (fun b => Ending.returned (Value.bool b)) (valid_no HNP.out HNW.out HHH.out).symm, HD1.out⟩
  · go_ret
    exact ⟨congrArg (fun b => Ending.returned (Value.bool b)) (valid_no HNP.out HNW.out HHH.out).symm, HD1.out⟩
  · go_ret
    exact ⟨congrArg (fun b => Ending.returned (Value.bool b)) (valid_no HNP.out HNW.out HHH.out).symm, HD1.out⟩
  · go_ret
    exact ⟨congrArg (fun b => Ending.returned (Value.bool b)) (valid_no HNP.out HNW.out HHH.out).symm, HD1.out⟩
  · go_ret
    exact ⟨congrArg (fun b => Ending.returned (Value.bool b)) (valid_no HNP.out HNW.out HHH.out).symm, HD1.out⟩
  · go_upto_region 4 with (fail)
    have hr := blk_new w1 (.cells (Array.foldl (fun cs x => cs.setIfInBounds x.snd x.fst) Tryd.zeroCells74 (Tryd.zeroCells35.setIfInBounds 0 (Value.int IntKind.i64 ram)).zipIdx 0 86) 74)
    have hr0 := (blk_cell hr 0).trans (read0 ram)
    have hb1 := (Below.refl _ w1).alloc (Nat.le_refl _) (.cells (Array.foldl (fun cs x => cs.setIfInBounds x.snd x.fst) Tryd.zeroCells74 (Tryd.zeroCells35.setIfInBounds 0 (Value.int IntKind.i64 ram)).zipIdx 0 86) 74)
    obtain ⟨w2, hw2⟩ : ∃ w2, w1.alloc (.cells (Array.foldl (fun cs x => cs.setIfInBounds x.snd x.fst) Tryd.zeroCells74 (Tryd.zeroCells35.setIfInBounds 0 (Value.int IntKind.i64 ram)).zipIdx 0 86) 74) = w2 := ⟨_, rfl⟩
    obtain ⟨gr, hgr⟩ : ∃ gr, w1.heap.size = gr := ⟨_, rfl⟩
    rw [hw2, hgr] at hr0
    rw [hw2] at hb1 ⊢
    rw [hgr]
    have k84 := (hb1.cell (World.block_lt_of_cell? w1 _ q84)).trans q84
    have k85 := (hb1.cell (World.block_lt_of_cell? w1 _ q85)).trans q85
    have HS : Hid (VS w g gr ram Ap np cp Aw nw cw ps ws w2) := Lib.hid ⟨HD1.out.trans (hb1.mono HD1.out.size), hr0, k84, k85, by rw [← HNP.out]; exact Kd.C_below HP.out hb1, by rw [← HNW.out]; exact Kd.C_below HW.out hb1⟩
    clear hr hr0 hb1 hw2 hgr q0 q84 q85 k84 k85 HP HW HD1
    have q84 := HS.out.c84
    clear h1 h2 h3 h4 h4b h5 h5b
    go_wp2
    have HS0 := HS
    clear HS q84
    go_loopg [42] np (fun gm v42 wx => ∃ i : Nat, v42 = .int .i64 (i : Int) ∧ i ≤ np ∧ Hid (gm + i = np) ∧ Hid (VS w g gr ram Ap np cp Aw nw cw ps ws wx) ∧ Hid (∀ j, j < i → (segB ram (rd_T46 ps (j : Int)) && flagB (rd_T46 ps (j : Int))) = true))
    case atStart => exact ⟨0, rfl, Nat.zero_le _, Lib.hid rfl, HS0, Lib.hid (fun j hj => absurd hj (Nat.not_lt_zero _))⟩
    case round =>
      clear HS0
      obtain ⟨i, rfl, hi, HI, HS, HA⟩ := hrel
      by_cases hlt : i < np
      · obtain ⟨gm, rfl⟩ : ∃ q, gk = q + 1 := ⟨gk - 1, by have := HI.out; omega⟩
        have p0 := eq_true (show (0 : Int) ≤ (i : Int) by omega)
        have p1 := eq_true (show (i : Int) < (np : Int) by omega)
        obtain ⟨ad, A3, c3, e, x0, x1, x2, x3, hl3, hC3⟩ := at_T46 HS.out.p (i : Int) (by omega) (by omega)
        subst e
        rw [Int.toNat_natCast] at x0 x1 x2 x3
        have hn3 : (rd_T46 ps (i : Int)).f3.length ≤ 9223372036854775807 := hC3.2.1
        have HCs := Lib.hid (seg_cases ram (rd_T46 ps (i : Int)))
        have HOK := Lib.hid (show ∀ b, (segB ram (rd_T46 ps (i : Int)) && flagB (rd_T46 ps (i : Int))) = b → (segB ram (rd_T46 ps (i : Int)) && flagB (rd_T46 ps (i : Int))) = b from fun b h => h)
        obtain ⟨s, hs⟩ : ∃ s, rd_T46 ps (i : Int) = s := ⟨_, rfl⟩
        rw [hs] at x0 x1 x2 x3 hn3 HCs
        obtain ⟨n3, hn⟩ : ∃ n3, s.f3.length = n3 := ⟨_, rfl⟩
        rw [hn] at x3 hn3 HCs
        have hwr : IntKind.u64.wrap (n3 : Int) = (n3 : Int) := by rw [IntKind.wrap_u64]; omega
        have HSS := Lib.hid hs
        have HR := Lib.hid HS.out.r
        clear hl3 hC3 hs hn HOK
        have r0 := HS.out.r
        go_upto_region 7 with (fail)
        have hB3 := (Below.refl _ wr).alloc (Nat.le_refl _) (.cells #[Value.int .u64 s.f0, .int .u64 s.f1, .int .i64 s.f2, .slice A3 n3 c3] 46)
        rcases HCs.out with ⟨ho, hf⟩ | ⟨ho, hf, h1⟩ | ⟨ho, hf, h1, h2⟩ | ⟨ho, hf, h1, h2, h3⟩ | ⟨ho, hf, h1, h2, h3⟩
        all_goals
          have HO := Lib.hid ho
          clear ho
          go_wp2_with (go_at_call 28; refine (fits_c gr ram _ _ _ ((((Below.refl _ wr).alloc (Nat.le_refl _) _).cell (World.block_lt_of_cell? wr _ HR.out)).trans HR.out)).mono ?_; rintro e w' ⟨rfl, hw⟩; subst hw)
        · go_ret
          exact ⟨congrArg (fun b => Ending.returned (Value.bool b)) (valid_seg HNP.out hlt HSS.out HO.out).symm, (HS.out.below hB3).b⟩
        · go_ret
          exact ⟨congrArg (fun b => Ending.returned (Value.bool b)) (valid_seg HNP.out hlt HSS.out HO.out).symm, (HS.out.below hB3).b⟩
        · go_ret
          exact ⟨congrArg (fun b => Ending.returned (Value.bool b)) (valid_seg HNP.out hlt HSS.out HO.out).symm, (HS.out.below hB3).b⟩
        · go_ret
          exact ⟨congrArg (fun b => Ending.returned (Value.bool b)) (valid_seg HNP.out hlt HSS.out HO.out).symm, (HS.out.below hB3).b⟩
        · go_roundg gm
          case measure => omega
          case rel => exact ⟨i + 1, by go_num, by omega, Lib.hid (by have := HI.out; omega), Lib.hid (HS.out.below hB3), Lib.hid (fun j hj => by
            rcases Nat.lt_or_eq_of_le (Nat.le_of_lt_succ hj) with h | h
            · exact HA.out j h
            · rw [h, HSS.out]; exact HO.out)⟩
      · have hin : i = np := by omega
        subst hin
        have q85 := HS.out.c85
        go_wp2
        have HS0 := HS
        clear HS q85
        go_loopg [76] nw (fun gm v76 wx => ∃ i : Nat, v76 = .int .i64 (i : Int) ∧ i ≤ nw ∧ Hid (gm + i = nw) ∧ Hid (VS w g gr ram Ap _ cp Aw nw cw ps ws wx) ∧ Hid (∀ j, j < i → decide ((rd_T48 ws (j : Int)).f3.length ≤ 64) = true))
        case atStart => exact ⟨0, rfl, Nat.zero_le _, Lib.hid rfl, HS0, Lib.hid (fun j hj => absurd hj (Nat.not_lt_zero _))⟩
        case round =>
          clear HS0
          obtain ⟨j, rfl, hj, HJ, HS, HA2⟩ := hrel
          by_cases hlt : j < nw
          · obtain ⟨gm, rfl⟩ : ∃ q, gk = q + 1 := ⟨gk - 1, by have := HJ.out; omega⟩
            have p0 := eq_true (show (0 : Int) ≤ (j : Int) by omega)
            have p1 := eq_true (show (j : Int) < (nw : Int) by omega)
            obtain ⟨ad, A3, c3, e, x0, x1, x2, x3, hl3, hC3⟩ := at_T48 HS.out.w' (j : Int) (by omega) (by omega)
            subst e
            rw [Int.toNat_natCast] at x0 x1 x2 x3
            have hn3 : (rd_T48 ws (j : Int)).f3.length ≤ 9223372036854775807 := hC3.2.1
            obtain ⟨s, hs⟩ : ∃ s, rd_T48 ws (j : Int) = s := ⟨_, rfl⟩
            rw [hs] at x0 x1 x2 x3 hn3
            obtain ⟨n3, hn⟩ : ∃ n3, s.f3.length = n3 := ⟨_, rfl⟩
            rw [hn] at x3 hn3
            have HSS := Lib.hid hs
            have HN3 := Lib.hid hn
            clear hl3 hC3 hs hn
            have hB3 := (Below.refl _ wr).alloc (Nat.le_refl _) (.cells #[Value.bool s.f0, .bool s.f1, .bool s.f2, .slice A3 n3 c3] 48)
            by_cases h64 : n3 ≤ 64
            · have d1 : decide (64 < (n3 : Int)) = false := decide_eq_false (by omega)
              have d2 : decide (64 < n3) = false := decide_eq_false (by omega)
              have H64 := Lib.hid h64
              clear h64
              go_wp2
              go_roundg gm
              case measure => omega
              case rel => exact ⟨j + 1, by go_num, by omega, Lib.hid (by have := HJ.out; omega), Lib.hid (HS.out.below hB3), Lib.hid (fun k hk => by
                rcases Nat.lt_or_eq_of_le (Nat.le_of_lt_succ hk) with h | h
                · exact HA2.out k h
                · rw [h, HSS.out, HN3.out]; exact decide_eq_true H64.out)⟩
            · have d1 : decide (64 < (n3 : Int)) = true := decide_eq_true (by omega)
              have d2 : decide (64 < n3) = true := decide_eq_true (by omega)
              have H64 := Lib.hid h64
              clear h64
              go_wp2
              go_ret
              exact ⟨congrArg (fun b => Ending.returned (Value.bool b)) (valid_world HNW.out hlt HSS.out (by rw [HN3.out]; exact H64.out)).symm, (HS.out.below hB3).b⟩
          · have hjn : j = nw := by omega
            subst hjn
            go_wp2
            go_ret
            exact ⟨congrArg (fun b => Ending.returned (Value.bool b)) (valid_yes HNP.out HNW.out HHH.out HA.out HA2.out).symm, HS.out.b⟩
end Go.Proofs.YtbmnifnahbehbaaDoor

/- The document's Valid: which decks can be. -/
set_option linter.unusedVariables false
namespace Go.Proofs.YtbmnifnahbehbaaDoor
open Go.RowKit Go.Lib Go.Proofs.YtbmnifnahbehbaaDoorW.PrintWords Go.Proofs.YtbmnifnahbehbaaDoorW.PrintMore Go.Proofs.YtbmnifnahbehbaaDoorW.PrintLast
open PPr
theorem read0b (ram : Int) : (Array.foldl (fun cs (x : Value × Nat) => cs.setIfInBounds x.snd x.fst) Tryd.zeroCells91 (Tryd.zeroCells35.setIfInBounds 0 (Value.int IntKind.i64 ram)).zipIdx 0 86)[0]? = some (.int .i64 ram) := by kernel_rfl
theorem seg_cases2 (ram : Int) (s : S46) :
    (segB ram s = false ∧ fitsB ram s.f0 s.f1 = false) ∨
    (segB ram s = false ∧ fitsB ram s.f0 s.f1 = true ∧ decide (s.f1 < (s.f3.length : Int)) = true) ∨
    (segB ram s = true ∧ fitsB ram s.f0 s.f1 = true ∧ decide (s.f1 < (s.f3.length : Int)) = false) := by
  unfold segB lenB
  cases fitsB ram s.f0 s.f1 <;> cases decide (s.f1 < (s.f3.length : Int)) <;> simp
theorem valid2_no {ram : Int} {ps : List S46} {ws : List S48} {np nw : Nat} (h1 : ps.length = np) (h2 : ws.length = nw) (h : headB ram np nw = false) : validB ram ps ws = false := by
  unfold validB
  rw [h1, h2, h]
  rfl
theorem valid2_seg {ram : Int} {ps : List S46} {ws : List S48} {np i : Nat} (h1 : ps.length = np) (hi : i < np) {s : S46} (hs : rd_T46 ps (i : Int) = s) (h : segB ram s = false) : validB ram ps ws = false := by
  have hi' : i < ps.length := by omega
  rw [rd46 hi'] at hs
  have hm : s ∈ ps := hs ▸ List.getElem_mem hi'
  cases hx : validB ram ps ws with
  | false => rfl
  | true =>
    unfold validB at hx
    rw [Bool.and_eq_true, Bool.and_eq_true] at hx
    have a := List.all_eq_true.1 hx.2.1 s hm
    rw [a] at h
    cases h
theorem valid2_world {ram : Int} {ps : List S46} {ws : List S48} {nw i : Nat} (h1 : ws.length = nw) (hi : i < nw) {s : S48} (hs : rd_T48 ws (i : Int) = s) (h : ¬ s.f3.length ≤ 64) : validB ram ps ws = false := by
  have hi' : i < ws.length := by omega
  rw [rd48 hi'] at hs
  have hm : s ∈ ws := hs ▸ List.getElem_mem hi'
  cases hx : validB ram ps ws with
  | false => rfl
  | true =>
    unfold validB at hx
    rw [Bool.and_eq_true, Bool.and_eq_true] at hx
    exact absurd (of_decide_eq_true (List.all_eq_true.1 hx.2.2 s hm)) h
theorem valid2_yes {ram : Int} {ps : List S46} {ws : List S48} {np nw : Nat} (h1 : ps.length = np) (h2 : ws.length = nw) (h : headB ram np nw = true) (ha : ∀ j, j < np → segB ram (rd_T46 ps (j : Int)) = true) (hb : ∀ j, j < nw → decide ((rd_T48 ws (j : Int)).f3.length ≤ 64) = true) : validB ram ps ws = true := by
  unfold validB
  rw [h1, h2, h, Bool.true_and]
  have e1 : ps.all (segB ram) = true := List.all_eq_true.2 (fun s hs => by
    obtain ⟨i, hi, rfl⟩ := List.getElem_of_mem hs
    have := ha i (by omega)
    rw [rd46 hi] at this
    exact this)
  have e3 : ws.all (fun x => decide (x.f3.length ≤ 64)) = true := List.all_eq_true.2 (fun s hs => by
    obtain ⟨i, hi, rfl⟩ := List.getElem_of_mem hs
    have := hb i (by omega)
    rw [rd48 hi] at this
    exact this)
  rw [e1, e3]
  rfl
set_option maxHeartbeats 4000000 in
set_option maxRecDepth 100000 in
theorem valid2_c (ram : Int) (c : Cp) (mt : Int) (ps : List S46) (ws : List S48) (Ap Aw : Option Addr) (cp cw : Nat) (w : World) (hps : Kd.C k46 w Ap ps.length ps) (hws : Kd.C k48 w Aw ws.length ws) :
    Calls Tryd.prog 19 #[.agg (dkA ram c mt (.slice Ap ps.length cp) (.slice Aw ws.length cw))] w fun e w' => e = .returned (.bool (validB ram ps ws)) ∧ Below w.heap.size w w' := by
  obtain ⟨DA, hDA⟩ : ∃ DA, dkA ram c mt (.slice Ap ps.length cp) (.slice Aw ws.length cw) = DA := ⟨_, rfl⟩
  rw [hDA]
  go_enter Tryd.func19, Tryd.ntmps19
  go_upto_region 1 with (first
    | ((with_reducible refine gate_dst (N := 1) rfl ?_); refine box_event ?hg (N := 1) ?hd (cs := DA) (t := 35) ?hr ?_; (case hd => rfl); (case hg => rfl); (case hr => rfl); intro g hg w1 hb1 hd1; have HG := Lib.hid hg; clear hg))
  rw [← hDA] at hb1
  have hD : DBox w1 g ram c mt (.slice Ap ps.length cp) (.slice Aw ws.length cw) := hb1
  clear hb1 hDA
  have q0 := hD.c0
  have q84 := hD.c84
  have q85 := hD.c85
  have hlp : ps.length ≤ 9223372036854775807 := hps.2.1
  have hlw : ws.length ≤ 9223372036854775807 := hws.2.1
  have HD1 := Lib.hid hd1
  have HP := Lib.hid (Kd.C_below hps hd1)
  have HW := Lib.hid (Kd.C_below hws hd1)
  clear hps hws hd1 hD
  obtain ⟨np, hnp⟩ : ∃ np, ps.length = np := ⟨_, rfl⟩
  obtain ⟨nw, hnw⟩ : ∃ nw, ws.length = nw := ⟨_, rfl⟩
  rw [hnp] at q84 hlp
  rw [hnw] at q85 hlw
  have HNP := Lib.hid hnp
  have HNW := Lib.hid hnw
  clear hnp hnw
  have HH := Lib.hid (head_cases ram np nw)
  rcases HH.out with ⟨hh, h1⟩ | ⟨hh, h1, h2⟩ | ⟨hh, h1, h2, h3⟩ | ⟨hh, h1, h2, h3, h4, h4b⟩ | ⟨hh, h1, h2, h3, h4, h4b, h5, h5b⟩ | ⟨hh, h1, h2, h3, h4, h4b, h5, h5b⟩
  all_goals
    have HHH := Lib.hid hh
    clear hh
    go_upto_region 3 with (fail)
  · go_ret
    exact ⟨congrArg (fun b => Ending.returned (Value.bool b)) (valid2_no HNP.out HNW.out HHH.out).symm, HD1.out⟩
  · go_ret
    exact ⟨congrArg (fun b => Ending.returned (Value.bool b)) (valid2_no HNP.out HNW.out HHH.out).symm, HD1.out⟩
  · go_ret
    exact ⟨congrArg (fun b => Ending.returned (Value.bool b)) (valid2_no HNP.out HNW.out HHH.out).symm, HD1.out⟩
  · go_ret
    exact ⟨congrArg (fun b => Ending.returned (Value.bool b)) (valid2_no HNP.out HNW.out HHH.out).symm, HD1.out⟩
  · go_ret
    exact ⟨congrArg (fun b => Ending.returned (Value.bool b)) (valid2_no HNP.out HNW.out HHH.out).symm, HD1.out⟩
  · go_upto_region 4 with (fail)
    have hr := blk_new w1 (.cells (Array.foldl (fun cs x => cs.setIfInBounds x.snd x.fst) Tryd.zeroCells91 (Tryd.zeroCells35.setIfInBounds 0 (Value.int IntKind.i64 ram)).zipIdx 0 86) 91)
    have hr0 := (blk_cell hr 0).trans (read0b ram)
    have hb1 := (Below.refl _ w1).alloc (Nat.le_refl _) (.cells (Array.foldl (fun cs x => cs.setIfInBounds x.snd x.fst) Tryd.zeroCells91 (Tryd.zeroCells35.setIfInBounds 0 (Value.int IntKind.i64 ram)).zipIdx 0 86) 91)
    obtain ⟨w2, hw2⟩ : ∃ w2, w1.alloc (.cells (Array.foldl (fun cs x => cs.setIfInBounds x.snd x.fst) Tryd.zeroCells91 (Tryd.zeroCells35.setIfInBounds 0 (Value.int IntKind.i64 ram)).zipIdx 0 86) 91) = w2 := ⟨_, rfl⟩
    obtain ⟨gr, hgr⟩ : ∃ gr, w1.heap.size = gr := ⟨_, rfl⟩
    rw [hw2, hgr] at hr0
    rw [hw2] at hb1 ⊢
    rw [hgr]
    have k84 := (hb1.cell (World.block_lt_of_cell? w1 _ q84)).trans q84
    have k85 := (hb1.cell (World.block_lt_of_cell? w1 _ q85)).trans q85
    have HS : Hid (VS w g gr ram Ap np cp Aw nw cw ps ws w2) := Lib.hid ⟨HD1.out.trans (hb1.mono HD1.out.size), hr0, k84, k85, by rw [← HNP.out]; exact Kd.C_below HP.out hb1, by rw [← HNW.out]; exact Kd.C_below HW.out hb1⟩
    clear hr hr0 hb1 hw2 hgr q0 q84 q85 k84 k85 HP HW HD1
    have q84 := HS.out.c84
    clear h1 h2 h3 h4 h4b h5 h5b
    go_wp2
    have HS0 := HS
    clear HS q84
    go_loopg [4] np (fun gm v4 wx => ∃ i : Nat, v4 = .int .i64 (i : Int) ∧ i ≤ np ∧ Hid (gm + i = np) ∧ Hid (VS w g gr ram Ap np cp Aw nw cw ps ws wx) ∧ Hid (∀ j, j < i → segB ram (rd_T46 ps (j : Int)) = true))
    case atStart => exact ⟨0, rfl, Nat.zero_le _, Lib.hid rfl, HS0, Lib.hid (fun j hj => absurd hj (Nat.not_lt_zero _))⟩
    case round =>
      clear HS0
      obtain ⟨i, rfl, hi, HI, HS, HA⟩ := hrel
      by_cases hlt : i < np
      · obtain ⟨gm, rfl⟩ : ∃ q, gk = q + 1 := ⟨gk - 1, by have := HI.out; omega⟩
        have p0 := eq_true (show (0 : Int) ≤ (i : Int) by omega)
        have p1 := eq_true (show (i : Int) < (np : Int) by omega)
        obtain ⟨ad, A3, c3, e, x0, x1, x2, x3, hl3, hC3⟩ := at_T46 HS.out.p (i : Int) (by omega) (by omega)
        subst e
        rw [Int.toNat_natCast] at x0 x1 x2 x3
        have hn3 : (rd_T46 ps (i : Int)).f3.length ≤ 9223372036854775807 := hC3.2.1
        have HCs := Lib.hid (seg_cases2 ram (rd_T46 ps (i : Int)))
        obtain ⟨s, hs⟩ : ∃ s, rd_T46 ps (i : Int) = s := ⟨_, rfl⟩
        rw [hs] at x0 x1 x2 x3 hn3 HCs
        obtain ⟨n3, hn⟩ : ∃ n3, s.f3.length = n3 := ⟨_, rfl⟩
        rw [hn] at x3 hn3 HCs
        have hwr : IntKind.u64.wrap (n3 : Int) = (n3 : Int) := by rw [IntKind.wrap_u64]; omega
        have HSS := Lib.hid hs
        have HR := Lib.hid HS.out.r
        clear hl3 hC3 hs hn
        have r0 := HS.out.r
        have q84 := HS.out.c84
        go_upto_region 8 with (fail)
        have hB3 := (Below.refl _ wr).alloc (Nat.le_refl _) (.cells #[Value.int .u64 s.f0, .int .u64 s.f1, .int .i64 s.f2, .slice A3 n3 c3] 46)
        rcases HCs.out with ⟨ho, hf⟩ | ⟨ho, hf, h1⟩ | ⟨ho, hf, h1⟩
        all_goals
          have HO := Lib.hid ho
          clear ho
          go_wp2_with (go_at_call 42; refine (inside_c gr ram _ _ _ ((((Below.refl _ wr).alloc (Nat.le_refl _) _).cell (World.block_lt_of_cell? wr _ HR.out)).trans HR.out)).mono ?_; rintro e w' ⟨rfl, hw⟩; subst hw)
        · go_ret
          exact ⟨congrArg (fun b => Ending.returned (Value.bool b)) (valid2_seg HNP.out hlt HSS.out HO.out).symm, (HS.out.below hB3).b⟩
        · go_ret
          exact ⟨congrArg (fun b => Ending.returned (Value.bool b)) (valid2_seg HNP.out hlt HSS.out HO.out).symm, (HS.out.below hB3).b⟩
        · go_roundg gm
          case measure => omega
          case rel => exact ⟨i + 1, by go_num, by omega, Lib.hid (by have := HI.out; omega), Lib.hid (HS.out.below hB3), Lib.hid (fun j hj => by
            rcases Nat.lt_or_eq_of_le (Nat.le_of_lt_succ hj) with h | h
            · exact HA.out j h
            · rw [h, HSS.out]; exact HO.out)⟩
      · have hin : i = np := by omega
        subst hin
        have q84 := HS.out.c84
        go_wp2
        have HS0 := HS
        clear HS q84
        go_loopg [7] nw (fun gm v7 wx => ∃ i : Nat, v7 = .int .i64 (i : Int) ∧ i ≤ nw ∧ Hid (gm + i = nw) ∧ Hid (VS w g gr ram Ap _ cp Aw nw cw ps ws wx) ∧ Hid (∀ j, j < i → decide ((rd_T48 ws (j : Int)).f3.length ≤ 64) = true))
        case atStart => exact ⟨0, rfl, Nat.zero_le _, Lib.hid rfl, HS0, Lib.hid (fun j hj => absurd hj (Nat.not_lt_zero _))⟩
        case round =>
          clear HS0
          obtain ⟨j, rfl, hj, HJ, HS, HA2⟩ := hrel
          by_cases hlt : j < nw
          · obtain ⟨gm, rfl⟩ : ∃ q, gk = q + 1 := ⟨gk - 1, by have := HJ.out; omega⟩
            have q85 := HS.out.c85
            have p0 := eq_true (show (0 : Int) ≤ (j : Int) by omega)
            have p1 := eq_true (show (j : Int) < (nw : Int) by omega)
            obtain ⟨ad, A3, c3, e, x0, x1, x2, x3, hl3, hC3⟩ := at_T48 HS.out.w' (j : Int) (by omega) (by omega)
            subst e
            rw [Int.toNat_natCast] at x0 x1 x2 x3
            have hn3 : (rd_T48 ws (j : Int)).f3.length ≤ 9223372036854775807 := hC3.2.1
            obtain ⟨s, hs⟩ : ∃ s, rd_T48 ws (j : Int) = s := ⟨_, rfl⟩
            rw [hs] at x0 x1 x2 x3 hn3
            obtain ⟨n3, hn⟩ : ∃ n3, s.f3.length = n3 := ⟨_, rfl⟩
            rw [hn] at x3 hn3
            have HSS := Lib.hid hs
            have HN3 := Lib.hid hn
            clear hl3 hC3 hs hn
            by_cases h64 : n3 ≤ 64
            · have d1 : decide (64 < (n3 : Int)) = false := decide_eq_false (by omega)
              have d2 : decide (64 < n3) = false := decide_eq_false (by omega)
              have H64 := Lib.hid h64
              clear h64
              go_wp2
              go_roundg gm
              case measure => omega
              case rel => exact ⟨j + 1, by go_num, by omega, Lib.hid (by have := HJ.out; omega), HS, Lib.hid (fun k hk => by
                rcases Nat.lt_or_eq_of_le (Nat.le_of_lt_succ hk) with h | h
                · exact HA2.out k h
                · rw [h, HSS.out, HN3.out]; exact decide_eq_true H64.out)⟩
            · have d1 : decide (64 < (n3 : Int)) = true := decide_eq_true (by omega)
              have d2 : decide (64 < n3) = true := decide_eq_true (by omega)
              have H64 := Lib.hid h64
              clear h64
              go_wp2
              go_ret
              exact ⟨congrArg (fun b => Ending.returned (Value.bool b)) (valid2_world HNW.out hlt HSS.out (by rw [HN3.out]; exact H64.out)).symm, HS.out.b⟩
          · have hjn : j = nw := by omega
            subst hjn
            have q85 := HS.out.c85
            go_wp2
            go_ret
            exact ⟨congrArg (fun b => Ending.returned (Value.bool b)) (valid2_yes HNP.out HNW.out HHH.out HA.out HA2.out).symm, HS.out.b⟩
end Go.Proofs.YtbmnifnahbehbaaDoor

/- strings.Builder at this seat: what is written stands behind what was there; all blocks below the builder's and all others that are no rows of bytes stay. The kit's contracts, under numbers of this seat. -/
set_option linter.unusedVariables false
namespace Go.Proofs.YtbmnifnahbehbaaDoor
open Go.RowKit Go.Lib Go.Shelf Go.Proofs.YtbmnifnahbehbaaDoorW.PrintWords
def bren : Go.Shelf.Ren := ⟨fun | 156 => 32 | 165 => 53 | 166 => 9 | 167 => 15 | 170 => 17 | 169 => 18 | 240 => 29 | 241 => 65 | 276 => 51 | 277 => 75 | n => n, fun | 31 => 67 | 9 => 9 | 3 => 3 | 4 => 4 | 0 => 0 | 20 => 20 | 72 => 51 | 76 => 54 | 70 => 49 | 37 => 44 | 75 => 53 | 127 => 88 | 164 => 94 | 5 => 5 | 80 => 66 | n => n, fun | n => n⟩
theorem lWs : Lays.n166 Tryd.prog bren where
  mixed := Tryd.laysJoin.mixed
  f166 := Tryd.func9.trans (congrArg some (by kernel_rfl))
  f240 := Tryd.func29.trans (congrArg some (by kernel_rfl))
  f276 := Tryd.func51.trans (congrArg some (by kernel_rfl))
  t0 := Tryd.laysJoin.t0
  a0 := Tryd.laysJoin.a0
  z0 := Tryd.laysJoin.z0
  v0 := Tryd.laysJoin.v0
  t3 := Tryd.laysJoin.t3
  a3 := Tryd.laysJoin.a3
  z3 := Tryd.laysJoin.z3
  v3 := Tryd.laysJoin.v3
  t4 := Tryd.laysJoin.t4
  a4 := Tryd.laysJoin.a4
  z4 := Tryd.laysJoin.z4
  v4 := Tryd.laysJoin.v4
  t9 := Tryd.laysJoin.t9
  a9 := Tryd.laysJoin.a9
  z9 := Tryd.laysJoin.z9
  v9 := Tryd.laysJoin.v9
  t20 := Tryd.laysJoin.t20
  a20 := Tryd.laysJoin.a20
  z20 := Tryd.laysJoin.z20
  v20 := Tryd.laysJoin.v20
  t37 := Tryd.laysJoin.t37
  a37 := Tryd.laysJoin.a37
  z37 := Tryd.laysJoin.z37
  v37 := Tryd.laysJoin.v37
  t70 := Tryd.laysJoin.t70
  a70 := Tryd.laysJoin.a70
  z70 := Tryd.laysJoin.z70
  v70 := Tryd.laysJoin.v70
  t72 := Tryd.laysJoin.t72
  a72 := Tryd.laysJoin.a72
  z72 := Tryd.laysJoin.z72
  v72 := Tryd.laysJoin.v72
  t75 := Tryd.laysJoin.t75
  a75 := Tryd.laysJoin.a75
  z75 := Tryd.laysJoin.z75
  v75 := Tryd.laysJoin.v75
  t164 := Tryd.laysJoin.t164
  a164 := Tryd.laysJoin.a164
  z164 := Tryd.laysJoin.z164
  v164 := Tryd.laysJoin.v164
theorem lWb : Lays.n167 Tryd.prog bren where
  mixed := Tryd.laysJoin.mixed
  f167 := Tryd.func15.trans (congrArg some (by kernel_rfl))
  f240 := Tryd.func29.trans (congrArg some (by kernel_rfl))
  f276 := Tryd.func51.trans (congrArg some (by kernel_rfl))
  t0 := Tryd.laysJoin.t0
  a0 := Tryd.laysJoin.a0
  z0 := Tryd.laysJoin.z0
  v0 := Tryd.laysJoin.v0
  t4 := Tryd.laysJoin.t4
  a4 := Tryd.laysJoin.a4
  z4 := Tryd.laysJoin.z4
  v4 := Tryd.laysJoin.v4
  t5 := Tryd.underlying5
  a5 := Tryd.isAgg5
  z5 := Tryd.sizeOf5
  v5 := Tryd.zeroValue5
  t9 := Tryd.laysJoin.t9
  a9 := Tryd.laysJoin.a9
  z9 := Tryd.laysJoin.z9
  v9 := Tryd.laysJoin.v9
  t20 := Tryd.laysJoin.t20
  a20 := Tryd.laysJoin.a20
  z20 := Tryd.laysJoin.z20
  v20 := Tryd.laysJoin.v20
  t37 := Tryd.laysJoin.t37
  a37 := Tryd.laysJoin.a37
  z37 := Tryd.laysJoin.z37
  v37 := Tryd.laysJoin.v37
  t70 := Tryd.laysJoin.t70
  a70 := Tryd.laysJoin.a70
  z70 := Tryd.laysJoin.z70
  v70 := Tryd.laysJoin.v70
  t72 := Tryd.laysJoin.t72
  a72 := Tryd.laysJoin.a72
  z72 := Tryd.laysJoin.z72
  v72 := Tryd.laysJoin.v72
  t75 := Tryd.laysJoin.t75
  a75 := Tryd.laysJoin.a75
  z75 := Tryd.laysJoin.z75
  v75 := Tryd.laysJoin.v75
  t164 := Tryd.laysJoin.t164
  a164 := Tryd.laysJoin.a164
  z164 := Tryd.laysJoin.z164
  v164 := Tryd.laysJoin.v164
theorem lBs : Lays.n169 Tryd.prog bren where
  mixed := Tryd.laysJoin.mixed
  f169 := Tryd.func18.trans (congrArg some (by kernel_rfl))
  t0 := Tryd.laysJoin.t0
  a0 := Tryd.laysJoin.a0
  z0 := Tryd.laysJoin.z0
  v0 := Tryd.laysJoin.v0
  t3 := Tryd.laysJoin.t3
  a3 := Tryd.laysJoin.a3
  z3 := Tryd.laysJoin.z3
  v3 := Tryd.laysJoin.v3
  t9 := Tryd.laysJoin.t9
  a9 := Tryd.laysJoin.a9
  z9 := Tryd.laysJoin.z9
  v9 := Tryd.laysJoin.v9
  t37 := Tryd.laysJoin.t37
  a37 := Tryd.laysJoin.a37
  z37 := Tryd.laysJoin.z37
  v37 := Tryd.laysJoin.v37
  t70 := Tryd.laysJoin.t70
  a70 := Tryd.laysJoin.a70
  z70 := Tryd.laysJoin.z70
  v70 := Tryd.laysJoin.v70
  t72 := Tryd.laysJoin.t72
  a72 := Tryd.laysJoin.a72
  z72 := Tryd.laysJoin.z72
  v72 := Tryd.laysJoin.v72
  t127 := Tryd.laysJoin.t127
  a127 := Tryd.laysJoin.a127
  z127 := Tryd.laysJoin.z127
  v127 := Tryd.laysJoin.v127
theorem lBl : Lays.n170 Tryd.prog bren where
  mixed := Tryd.laysJoin.mixed
  f170 := Tryd.func17.trans (congrArg some (by kernel_rfl))
  t0 := Tryd.laysJoin.t0
  a0 := Tryd.laysJoin.a0
  z0 := Tryd.laysJoin.z0
  v0 := Tryd.laysJoin.v0
  t3 := Tryd.laysJoin.t3
  a3 := Tryd.laysJoin.a3
  z3 := Tryd.laysJoin.z3
  v3 := Tryd.laysJoin.v3
  t37 := Tryd.laysJoin.t37
  a37 := Tryd.laysJoin.a37
  z37 := Tryd.laysJoin.z37
  v37 := Tryd.laysJoin.v37
  t70 := Tryd.laysJoin.t70
  a70 := Tryd.laysJoin.a70
  z70 := Tryd.laysJoin.z70
  v70 := Tryd.laysJoin.v70
  t72 := Tryd.laysJoin.t72
  a72 := Tryd.laysJoin.a72
  z72 := Tryd.laysJoin.z72
  v72 := Tryd.laysJoin.v72
theorem bX : Builder.Extra Tryd.prog bren where
  sizeBuilder := by kernel_rfl
  liesBuilder := by kernel_rfl
  t5 := Tryd.underlying5
  a5 := Tryd.isAgg5
  z5 := Tryd.sizeOf5
  v5 := Tryd.zeroValue5
  infoByte := by kernel_rfl
  cellsByte := by kernel_rfl
  sizeByte := by kernel_rfl
  neB5 := by decide
theorem bXJ : Builder.Extra Tryd.prog Tryd.laysJoin_ren where
  sizeBuilder := by kernel_rfl
  liesBuilder := by kernel_rfl
  t5 := Tryd.underlying5
  a5 := Tryd.isAgg5
  z5 := Tryd.sizeOf5
  v5 := Tryd.zeroValue5
  infoByte := by kernel_rfl
  cellsByte := by kernel_rfl
  sizeByte := by kernel_rfl
  neB5 := by decide
/-- The builder at block b holds these bytes. -/
def IsB (b : Nat) (l : List UInt8) (w : World) : Prop := Lib.IsBuilderF 51 5 b b (Lib.byteCells l) w
/-- What a write keeps. -/
def KpB (b : Nat) (w w' : World) : Prop := Below b w w' ∧ Lib.OthersKept 5 (some b) w w'
theorem KpB.refl (b : Nat) (w : World) : KpB b w w := ⟨Below.refl _ _, Lib.OthersKept.refl _ _ _⟩
theorem KpB.trans {b : Nat} {w w1 w2 : World} (h : KpB b w w1) (k : KpB b w1 w2) : KpB b w w2 := ⟨h.1.trans k.1, h.2.trans k.2⟩
theorem KpB.blk {b : Nat} {w w' : World} (h : KpB b w w') {g : Nat} {cs : Array Value} {t : TypeId} {fr : Nat × Nat} (hg : w.heap[g]? = some (.cells cs t fr)) (ht : t ≠ 5) (hb : g ≠ b) : w'.heap[g]? = some (.cells cs t fr) :=
  h.2 g _ hg (by simpa using hb) (fun c fz e => by injection e with _ e _; exact ht e)
theorem KpB.of_below {b : Nat} {w w' : World} (h : Below w.heap.size w w') (hb : b ≤ w.heap.size) : KpB b w w' :=
  ⟨h.mono hb, fun k o hk _ _ => by rw [h.block k (blk_lt hk)]; exact hk⟩
theorem IsB.below {b : Nat} {l : List UInt8} {w w' : World} (h : IsB b l w) (hb : Below w.heap.size w w') : IsB b l w' := by
  have go : ∀ p, Lib.BuilderAtF 51 5 b b p (Lib.byteCells l) w → Lib.BuilderAtF 51 5 b b p (Lib.byteCells l) w' := by
    rintro p ⟨h1, v, h2, ⟨h3, h4⟩, h5⟩
    refine ⟨h1, v, by rw [hb.block b (blk_lt h2)]; exact h2, ⟨h3, ?_⟩, h5⟩
    rcases h4 with h4 | ⟨g, cap, cur, fz, e1, e2, e3, e4⟩
    · exact .inl h4
    · exact .inr ⟨g, cap, cur, fz, e1, e2, by rw [hb.block g (blk_lt e3)]; exact e3, e4⟩
  exact h.imp (go _) (go _)
theorem IsB.lt {b : Nat} {l : List UInt8} {w : World} (h : IsB b l w) : b < w.heap.size := by
  rcases h with ⟨_, v, h2, _⟩ | ⟨_, v, h2, _⟩ <;> exact blk_lt h2
theorem IsB.new (w : World) : IsB w.heap.size [] (w.alloc (.cells #[.pointer none, .slice none 0 0] 51)) :=
  .inl ⟨Nat.le_refl _, .slice none 0 0, blk_new w _, World.ownsRowF_nil _ _ _ _, by simp [Value.ownBlock]⟩
theorem byteCells_len (l : List UInt8) : (Lib.byteCells l).length = l.length := by simp [Lib.byteCells]
theorem byteCells_app (l m : List UInt8) : Lib.byteCells (l ++ m) = Lib.byteCells l ++ Lib.byteCells m := by simp [Lib.byteCells]
theorem ws_c {b : Nat} {l : List UInt8} (s : ByteArray) {w : World} (h : IsB b l w) (hl : l.length + s.size ≤ 140737488355328) :
    Calls Tryd.prog 9 #[.pointer (some ⟨b, 0, none⟩), .string s] w fun e w' => e = .returned (.tuple #[.int .i64 s.size, .nilIface]) ∧ IsB b (l ++ s.data.toList) w' ∧ KpB b w w' := by
  refine (Any.Builder_WriteString_k lWs bX b b (Lib.byteCells l) s w h (by rw [byteCells_len]; exact hl) (Nat.le_of_lt h.lt)).mono ?_
  rintro e w' ⟨rfl, h1, h2, h3⟩
  refine ⟨rfl, .inr ?_, h2, h3⟩
  rw [byteCells_app]
  exact h1
theorem wb_c {b : Nat} {l : List UInt8} (c : UInt8) {w : World} (h : IsB b l w) (hl : l.length + 1 ≤ 140737488355328) :
    Calls Tryd.prog 15 #[.pointer (some ⟨b, 0, none⟩), .int .u8 (c.toNat : Int)] w fun e w' => e = .returned .nilIface ∧ IsB b (l ++ [c]) w' ∧ KpB b w w' := by
  refine (Any.Builder_WriteByte_k lWb bX b b (Lib.byteCells l) c.toNat w h (by rw [byteCells_len]; exact hl) (Nat.le_of_lt h.lt)).mono ?_
  rintro e w' ⟨rfl, h1, h2, h3⟩
  refine ⟨rfl, .inr ?_, h2, h3⟩
  rw [byteCells_app]
  exact h1
theorem str_c {b : Nat} {l : List UInt8} {w : World} (h : IsB b l w) :
    Calls Tryd.prog 18 #[.pointer (some ⟨b, 0, none⟩)] w fun e w' => e = .returned (.string ⟨l.toArray⟩) ∧ KpB b w w' := by
  refine (Any.Builder_String_any_k lBs bX b b l w h (Nat.le_of_lt h.lt)).mono ?_
  rintro e w' ⟨rfl, h1, h2, h3⟩
  exact ⟨rfl, h2, h3⟩
set_option maxRecDepth 100000 in
theorem len_c {b : Nat} {l : List UInt8} {w : World} (h : IsB b l w) :
    Calls Tryd.prog 17 #[.pointer (some ⟨b, 0, none⟩)] w fun e w' => e = .returned (.int .i64 l.length) ∧ w' = w := by
  have hv : ∃ p A c, w.heap[b]? = some (.cells #[p, .slice A l.length c] 51 (0, 0)) := by
    rcases h with ⟨_, v, h2, ⟨h3, h4⟩, _⟩ | ⟨_, v, h2, ⟨h3, h4⟩, _⟩ <;> rw [byteCells_len] at h3 h4 <;>
    (rcases h4 with ⟨rfl, h5⟩ | ⟨g, cap, cur, fz, rfl, _⟩
     · exact ⟨_, none, 0, by rw [h5]; exact h2⟩
     · exact ⟨_, _, _, h2⟩)
  obtain ⟨p, A, c, hg⟩ := hv
  have h1 := blk_cell hg 1
  simp only [List.getElem?_toArray, List.getElem?_cons_succ, List.getElem?_cons_zero] at h1
  go_enter Tryd.func17, Tryd.ntmps17
  go_wp2
  go_ret
  exact ⟨rfl, rfl⟩
set_option maxRecDepth 100000 in
theorem join_c {w : World} {A : Option Addr} {c : Nat} {xs : List ByteArray} (sep : ByteArray) (bk o : Nat) (hA : A = some ⟨bk, o, none⟩)
    (hcells : ∀ (j : Nat) x, xs[j]? = some x → w.cell? ⟨bk, o + j, none⟩ = some (.string x))
    (hbk : bk < w.heap.size) (hN : xs.length ≤ 1000) (hcap : xs.length ≤ c) (hlen : (Lib.join (xs.map (·.data.toList)) sep.data.toList).length ≤ 140737488355328) :
    Calls Tryd.prog 32 #[.slice A xs.length c, .string sep] w fun e w' => e = .returned (.string ⟨(Lib.join (xs.map (·.data.toList)) sep.data.toList).toArray⟩) ∧ Below w.heap.size w w' := by
  subst hA
  exact Any.strings_Join Tryd.laysJoin bXJ bk o c xs sep w hcells hbk (Nat.le_trans hN (by decide)) hcap hlen
end Go.Proofs.YtbmnifnahbehbaaDoor

/- deck.cpu's line: the words with a blank between, a byte 10 behind, written into the builder. -/
set_option linter.unusedVariables false
namespace Go.Proofs.YtbmnifnahbehbaaDoor
open Go.RowKit Go.Lib Go.Shelf Go.Proofs.YtbmnifnahbehbaaDoorW.PrintWords Go.Proofs.YtbmnifnahbehbaaDoorW.PrintMore Go.Proofs.YtbmnifnahbehbaaDoorW.PrintLast
def lineL (xs : List ByteArray) : List UInt8 := Lib.join (xs.map (·.data.toList)) [32] ++ [10]
/-- A row of strings. -/
def Strs (w : World) (A : Option Addr) (xs : List ByteArray) : Prop := ∃ bk o, A = some ⟨bk, o, none⟩ ∧ bk < w.heap.size ∧ ∀ (j : Nat) x, xs[j]? = some x → w.cell? ⟨bk, o + j, none⟩ = some (.string x)
set_option maxHeartbeats 1600000 in
set_option maxRecDepth 100000 in
theorem line_c {bb bx : Nat} {l : List UInt8} {A : Option Addr} {c : Nat} (xs : List ByteArray) {w : World} (h : IsB bb l w) (hBX : w.heap[bx]? = some (.cells #[.pointer (some ⟨bb, 0, none⟩)] 49 (0, 0))) (hne : bx ≠ bb) (hA : Strs w A xs) (hc : xs.length ≤ c) (hn : xs.length ≤ 10)
    (hl : l.length + (lineL xs).length ≤ 140737488355328) :
    Calls Tryd.prog 31 #[.slice A xs.length c, .pointer (some ⟨bx, 0, none⟩)] w fun e w' => e = .returned (.tuple #[]) ∧ IsB bb (l ++ lineL xs) w' ∧ KpB bb w w' := by
  obtain ⟨bk, o, rfl, hbk, hcells⟩ := hA
  have hlen : (Lib.join (xs.map (·.data.toList)) [32]).length + 1 = (lineL xs).length := by unfold lineL; rw [List.length_append]; rfl
  have cJ := fun W (hW : Below w.heap.size w W) => join_c (w := W) (c := c) (xs := xs) ⟨#[32]⟩ bk o rfl (fun j x hx => (hW.cell hbk).trans (hcells j x hx)) (Nat.lt_of_lt_of_le hbk hW.size) (by omega) hc (by show (Lib.join (xs.map (·.data.toList)) [32]).length ≤ _; omega)
  obtain ⟨J, hJ⟩ : ∃ J, Lib.join (xs.map (·.data.toList)) (⟨#[32]⟩ : ByteArray).data.toList = J := ⟨_, rfl⟩
  have hJ2 : Lib.join (xs.map (·.data.toList)) [32] = J := hJ
  rw [hJ] at cJ
  rw [hJ2] at hlen
  have hLL : lineL xs = J ++ [10] := by unfold lineL; rw [hJ2]
  rw [hLL] at hl ⊢
  have HI := Lib.hid h
  have hbx : w.cell? ⟨bx, 0, none⟩ = some (.pointer (some ⟨bb, 0, none⟩)) := blk_cell hBX 0
  have hbxk : bx < w.heap.size := blk_lt hBX
  have HBX := Lib.hid hBX
  have HI0 := Lib.hid h.lt
  have HL := Lib.hid hl
  obtain ⟨S, hS⟩ : ∃ S : ByteArray, (⟨J.toArray⟩ : ByteArray) = S := ⟨_, rfl⟩
  have hSL : S.data.toList = J := by rw [← hS]
  have hSz : S.size = J.length := by rw [← hS]; simp [ByteArray.size]
  rw [hS] at cJ
  have HJ := Lib.hid cJ
  have HSL := Lib.hid hSL
  have c0 := eq_true (show S.size + 1 ≤ 9223372036854775807 by rw [hSz]; rw [List.length_append] at hl; simp at hl; omega)
  have c1 : (9223372036854775807 < S.size + 1) = False := eq_false (Nat.not_lt.2 (of_eq_true c0))
  have HSZ := Lib.hid (show l.length + (S ++ (⟨#[10]⟩ : ByteArray)).size ≤ 140737488355328 by rw [ByteArray.size_append, hSz]; rw [List.length_append] at hl; exact hl)
  clear hcells hJ hJ2 hLL h cJ hBX hlen hS hSL hSz
  go_enter Tryd.func31, Tryd.ntmps31
  have hB := below_drew (Below.refl w.heap.size w)
  go_region_held2 (fun w' => w'.cell? ⟨bx, 0, none⟩ = some (.pointer (some ⟨bb, 0, none⟩))) (first | exact hbx | go_keep) (first
    | (go_at_call 32; refine (HJ.out _ hB).mono ?_; rintro e w2 ⟨rfl, hd⟩; have hd2 := hB.trans (hd.mono hB.size); have HI2 := Lib.hid (HI.out.below hd2); have hbx2 := (hd2.cell hbxk).trans hbx; have HD2 := Lib.hid hd2; clear hd hd2)
    | (go_at_call 9; refine (ws_c _ HI2.out HSZ.out).mono ?_; rintro e w3 ⟨rfl, h1, h2⟩; have h3 := blk_cell (h2.blk (blk_below HBX.out HD2.out) (by decide) hne) 0; have HF := Lib.hid (And.intro h1 h2)))
  go_end0
  obtain ⟨h1, h2⟩ := HF.out
  refine ⟨rfl, ?_, (KpB.of_below HD2.out (Nat.le_of_lt HI0.out)).trans h2⟩
  have e : (S ++ (⟨#[10]⟩ : ByteArray)).data.toList = J ++ [10] := by rw [ByteArray.data_append, Array.toList_append, HSL.out]
  rw [e] at h1
  exact h1
end Go.Proofs.YtbmnifnahbehbaaDoor
