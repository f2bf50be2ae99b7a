/- Proved: ImageWrites returns true for every image whose bulk is at most 2^20: the program's Write of a twin gives the document's bytes and answer, the twin stays, and what is written into the twin afterwards does not show in the file. -/
import Derived.Test.YtbnlifldnjgpmaaDoorGr4
import Derived.Test.YtbnlifldnjgpmaaDoorCards
import Derived.Test.YtbnlifldnjgpmaaDoorTie
import Derived.Carry
import Derived.ChangeOld
set_option linter.unusedVariables false
set_option linter.unusedSimpArgs false
namespace Go.Proofs.YtbnlifldnjgpmaaDoor.LawWri
open Go.ChangeShapes Go.WideShapes Go.ChangeAt Go.RowKit Go.Proofs.YtbnlifldnjgpmaaDoorW.PrintWords
open PWri

/-! ### the argument's reading -/
def okI (k : IntKind) (n : Int) : Prop := (Lit.int k n).wf = true
def okData (l : List Int) : Prop := ∀ x ∈ l, okI .u8 x
def wData (l : List Int) : Nat := (l.map (fun _ => 1)).sum + 1
def okSeg (s : Seg) : Prop := okI .u64 s.f0 ∧ okI .u64 s.f1 ∧ okI .i64 s.f2 ∧ okData s.f3
def wSeg (s : Seg) : Nat := 1 + (1 + (1 + wData s.f3)) + 1
def okSym (s : Sym) : Prop := True ∧ okI .u64 s.f1
def wSym (s : Sym) : Nat := s.f0.size + 1 + 1 + 1
abbrev Im := Int × List Seg × List Sym
def okIm (x : Im) : Prop := okI .u64 x.1 ∧ (∀ s ∈ x.2.1, okSeg s) ∧ ∀ s ∈ x.2.2, okSym s
def wIm (x : Im) : Nat := 1 + ((x.2.1.map wSeg).sum + 1 + ((x.2.2.map wSym).sum + 1)) + 1
abbrev kIm : Kd Im := Kd.iso (Kd.pair (Kd.int .u64) (Kd.pair (Kd.slice 41 k41) (Kd.slice 44 k44))) (fun x : Im => x)
theorem oData : Opens Tryd.prog 33 (Kd.slice 5 (Kd.int .u8)) okData wData := Opens.slice Tryd.underlying33 (by kernel_rfl) (Opens.int Tryd.underlying5 (by kernel_rfl))
theorem oSeg : Opens Tryd.prog 41 k41 okSeg wSeg :=
  Opens.struct (fun x : Seg => (x.f0, x.f1, x.f2, x.f3)) (fun a => ⟨⟨a.1, a.2.1, a.2.2.1, a.2.2.2⟩, rfl⟩) Tryd.underlying41 (by kernel_rfl)
    (Fields.cons rfl (Opens.int Tryd.underlying22 (by kernel_rfl)) (Fields.cons rfl (Opens.int Tryd.underlying22 (by kernel_rfl)) (Fields.cons rfl (Opens.int Tryd.underlying3 (by kernel_rfl)) (Fields.one rfl oData))))
theorem oSym : Opens Tryd.prog 44 k44 okSym wSym :=
  Opens.struct (fun x : Sym => (x.f0, x.f1)) (fun a => ⟨⟨a.1, a.2⟩, rfl⟩) Tryd.underlying44 (by kernel_rfl)
    (Fields.cons rfl (Opens.string Tryd.underlying9 (by kernel_rfl)) (Fields.one rfl (Opens.int Tryd.underlying22 (by kernel_rfl))))
theorem oImage : Opens Tryd.prog 26 kIm okIm wIm :=
  Opens.struct (fun x : Im => x) (fun a => ⟨a, rfl⟩) Tryd.underlying26 (by kernel_rfl)
    (Fields.cons rfl (Opens.int Tryd.underlying22 (by kernel_rfl)) (Fields.cons rfl (Opens.slice Tryd.underlying23 (by kernel_rfl) oSeg) (Fields.one rfl (Opens.slice Tryd.underlying24 (by kernel_rfl) oSym))))

theorem sum_mem {α : Type} (f : α → Nat) : ∀ (l : List α) (x : α), x ∈ l → f x ≤ (l.map f).sum
  | a :: l, x, h => by
    simp only [List.map_cons, List.sum_cons]
    rcases List.mem_cons.1 h with rfl | h
    · omega
    · have := sum_mem f l x h
      omega
theorem sum_len {α : Type} (f : α → Nat) (h : ∀ x, 1 ≤ f x) : ∀ l : List α, l.length ≤ (l.map f).sum
  | [] => by simp
  | a :: l => by
    have := sum_len f h l
    have := h a
    simp only [List.map_cons, List.sum_cons, List.length_cons]
    omega
theorem getD_or {α : Type} (l : List α) (i : Nat) (d : α) : l.getD i d = d ∨ l.getD i d ∈ l := by
  rw [List.getD_eq_getElem?_getD]
  cases h : l[i]? with
  | none => exact .inl rfl
  | some x => exact .inr (by simpa using List.mem_of_getElem? h)
/-- What the bound gives. -/
theorem small_of {x : Im} (h : wIm x ≤ 1048576) : Small x.2.1 x.2.2 := by
  unfold wIm at h
  have h1 := sum_len wSeg (fun s => by unfold wSeg; omega) x.2.1
  have h2 := sum_len wSym (fun s => by unfold wSym; omega) x.2.2
  refine ⟨by omega, by omega, fun i => ?_, fun i => ?_⟩
  · rcases getD_or x.2.1 i.toNat z41 with e | e
    · unfold rd_T41
      rw [e]
      exact Nat.zero_le _
    · have h3 := sum_mem wSeg _ _ e
      have h4 := sum_len (fun _ => 1) (fun _ => Nat.le_refl _) (rd_T41 x.2.1 i).f3
      have h5 : wSeg (rd_T41 x.2.1 i) ≤ (x.2.1.map wSeg).sum := h3
      have h6 : wSeg (rd_T41 x.2.1 i) = 1 + (1 + (1 + (((rd_T41 x.2.1 i).f3.map (fun _ => 1)).sum + 1))) + 1 := rfl
      omega
  · rcases getD_or x.2.2 i.toNat z44 with e | e
    · unfold rd_T44
      rw [e]
      exact Nat.zero_le _
    · have h3 := sum_mem wSym _ _ e
      have h5 : wSym (rd_T44 x.2.2 i) ≤ (x.2.2.map wSym).sum := h3
      have h6 : wSym (rd_T44 x.2.2 i) = (rd_T44 x.2.2 i).f0.size + 1 + 1 + 1 := rfl
      omega
theorem wf_u64 {n : Int} (h : okI .u64 n) : 0 ≤ n := by
  unfold okI Lit.wf at h
  have e : IntKind.u64.min = 0 := by kernel_rfl
  simp [e] at h
  omega

theorem lt_u64 {n : Int} (h : okI .u64 n) : n < 18446744073709551616 := by
  unfold okI Lit.wf at h
  have e : IntKind.u64.max = 18446744073709551615 := by kernel_rfl
  simp [e] at h
  omega
theorem nums_of {x : Im} (h : okIm x) : Nums x.1 x.2.1 x.2.2 := by
  refine ⟨⟨wf_u64 h.1, lt_u64 h.1⟩, fun i => ?_, fun i => ?_, fun i => ?_⟩
  · rcases getD_or x.2.1 i.toNat z41 with e | e
    · unfold rd_T41
      rw [e]
      exact ⟨by decide, by decide⟩
    · exact ⟨wf_u64 (h.2.1 _ e).1, lt_u64 (h.2.1 _ e).1⟩
  · rcases getD_or x.2.1 i.toNat z41 with e | e
    · unfold rd_T41
      rw [e]
      exact ⟨by decide, by decide⟩
    · exact ⟨wf_u64 (h.2.1 _ e).2.1, lt_u64 (h.2.1 _ e).2.1⟩
  · rcases getD_or x.2.2 i.toNat z44 with e | e
    · unfold rd_T44
      rw [e]
      exact ⟨by decide, by decide⟩
    · exact ⟨wf_u64 (h.2.2 _ e).2, lt_u64 (h.2.2 _ e).2⟩

/-! ### the row -/
theorem walk (W : World) (v : Value) (x : Im) (hv : kIm.K W x v.cells.toList) (hs : ∃ cs, v = .agg cs) (hx : okIm x) (hw : wIm x ≤ 1048576) (hG : Glob W) :
    Calls Tryd.prog 4 #[v] W fun e W' => e = .returned (.bool true) ∧ Below W.heap.size W W' := by
  obtain ⟨cs, rfl⟩ := hs
  obtain ⟨x1, x2, x3⟩ := x
  obtain ⟨c1, c2, h1, h2, c3, c4, h3, h4, h5⟩ := hv
  obtain ⟨k, hk⟩ := pure_ x1 x2 x3 (small_of hw) (nums_of hx)
  obtain ⟨A1, n1, e1, l1, r1⟩ := h4
  obtain ⟨A2, n2, e2, l2, r2⟩ := h5
  have hc : cs = #[.int .u64 x1, .slice A1 x2.length n1, .slice A2 x3.length n2] := by
    apply Array.toList_inj.1
    rw [show cs.toList = c1 ++ c2 from h1, show c1 = [.int .u64 x1] from h2, h3, e1, e2]
    rfl
  subst hc
  exact anvillaw02_ImageWrites.calls k x1 A1 n1 x2 A2 n2 x3 true W r1 l1 r2 l2 hG hk

theorem reads (os : Os) {H : Type} (enc : TypeId × Value → H) : ∃ places, DataW.whole enc Tryd.prog (laidMem os #[.agg #[.int .u64 0, .slice none 0 0, .slice none 0 0]]) Tryd.f4.params.toList Rows.imageWritesSpec.vars false #[Value.agg #[.int .u64 0, .slice none 0 0, .slice none 0 0]].toList 8 = some ([.agg [.lit (.int .u64 0), .nil, .nil]], [], places) :=
  ⟨[], by kernel_rfl⟩

theorem laid_list : Rows.imageWritesUptoRow.laid = theList := theList_eq
theorem laid_row (os : Os) (args : Array Value) : laidMet Tryd.prog Rows.imageWritesUptoRow.laid (laidMem os args) := by
  rw [laid_list]
  exact laid_met os args
set_option maxRecDepth 100000 in
theorem lifted (os : Os) (started : os.Started) (H : Type) (enc : TypeId × Value → H) (F : Stop.Interp) :
    ReturnsInHanded {} Tryd.checked os 4 .any ((Rows.OpenSpec.upto Rows.imageWritesSpec).preRow enc Tryd.prog Tryd.f4 Rows.imageWritesUptoRow.domain false Rows.imageWritesUptoRow.laid) (((Rows.OpenSpec.upto Rows.imageWritesSpec).at F).post enc Tryd.prog Tryd.f4 false true false false) := by
  obtain ⟨places, hx⟩ := reads os enc
  refine returnsInHanded_of_row (C := Tryd.checked) (s := Rows.OpenSpec.upto Rows.imageWritesSpec) own started (by kernel_rfl) Tryd.func4
    (witness_row_atRef (enc := enc) (C := Tryd.checked) false (laidWorld os) #[.agg #[.int .u64 0, .slice none 0 0, .slice none 0 0]] rfl (by kernel_rfl) (by kernel_rfl) (by kernel_rfl)
      (OpenSpec.preRow_of_cond 8 hx (by kernel_rfl) (fun k hk => by cases hk; kernel_rfl) (by kernel_rfl) (laid_row os _))) ?_
  intro W base args ds gs before hval0 hW _ hcond _ hL _ _
  have hval : ∀ (j : Nat) t v, Tryd.f4.params[j]? = some t → args[j]? = some v → Value.okWide Tryd.prog W .any base t v := hval0
  have hW' := hW
  obtain ⟨p, q, hA0, hV, rfl, hfz, hnd⟩ := hW
  have hA : DataW.TrodAll enc Tryd.prog W 0 (fun _ => true) true Tryd.f4.params.toList args.toList ds p := hA0
  rw [Tryd.params4] at hA hval
  have hlt : ∀ x ∈ p, x.block < W.heap.size := hA.lt
  obtain ⟨v0, d0, rfl, rfl, h0⟩ := trodAll_one hA
  obtain ⟨rfl, rfl⟩ := trodVars_none hV
  have hv0 := hval 0 26 v0 rfl rfl
  unfold Value.okWide at hv0
  rw [Tryd.underlying26] at hv0
  obtain ⟨cs, hcs, _⟩ := hv0
  obtain ⟨fuel, h0f⟩ := id h0
  obtain ⟨x, hk, hok, hwt0⟩ := oImage.op h0f
  have hwt : wIm x ≤ Rows.uptoBulk d0 := hwt0
  have hb : Rows.uptoBulkAll [d0] ≤ 1048576 := of_decide_eq_true (hcond _ rfl)
  simp only [Rows.uptoBulkAll] at hb
  have hG : Glob W := glob_of_laid (laid_list ▸ (show laidMet Tryd.prog Rows.imageWritesUptoRow.laid W from hL))
  refine (walk W v0 x hk ⟨cs, hcs⟩ hok (by omega) hG).mono fun e W' ⟨he, bel⟩ => ?_
  subst he
  exact ⟨_, rfl, _, _, _, [], _, [], hW', trodAll_mk1 (shut_bool Tryd.underlying4 _), trodAll_mk1 (Below.trod laidOut (by kernel_rfl) (of_decide_eq_true (by kernel_rfl)) h0 bel hlt), rfl, bel.frame _, fun h => by cases h⟩

theorem said : Rows.ImageWritesUptoSaid :=
  OpenClaim.holds_of_cond 4 Tryd.f4 rfl rfl rfl rfl rfl rfl rfl ⟨rfl, rfl, rfl, rfl, rfl⟩ rfl rfl rfl rfl rfl (by kernel_rfl) Tryd.func4 (by kernel_rfl)
    (of_decide_eq_true (by kernel_rfl)) (by unfold Func.isWrapper; first | (rw [if_pos (by decide +kernel)]; kernel_rfl) | (rw [if_neg (by decide +kernel)]; exact ⟨rfl, rfl⟩))
    (fun os started H enc _ F => by rw [OpenClaim.pre_eq_preRow]; exact lifted os started H enc F)
theorem plain (f : FuncId) (fn : Func) (hf : Tryd.pinned.checked.prog.funcNamed "anvil/anvillaw02.ImageWrites" = some f) (hfn : Tryd.pinned.checked.prog.funcs[f]? = some fn) :
    false = Tryd.pinned.checked.prog.looks [] ∧ ∀ (j : Nat) t, fn.params[j]? = some t → Tryd.pinned.checked.prog.wantsStandIn t = false := by
  obtain rfl : f = 4 := Option.some.inj ((show Tryd.prog.funcNamed "anvil/anvillaw02.ImageWrites" = some 4 by kernel_rfl).symm.trans hf) |>.symm
  obtain rfl : fn = Tryd.f4 := (Option.some.inj (Tryd.func4.symm.trans hfn)).symm
  refine ⟨by kernel_rfl, fun j t ht => ?_⟩
  rw [Tryd.params4] at ht
  obtain rfl : t = 26 := by simpa using Array.mem_of_getElem? ht
  exact (show Tryd.prog.wantsStandIn 26 = false by kernel_rfl)
theorem imageWrites_holds : Rows.ImageWritesUptoCardSaid :=
  Claim7.holds_tied_plain_at .later [] _ _ _ _ said (fun _ h => by cases h) (by kernel_rfl) (fun _ h => by cases h) imageWritesUpto_row_tie rfl ⟨rfl, rfl⟩ (by kernel_rfl) rfl plain (by kernel_rfl)
#print axioms imageWrites_holds
end Go.Proofs.YtbnlifldnjgpmaaDoor.LawWri
