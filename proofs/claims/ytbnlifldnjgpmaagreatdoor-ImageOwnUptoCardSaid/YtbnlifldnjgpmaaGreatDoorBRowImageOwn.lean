/- Proved: ImageOwn returns true for every image whose bulk is at most 2^20: what Write and Read hand out is nobody else's. -/
import Derived.Test.YtbnlifldnjgpmaaGreatDoorBLawOw
import Derived.Test.YtbnlifldnjgpmaaGreatDoorBGr6
import Derived.Test.YtbnlifldnjgpmaaGreatDoorCards
import Derived.Test.YtbnlifldnjgpmaaGreatDoorTie
import Derived.Carry
import Derived.ChangeOld
import Derived.OpenShut
set_option linter.unusedVariables false
set_option linter.unusedSimpArgs false
namespace Go.Proofs.YtbnlifldnjgpmaaGreatDoor.RowImageOwn
open Go.ChangeShapes Go.WideShapes Go.ChangeAt Go.RowKit Go.Proofs.YtbnlifldnjgpmaaGreatDoorW.PrintWords
open PWri

theorem reads (os : Os) {H : Type} (enc : TypeId × Value → H) : ∃ places, DataW.whole enc Tryz.prog (laidMem os #[.agg #[.int .u64 0, .slice none 0 0, .slice none 0 0]]) Tryz.f8.params.toList Rows.imageOwnSpec.vars false (#[.agg #[.int .u64 0, .slice none 0 0, .slice none 0 0]] : Array Value).toList 8 = some ([.agg [.lit (.int .u64 0), .nil, .nil]], [], places) :=
  ⟨[], by kernel_rfl⟩
theorem laid_list : Rows.imageOwnUptoRow.laid = theList := theList_eq
theorem laid_row (os : Os) (args : Array Value) : laidMetH Tryz.prog Rows.imageOwnUptoRow.laid (laidMem os args) := by
  rw [laid_list]
  exact laid_metH os args
set_option maxRecDepth 100000 in
theorem lifted (os : Os) (started : os.Started) (H : Type) (enc : TypeId × Value → H) (F : Stop.Interp) :
    ReturnsInHanded {} Tryz.checked os 8 .any ((Rows.OpenSpec.upto Rows.imageOwnSpec).preRow enc Tryz.prog Tryz.f8 Rows.imageOwnUptoRow.domain false Rows.imageOwnUptoRow.laid) (((Rows.OpenSpec.upto Rows.imageOwnSpec).at F).post enc Tryz.prog Tryz.f8 false true false false) := by
  obtain ⟨places, hx⟩ := reads os enc
  refine returnsInHanded_of_row (C := Tryz.checked) (s := Rows.OpenSpec.upto Rows.imageOwnSpec) own started (by kernel_rfl) Tryz.func8
    (witness_row_atRef (enc := enc) (C := Tryz.checked) false (laidWorld os) #[.agg #[.int .u64 0, .slice none 0 0, .slice none 0 0]] rfl (by kernel_rfl) (by kernel_rfl) (by kernel_rfl)
      (OpenSpec.preRow_of_cond 8 hx (by kernel_rfl) (fun k hk => by cases hk; kernel_rfl) (by kernel_rfl) (laid_row os _))) ?_
  intro W base args ds gs before hval0 hW _ hcond _ hL _ _
  have hval : ∀ (j : Nat) t v, Tryz.f8.params[j]? = some t → args[j]? = some v → Value.okWide Tryz.prog W .any base t v := hval0
  have hW' := hW
  obtain ⟨p, q, hA0, hV, rfl, hfz, hnd⟩ := hW
  have hA : DataW.TrodAll enc Tryz.prog W 0 (fun _ => true) true Tryz.f8.params.toList args.toList ds p := hA0
  rw [Tryz.params8] at hA hval
  have hlt : ∀ x ∈ p, x.block < W.heap.size := hA.lt
  obtain ⟨v0, d0, rfl, rfl, h0⟩ := trodAll_one hA
  obtain ⟨rfl, rfl⟩ := trodVars_none hV
  have hv0 := hval 0 28 v0 rfl rfl
  unfold Value.okWide at hv0
  rw [Tryz.underlying28] at hv0
  obtain ⟨cs, hcs, _⟩ := hv0
  obtain ⟨fuel, h0f⟩ := id h0
  obtain ⟨x, hk, hok, hwt0⟩ := oImage.op h0f
  have hwt : wIm x ≤ Rows.uptoBulk d0 := hwt0
  obtain ⟨A1, n1, A2, n2, hve, hC1, hC2⟩ := im_form hk ⟨cs, hcs⟩
  have hb : Rows.uptoBulkAll [d0] ≤ 1048576 := of_decide_eq_true (hcond _ rfl)
  simp only [Rows.uptoBulkAll] at hb
  have hL2 := split_laid (laid_list ▸ hL)
  have hG : Glob W := glob_of_rest hL2.1
  have hE : ErrT W := errT_of_laid hL2.2
  have hwx : wIm x ≤ 1048576 := by omega
  have hcall : Calls Tryz.prog 8 #[v0] W fun e W' => e = .returned (.bool true) ∧ Below W.heap.size W W' := by
    rw [hve]
    exact imageOwn_c (small_of hwx) (numsL_of hok hwx) (im_bytes hok) W hC1.1 hC1.2 hC2.1 hC2.2 hG hE
  refine hcall.mono fun e W' ⟨he, bel⟩ => ?_
  subst he
  exact ⟨_, rfl, _, _, _, [], _, [], hW', trodAll_mk1 (shut_bool Tryz.underlying4 _), trodAll_mk1 (Below.trod laidOut (by kernel_rfl) (of_decide_eq_true (by kernel_rfl)) h0 bel hlt), rfl, bel.frame _, fun h => by cases h⟩
theorem said : Rows.ImageOwnUptoSaid :=
  OpenClaim.holds_of_cond 8 Tryz.f8 rfl rfl rfl rfl rfl rfl rfl ⟨rfl, rfl, rfl, rfl, rfl⟩ rfl rfl rfl rfl rfl (by kernel_rfl) Tryz.func8 (by kernel_rfl)
    (of_decide_eq_true (by kernel_rfl)) (by unfold Func.isWrapper; first | (rw [if_pos (by decide +kernel)]; kernel_rfl) | (rw [if_neg (by decide +kernel)]; exact ⟨rfl, rfl⟩))
    (fun os started H enc _ F => by rw [OpenClaim.pre_eq_preRow]; exact lifted os started H enc F)
theorem plain (f : FuncId) (fn : Func) (hf : Tryz.pinned.checked.prog.funcNamed "anvil/anvillaw02.ImageOwn" = some f) (hfn : Tryz.pinned.checked.prog.funcs[f]? = some fn) :
    true = Tryz.pinned.checked.prog.looks [] ∧ ∀ (j : Nat) t, fn.params[j]? = some t → Tryz.pinned.checked.prog.wantsStandIn t = false := by
  obtain rfl : f = 8 := Option.some.inj ((show Tryz.prog.funcNamed "anvil/anvillaw02.ImageOwn" = some 8 by kernel_rfl).symm.trans hf) |>.symm
  obtain rfl : fn = Tryz.f8 := (Option.some.inj (Tryz.func8.symm.trans hfn)).symm
  refine ⟨by kernel_rfl, fun j t ht => ?_⟩
  rw [Tryz.params8] at ht
  have hm := Array.mem_of_getElem? ht
  simp only [List.mem_toArray, List.mem_cons, List.not_mem_nil, or_false] at hm
  rcases hm with rfl
  · exact (show Tryz.prog.wantsStandIn 28 = false by kernel_rfl)
theorem imageOwn_holds : Rows.ImageOwnUptoCardSaid :=
  Claim7.holds_tied_plain_at .later [] _ _ _ _ said (fun _ h => by cases h) (by kernel_rfl) (fun _ h => by cases h) imageOwnUpto_row_tie rfl ⟨rfl, rfl⟩ (by kernel_rfl) rfl plain (by kernel_rfl)
#print axioms imageOwn_holds
end Go.Proofs.YtbnlifldnjgpmaaGreatDoor.RowImageOwn
