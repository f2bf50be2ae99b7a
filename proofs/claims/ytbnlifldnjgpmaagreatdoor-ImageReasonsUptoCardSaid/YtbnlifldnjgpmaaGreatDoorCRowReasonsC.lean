/- Proved: ImageReasons returns true for every row of bytes of length at most 2^20: errors.Is finds the reason of every refusal. -/
import Derived.Test.YtbnlifldnjgpmaaGreatDoorCLawRsC
import Derived.Test.YtbnlifldnjgpmaaGreatDoorCGr5
import Derived.Test.YtbnlifldnjgpmaaGreatDoorCards
import Derived.Test.YtbnlifldnjgpmaaGreatDoorTie
import Derived.Carry
import Derived.ChangeOld
import Derived.OpenShut
set_option linter.unusedVariables false
set_option linter.unusedSimpArgs false
namespace Go.Proofs.YtbnlifldnjgpmaaGreatDoor.PWri
open Go.ChangeShapes Go.WideShapes Go.ChangeAt Go.RowKit Go.Proofs.YtbnlifldnjgpmaaGreatDoorW.PrintWords
def okI (k : IntKind) (n : Int) : Prop := (Lit.int k n).wf = true
def okData (l : List Int) : Prop := ∀ x ∈ l, okI .u8 x
def wData (l : List Int) : Nat := (l.map (fun _ => 1)).sum + 1
theorem oData : Opens Tryz.prog 22 (Kd.slice 5 (Kd.int .u8)) okData wData := Opens.slice Tryz.underlying22 (by kernel_rfl) (Opens.int Tryz.underlying5 (by kernel_rfl))
theorem sum_len {α : Type} (f : α → Nat) (h : ∀ x, 1 ≤ f x) : ∀ l : List α, l.length ≤ (l.map f).sum
 | [] => by simp
 | a :: l => by
  have := sum_len f h l
  have := h a
  simp only [List.map_cons, List.sum_cons, List.length_cons]
  omega
theorem bytes_ok {l : List Int} (h : okData l) : Bytes l := fun x hx => by
 have h1 := h x hx
 unfold okI Lit.wf at h1
 have e : IntKind.u8.min = 0 := by kernel_rfl
 have e2 : IntKind.u8.max = 255 := by kernel_rfl
 simp [e, e2] at h1
 omega
theorem wData_le (l : List Int) : l.length ≤ wData l := by
 unfold wData
 have := sum_len (fun _ : Int => 1) (fun _ => Nat.le_refl _) l
 omega
end Go.Proofs.YtbnlifldnjgpmaaGreatDoor.PWri
namespace Go.Proofs.YtbnlifldnjgpmaaGreatDoor.RowReasonsC
open Go.ChangeShapes Go.WideShapes Go.ChangeAt Go.RowKit Go.Proofs.YtbnlifldnjgpmaaGreatDoorW.PrintWords
open PWri
theorem reads (os : Os) {H : Type} (enc : TypeId × Value → H) : ∃ places, DataW.whole enc Tryz.prog (laidMem os #[.slice none 0 0]) Tryz.f9.params.toList Rows.imageReasonsSpec.vars false (#[.slice none 0 0] : Array Value).toList 8 = some ([.nil], [], places) :=
 ⟨[], by kernel_rfl⟩
theorem laid_list : Rows.imageReasonsUptoRow.laid = theList := theList_eq
theorem laid_row (os : Os) (args : Array Value) : laidMetH Tryz.prog Rows.imageReasonsUptoRow.laid (laidMem os args) := by
 rw [laid_list]
 exact laid_metH os args
set_option maxRecDepth 100000 in
theorem lifted (os : Os) (started : os.Started) (H : Type) (enc : TypeId × Value → H) (F : Stop.Interp) :
 ReturnsInHanded {} Tryz.checked os 9 .any ((Rows.OpenSpec.upto Rows.imageReasonsSpec).preRow enc Tryz.prog Tryz.f9 Rows.imageReasonsUptoRow.domain false Rows.imageReasonsUptoRow.laid) (((Rows.OpenSpec.upto Rows.imageReasonsSpec).at F).post enc Tryz.prog Tryz.f9 false true false false) := by
 obtain ⟨places, hx⟩ := reads os enc
 refine returnsInHanded_of_row (C := Tryz.checked) (s := Rows.OpenSpec.upto Rows.imageReasonsSpec) own started (by kernel_rfl) Tryz.func9
  (witness_row_atRef (enc := enc) (C := Tryz.checked) false (laidWorld os) #[.slice none 0 0] rfl (by kernel_rfl) (by kernel_rfl) (by kernel_rfl)
   (OpenSpec.preRow_of_cond 8 hx (by kernel_rfl) (fun k hk => by cases hk; kernel_rfl) (by kernel_rfl) (laid_row os _))) ?_
 intro W base args ds gs before hval0 hW _ hcond _ hL _ _
 have hval : ∀ (j : Nat) t v, Tryz.f9.params[j]? = some t → args[j]? = some v → Value.okWide Tryz.prog W .any base t v := hval0
 have hW' := hW
 obtain ⟨p, q, hA0, hV, rfl, hfz, hnd⟩ := hW
 have hA : DataW.TrodAll enc Tryz.prog W 0 (fun _ => true) true Tryz.f9.params.toList args.toList ds p := hA0
 rw [Tryz.params9] at hA hval
 have hlt : ∀ x ∈ p, x.block < W.heap.size := hA.lt
 obtain ⟨v0, d0, rfl, rfl, h0⟩ := trodAll_one hA
 obtain ⟨rfl, rfl⟩ := trodVars_none hV
 have hv0 := hval 0 22 v0 rfl rfl
 unfold Value.okWide at hv0
 rw [Tryz.underlying22] at hv0
 have hv1 : Cell.okWide Tryz.prog W Reach.any base 22 v0 := hv0
 obtain ⟨A0, n0, c0, rfl⟩ : ∃ A n c, v0 = Value.slice A n c := by
  unfold Cell.okWide Cell.ok at hv1
  rw [Tryz.underlying22] at hv1
  cases v0 with
  | slice A n c => exact ⟨A, n, c, rfl⟩
  | _ => exact hv1.elim
 obtain ⟨fuel, h0f⟩ := id h0
 obtain ⟨x, hk, hok, hwt0⟩ := oData.op h0f
 have hwt : wData x ≤ Rows.uptoBulk d0 := hwt0
 obtain ⟨A1, n1, e1, l1, r1⟩ := hk
 injection e1 with e1 _
 injection e1 with e1 e2 e3
 subst e1 e2 e3
 have hb : Rows.uptoBulkAll [d0] ≤ 1048576 := of_decide_eq_true (hcond _ rfl)
 simp only [Rows.uptoBulkAll] at hb
 have hL2 := split_laid (laid_list ▸ hL)
 have hG : Glob W := glob_of_rest hL2.1
 have hE : ErrT W := errT_of_laid hL2.2
 have hwx : wData x ≤ 1048576 := by omega
 have hcall : Calls Tryz.prog 9 #[.slice A0 x.length c0] W fun e W' => e = .returned (.bool true) ∧ Below W.heap.size W W' := 
  imageReasons_c (bytes_ok hok) (Nat.le_trans (wData_le x) hwx) l1 W r1 hG hE
 refine hcall.mono fun e W' ⟨he, bel⟩ => ?_
 subst he
 exact ⟨_, rfl, _, _, _, [], _, [], hW', trodAll_mk1 (shut_bool Tryz.underlying4 _), trodAll_mk1 (Below.trod laidOut (by kernel_rfl) (of_decide_eq_true (by kernel_rfl)) h0 bel hlt), rfl, bel.frame _, fun h => by cases h⟩
theorem said : Rows.ImageReasonsUptoSaid :=
 OpenClaim.holds_of_cond 9 Tryz.f9 rfl rfl rfl rfl rfl rfl rfl ⟨rfl, rfl, rfl, rfl, rfl⟩ rfl rfl rfl rfl rfl (by kernel_rfl) Tryz.func9 (by kernel_rfl)
  (of_decide_eq_true (by kernel_rfl)) (by unfold Func.isWrapper; first | (rw [if_pos (by decide +kernel)]; kernel_rfl) | (rw [if_neg (by decide +kernel)]; exact ⟨rfl, rfl⟩))
  (fun os started H enc _ F => by rw [OpenClaim.pre_eq_preRow]; exact lifted os started H enc F)
theorem plain (f : FuncId) (fn : Func) (hf : Tryz.pinned.checked.prog.funcNamed "anvil/anvillaw02.ImageReasons" = some f) (hfn : Tryz.pinned.checked.prog.funcs[f]? = some fn) :
 true = Tryz.pinned.checked.prog.looks [] ∧ ∀ (j : Nat) t, fn.params[j]? = some t → Tryz.pinned.checked.prog.wantsStandIn t = false := by
 obtain rfl : f = 9 := Option.some.inj ((show Tryz.prog.funcNamed "anvil/anvillaw02.ImageReasons" = some 9 by kernel_rfl).symm.trans hf) |>.symm
 obtain rfl : fn = Tryz.f9 := (Option.some.inj (Tryz.func9.symm.trans hfn)).symm
 refine ⟨by kernel_rfl, fun j t ht => ?_⟩
 rw [Tryz.params9] at ht
 have hm := Array.mem_of_getElem? ht
 simp only [List.mem_toArray, List.mem_cons, List.not_mem_nil, or_false] at hm
 rcases hm with rfl
 ·exact (show Tryz.prog.wantsStandIn 22 = false by kernel_rfl)
theorem imageReasons_holds : Rows.ImageReasonsUptoCardSaid :=
 Claim7.holds_tied_plain_at .later [] _ _ _ _ said (fun _ h => by cases h) (by kernel_rfl) (fun _ h => by cases h) imageReasonsUpto_row_tie rfl ⟨rfl, rfl⟩ (by kernel_rfl) rfl plain (by kernel_rfl)
#print axioms imageReasons_holds
end Go.Proofs.YtbnlifldnjgpmaaGreatDoor.RowReasonsC
