/- Proved: AsmValues returns true for every expression and all names whose bulk is at most 2^20: asm's value of the expression, or its first fault, place and reason, is the document's; the names stay as they are. -/
import Derived.Test.YtbmnifnahbehbaaGreatDoorPGr8
import Derived.Test.YtbmnifnahbehbaaGreatDoorCards
import Derived.Test.YtbmnifnahbehbaaGreatDoorTie
import Derived.Carry
import Derived.ChangeOld
import Derived.OpenShut
import Derived.ShutString
set_option linter.unusedVariables false
set_option linter.unusedSimpArgs false
namespace Go.Proofs.YtbmnifnahbehbaaGreatDoor.LawAsm
open Go.ChangeShapes Go.WideShapes Go.ChangeAt Go.RowKit Go.Proofs.YtbmnifnahbehbaaGreatDoorW.PrintWords
open Go.ChangeMaps (open_string shut_string)

def okN (l : List (ByteArray × Int)) : Prop := ∀ x ∈ l, True ∧ (Lit.int .u64 x.2).wf = true
def wN (l : List (ByteArray × Int)) : Nat := (l.map (fun x => x.1.size + 1 + 1 + 1)).sum + 1
set_option maxRecDepth 100000 in
theorem oSym : Opens Tryz.prog 37 (Kd.iso k37 (fun x => x)) (fun x => True ∧ (Lit.int .u64 x.2).wf = true) (fun x => x.1.size + 1 + 1 + 1) :=
  Opens.struct (fun x : ByteArray × Int => x) (fun a => ⟨a, rfl⟩) Tryz.underlying37 (by kernel_rfl) (Fields.cons rfl (Opens.string Tryz.underlying9 (by kernel_rfl)) (Fields.one rfl (Opens.int Tryz.underlying23 (by kernel_rfl))))
theorem oNames : Opens Tryz.prog 22 (Kd.slice 37 (Kd.iso k37 (fun x => x))) okN wN := Opens.slice Tryz.underlying22 (by kernel_rfl) oSym
theorem range_of {l : List (ByteArray × Int)} (h : okN l) : ∀ y ∈ l, 0 ≤ y.2 ∧ y.2 < 18446744073709551616 := fun x hx => by
  have h1 := (h x hx).2
  unfold Lit.wf at h1
  have e : IntKind.u64.min = 0 := by kernel_rfl
  have e2 : IntKind.u64.max = 18446744073709551615 := by kernel_rfl
  simp [e, e2] at h1
  omega
theorem wN_len (l : List (ByteArray × Int)) : l.length ≤ wN l := by
  unfold wN
  induction l with
  | nil => exact Nat.zero_le _
  | cons x l ih => simp only [List.map_cons, List.sum_cons, List.length_cons] at *; omega

/-! ### the row -/
theorem walk (W : World) (s : ByteArray) (A : Option Addr) (n c : Nat) (l : List (ByteArray × Int)) (hv : (Kd.slice 37 (Kd.iso k37 (fun x => x))).K W l [.slice A n c]) (hx : okN l) (hw : wN l ≤ 1048576) (hG : Glob W) (hE : ErrT W) :
    Calls Tryz.prog 3 #[.string s, .slice A n c] W fun e W' => e = .returned (.bool true) ∧ Below W.heap.size W W' := by
  obtain ⟨A1, n1, e1, l1, r1⟩ := hv
  injection e1 with e1 _
  injection e1 with e1 e2 e3
  subst e1 e2 e3
  have hr1 : Kd.C k37 W A l.length l := r1
  exact asmValues_c hG hE hr1 (by have := wN_len l; omega) (range_of hx)

theorem reads (os : Os) {H : Type} (enc : TypeId × Value → H) : ∃ places, DataW.whole enc Tryz.prog (laidMem os #[.string ⟨#[]⟩, .slice none 0 0]) Tryz.f3.params.toList Rows.asmValuesSpec.vars false #[Value.string ⟨#[]⟩, Value.slice none 0 0].toList 8 = some ([.lit (.string []), .nil], [], places) :=
  ⟨[], by kernel_rfl⟩

theorem laid_list : Rows.asmValuesUptoRow.laid = theList := theList_eq
theorem laid_row (os : Os) (args : Array Value) : laidMetH Tryz.prog Rows.asmValuesUptoRow.laid (laidMem os args) := by
  rw [laid_list]
  exact laid_metH os args
set_option maxRecDepth 100000 in
theorem lifted (os : Os) (started : os.Started) (H : Type) (enc : TypeId × Value → H) (F : Stop.Interp) :
    ReturnsInHanded {} Tryz.checked os 3 .any ((Rows.OpenSpec.upto Rows.asmValuesSpec).preRow enc Tryz.prog Tryz.f3 Rows.asmValuesUptoRow.domain false Rows.asmValuesUptoRow.laid) (((Rows.OpenSpec.upto Rows.asmValuesSpec).at F).post enc Tryz.prog Tryz.f3 false true false false) := by
  obtain ⟨places, hx⟩ := reads os enc
  refine returnsInHanded_of_row (C := Tryz.checked) (s := Rows.OpenSpec.upto Rows.asmValuesSpec) own started (by kernel_rfl) Tryz.func3
    (witness_row_atRef (enc := enc) (C := Tryz.checked) false (laidWorld os) #[.string ⟨#[]⟩, .slice none 0 0] rfl (by kernel_rfl) (by kernel_rfl) (by kernel_rfl)
      (OpenSpec.preRow_of_cond 8 hx (by kernel_rfl) (fun k hk => by cases hk; kernel_rfl) (by kernel_rfl) (laid_row os _))) ?_
  intro W base args ds gs before hval0 hW _ hcond _ hL _ _
  have hval : ∀ (j : Nat) t v, Tryz.f3.params[j]? = some t → args[j]? = some v → Value.okWide Tryz.prog W .any base t v := hval0
  have hW' := hW
  obtain ⟨p, q, hA0, hV, rfl, hfz, hnd⟩ := hW
  have hA : DataW.TrodAll enc Tryz.prog W 0 (fun _ => true) true Tryz.f3.params.toList args.toList ds p := hA0
  rw [Tryz.params3] at hA hval
  have hlt : ∀ x ∈ p, x.block < W.heap.size := hA.lt
  obtain ⟨v0, vs0, d0, ds0, p0, q0, hargs0, rfl, rfl, h0, r0⟩ := trodAll_cons hA
  obtain ⟨v1, vs1, d1, ds1, p1, q1, rfl, rfl, rfl, h1, r1⟩ := trodAll_cons r0
  obtain ⟨rfl, rfl, rfl⟩ := trodAll_nil r1
  obtain rfl : args = #[v0, v1] := by cases args; simp_all
  obtain ⟨rfl, rfl⟩ := trodVars_none hV
  obtain ⟨s, rfl, rfl, rfl, w0⟩ := open_string Tryz.underlying9 (hval 0 9 v0 rfl rfl) h0
  have hv1 := hval 1 22 v1 rfl rfl
  unfold Value.okWide at hv1
  rw [Tryz.underlying22] at hv1
  have hv2 : Cell.okWide Tryz.prog W Reach.any base 22 v1 := hv1
  obtain ⟨A0, n0, c0, rfl⟩ : ∃ A n c, v1 = Value.slice A n c := by
    unfold Cell.okWide Cell.ok at hv2
    rw [Tryz.underlying22] at hv2
    cases v1 with
    | slice A n c => exact ⟨A, n, c, rfl⟩
    | _ => exact hv2.elim
  obtain ⟨fuel, h1f⟩ := id h1
  obtain ⟨x, hk, hok, hwt0⟩ := oNames.op h1f
  have hwt : wN x ≤ Rows.uptoBulk d1 := hwt0
  have hb : Rows.uptoBulkAll [DataW.lit (.string s.data.toList), d1] ≤ 1048576 := of_decide_eq_true (hcond _ rfl)
  simp only [Rows.uptoBulkAll] at hb
  have hL2 := split_laid (laid_list ▸ hL)
  have hG : Glob W := glob_of_rest hL2.1
  have hE : ErrT W := errT_of_laid hL2.2
  refine (walk W s A0 n0 c0 x hk hok (by omega) hG hE).mono fun e W' ⟨he, bel⟩ => ?_
  subst he
  exact ⟨_, rfl, _, _, _, [], _, [], hW', trodAll_mk1 (shut_bool Tryz.underlying4 _), (trodAll_cons_mk (shut_string Tryz.underlying9 w0) (trodAll_mk1 (Below.trod laidOut (by kernel_rfl) (of_decide_eq_true (by kernel_rfl)) h1 bel (fun x hx => hlt x (List.mem_append_right _ (List.mem_append_left _ hx)))))), rfl, bel.frame _, fun h => by cases h⟩

theorem said : Rows.AsmValuesUptoSaid :=
  OpenClaim.holds_of_cond 3 Tryz.f3 rfl rfl rfl rfl rfl rfl rfl ⟨rfl, rfl, rfl, rfl, rfl⟩ rfl rfl rfl rfl rfl (by kernel_rfl) Tryz.func3 (by kernel_rfl)
    (of_decide_eq_true (by kernel_rfl)) (by unfold Func.isWrapper; first | (rw [if_pos (by decide +kernel)]; kernel_rfl) | (rw [if_neg (by decide +kernel)]; exact ⟨rfl, rfl⟩))
    (fun os started H enc _ F => by rw [OpenClaim.pre_eq_preRow]; exact lifted os started H enc F)
theorem plain (f : FuncId) (fn : Func) (hf : Tryz.pinned.checked.prog.funcNamed "anvil/anvillaw08.AsmValues" = some f) (hfn : Tryz.pinned.checked.prog.funcs[f]? = some fn) :
    true = Tryz.pinned.checked.prog.looks [] ∧ ∀ (j : Nat) t, fn.params[j]? = some t → Tryz.pinned.checked.prog.wantsStandIn t = false := by
  obtain rfl : f = 3 := Option.some.inj ((show Tryz.prog.funcNamed "anvil/anvillaw08.AsmValues" = some 3 by kernel_rfl).symm.trans hf) |>.symm
  obtain rfl : fn = Tryz.f3 := (Option.some.inj (Tryz.func3.symm.trans hfn)).symm
  refine ⟨by kernel_rfl, fun j t ht => ?_⟩
  rw [Tryz.params3] at ht
  have hm := Array.mem_of_getElem? ht
  simp only [List.mem_toArray, List.mem_cons, List.not_mem_nil, or_false] at hm
  rcases hm with rfl | rfl
  · exact (show Tryz.prog.wantsStandIn 9 = false by kernel_rfl)
  · exact (show Tryz.prog.wantsStandIn 22 = false by kernel_rfl)
theorem asmValues_holds : Rows.AsmValuesUptoCardSaid :=
  Claim7.holds_tied_plain_at .later [] _ _ _ _ said (fun _ h => by cases h) (by kernel_rfl) (fun _ h => by cases h) asmValuesUpto_row_tie rfl ⟨rfl, rfl⟩ (by kernel_rfl) rfl plain (by kernel_rfl)
#print axioms asmValues_holds
end Go.Proofs.YtbmnifnahbehbaaGreatDoor.LawAsm
