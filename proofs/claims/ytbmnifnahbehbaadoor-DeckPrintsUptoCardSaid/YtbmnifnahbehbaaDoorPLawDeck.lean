/- Proved: DeckPrints returns true for every deck whose bulk is at most 2^20: the program's text of a deck, and its error, are the document's; what was handed in is as it was. -/
import Derived.Test.YtbmnifnahbehbaaDoorPGr5
import Derived.Test.YtbmnifnahbehbaaDoorCards
import Derived.Test.YtbmnifnahbehbaaDoorTie
import Derived.Carry
import Derived.ChangeOld
import Derived.OpenShut
set_option linter.unusedVariables false
set_option linter.unusedSimpArgs false
namespace Go.Proofs.YtbmnifnahbehbaaDoor.LawDeck
open Go.ChangeShapes Go.WideShapes Go.ChangeAt Go.RowKit Go.Proofs.YtbmnifnahbehbaaDoorW.PrintWords
open PPr
def u64Z {H : Type} : DataW H := .lit (.int .u64 0)
/-- The zero deck's reading. -/
def zD {H : Type} : DataW H := .agg [.lit (.int .i64 0),
  .agg [u64Z, .agg (List.replicate 32 u64Z), .lit (.int .i64 0), .lit (.bool false), u64Z, u64Z, u64Z, u64Z, u64Z, u64Z, u64Z, u64Z, u64Z, u64Z, u64Z, u64Z, .agg [.agg (List.replicate 16 (.lit (.int .u8 0))), .agg (List.replicate 16 u64Z)], .agg [.lit (.bool false), u64Z, .lit (.int .i64 0)]],
  u64Z, .nil, .nil]
theorem reads (os : Os) {H : Type} (enc : TypeId × Value → H) : ∃ places, DataW.whole enc Tryd.prog (laidMem os #[.agg Tryd.zeroCells35]) Tryd.f3.params.toList Rows.deckPrintsSpec.vars false (#[.agg Tryd.zeroCells35] : Array Value).toList 8 = some ([zD], [], places) :=
  ⟨[], by kernel_rfl⟩
theorem laid_list : Rows.deckPrintsUptoRow.laid = Rows.deckPrintsRow.laid := rfl
set_option maxRecDepth 100000 in
theorem lifted (os : Os) (started : os.Started) (H : Type) (enc : TypeId × Value → H) (F : Stop.Interp) :
    ReturnsInHanded {} Tryd.checked os 3 .any ((Rows.OpenSpec.upto Rows.deckPrintsSpec).preRow enc Tryd.prog Tryd.f3 Rows.deckPrintsUptoRow.domain false Rows.deckPrintsUptoRow.laid) (((Rows.OpenSpec.upto Rows.deckPrintsSpec).at F).post enc Tryd.prog Tryd.f3 false true false false) := by
  obtain ⟨places, hx⟩ := reads os enc
  refine returnsInHanded_of_row (C := Tryd.checked) (s := Rows.OpenSpec.upto Rows.deckPrintsSpec) own started (by kernel_rfl) Tryd.func3
    (witness_row_atRef (enc := enc) (C := Tryd.checked) false (laidWorld os) #[.agg Tryd.zeroCells35] rfl (by kernel_rfl) (by kernel_rfl) (by kernel_rfl)
      (OpenSpec.preRow_of_cond 8 hx (by kernel_rfl) (fun k hk => by cases hk; kernel_rfl) (by kernel_rfl) (met_deck os _))) ?_
  intro W base args ds gs before hval0 hW _ hcond _ hL _ _
  have hval : ∀ (j : Nat) t v, Tryd.f3.params[j]? = some t → args[j]? = some v → Value.okWide Tryd.prog W .any base t v := hval0
  have hW' := hW
  obtain ⟨p, q, hA0, hV, rfl, hfz, hnd⟩ := hW
  have hA : DataW.TrodAll enc Tryd.prog W 0 (fun _ => true) true Tryd.f3.params.toList args.toList ds p := hA0
  rw [Tryd.params3] at hA hval
  have hlt : ∀ x ∈ p, x.block < W.heap.size := hA.lt
  obtain ⟨v0, d0, rfl, rfl, h0⟩ := trodAll_one hA
  obtain ⟨rfl, rfl⟩ := trodVars_none hV
  have hv0 := hval 0 35 v0 rfl rfl
  unfold Value.okWide at hv0
  rw [Tryd.underlying35] at hv0
  obtain ⟨cs, hcs, _⟩ := hv0
  obtain ⟨fuel, h0f⟩ := id h0
  have hb : Rows.uptoBulkAll [d0] ≤ 1048576 := of_decide_eq_true (hcond _ rfl)
  simp only [Rows.uptoBulkAll] at hb
  obtain ⟨ram, c, mt, ps, ws, Ap, cp, Aw, cw, he, hC1, hC2, hok⟩ := deck_open h0f (by omega)
  have hL : laidMet Tryd.prog Rows.deckPrintsRow.laid W := hL
  have hG : Glob W := glob_of
    (Lib.laidMet.reads hL (.tail _ (.tail _ (.tail _ (.tail _ (.tail _ (.tail _ (.tail _ (.tail _ (.tail _ (.head _)))))))))))
    (Lib.laidMet.reads hL (.tail _ (.tail _ (.tail _ (.tail _ (.tail _ (.tail _ (.tail _ (.head _)))))))))
    (Lib.laidMet.reads hL (.tail _ (.tail _ (.tail _ (.head _)))))
    (Lib.laidMet.reads hL (.tail _ (.tail _ (.tail _ (.tail _ (.tail _ (.head _)))))))
    (Lib.laidMet.reads hL (.tail _ (.tail _ (.tail _ (.tail _ (.head _))))))
    (Lib.laidMet.reads hL (.head _))
    (Lib.laidMet.reads hL (.tail _ (.head _)))
    (Lib.laidMet.reads hL (.tail _ (.tail _ (.tail _ (.tail _ (.tail _ (.tail _ (.tail _ (.tail _ (.head _))))))))))
    (Lib.laidMet.reads hL (.tail _ (.tail _ (.head _))))
  have hve : v0 = .agg (dkA ram c mt (.slice Ap ps.length cp) (.slice Aw ws.length cw)) := by
    rw [hcs] at he ⊢
    have h1 : cs.toList = (dkA ram c mt (.slice Ap ps.length cp) (.slice Aw ws.length cw)).toList := he
    rw [Array.toList_inj.1 h1]
  have hcall : Calls Tryd.prog 3 #[v0] W fun e W' => e = .returned (.bool true) ∧ Below W.heap.size W W' := by
    rw [hve]
    exact deck_c ram c mt ps ws hok Ap Aw cp cw W hG hC1 hC2
  refine hcall.mono fun e W' ⟨he, bel⟩ => ?_
  subst he
  exact ⟨_, rfl, _, _, _, [], _, [], hW', trodAll_mk1 (shut_bool Tryd.underlying4 _), trodAll_mk1 (Below.trod laidOut (by kernel_rfl) (of_decide_eq_true (by kernel_rfl)) h0 bel hlt), rfl, bel.frame _, fun h => by cases h⟩
theorem said : Rows.DeckPrintsUptoSaid :=
  OpenClaim.holds_of_cond 3 Tryd.f3 rfl rfl rfl rfl rfl rfl rfl ⟨rfl, rfl, rfl, rfl, rfl⟩ rfl rfl rfl rfl rfl (by kernel_rfl) Tryd.func3 (by kernel_rfl)
    (of_decide_eq_true (by kernel_rfl)) (by unfold Func.isWrapper; first | (rw [if_pos (by decide +kernel)]; kernel_rfl) | (rw [if_neg (by decide +kernel)]; exact ⟨rfl, rfl⟩))
    (fun os started H enc _ F => by rw [OpenClaim.pre_eq_preRow]; exact lifted os started H enc F)
theorem plain (f : FuncId) (fn : Func) (hf : Tryd.pinned.checked.prog.funcNamed "anvil/anvillaw14.DeckPrints" = some f) (hfn : Tryd.pinned.checked.prog.funcs[f]? = some fn) :
    false = Tryd.pinned.checked.prog.looks [] ∧ ∀ (j : Nat) t, fn.params[j]? = some t → Tryd.pinned.checked.prog.wantsStandIn t = false := by
  obtain rfl : f = 3 := Option.some.inj ((show Tryd.prog.funcNamed "anvil/anvillaw14.DeckPrints" = some 3 by kernel_rfl).symm.trans hf) |>.symm
  obtain rfl : fn = Tryd.f3 := (Option.some.inj (Tryd.func3.symm.trans hfn)).symm
  refine ⟨by kernel_rfl, fun j t ht => ?_⟩
  rw [Tryd.params3] at ht
  have hm := Array.mem_of_getElem? ht
  simp only [List.mem_toArray, List.mem_cons, List.not_mem_nil, or_false] at hm
  rcases hm with rfl
  · exact (show Tryd.prog.wantsStandIn 35 = false by kernel_rfl)
theorem deckPrints_holds : Rows.DeckPrintsUptoCardSaid :=
  Claim7.holds_tied_plain_at .later [] _ _ _ _ said (fun _ h => by cases h) (by kernel_rfl) (fun _ h => by cases h) deckPrintsUpto_row_tie rfl ⟨rfl, rfl⟩ (by kernel_rfl) rfl plain (by kernel_rfl)
#print axioms deckPrints_holds
end Go.Proofs.YtbmnifnahbehbaaDoor.LawDeck
