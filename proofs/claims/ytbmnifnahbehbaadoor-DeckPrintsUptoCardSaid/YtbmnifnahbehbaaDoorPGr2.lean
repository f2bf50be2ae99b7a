/- The text of a Cpu, in plain lists: its lines' words. -/
import Derived.Test.YtbmnifnahbehbaaDoorPGr1
import Derived.Test.YtbmnifnahbehbaaDoorPDk
import Derived.Test.YtbmnifnahbehbaaDoorPPrx5
import Derived.WalkKit
import Derived.Deep.LoopGhost
import Derived.Deep.RegionWith
import Derived.Deep.RegionHeld2
import Derived.Deep.RegionHeld3
import Derived.BigRegion
import Derived.Deep.DeepCutAuto
import Derived.Test.YtbmnifnahbehbaaDoorPPrx3
set_option linter.unusedVariables false
namespace Go.Proofs.YtbmnifnahbehbaaDoor
open Go.RowKit Go.Lib Go.Shelf Go.Proofs.YtbmnifnahbehbaaDoorW.PrintWords Go.Proofs.YtbmnifnahbehbaaDoorW.PrintMore Go.Proofs.YtbmnifnahbehbaaDoorW.PrintLast
open PPr
def hexB (v : Int) : ByteArray := (⟨#[48, 120]⟩ : ByteArray) ++ ⟨(hexL v.toNat).toArray⟩
def modeB (m : Int) : ByteArray := if m = 0 then ⟨#[117]⟩ else if m = 3 then ⟨#[109]⟩ else ⟨#[]⟩
def toldL : List Int := [768, 773, 772, 774, 800, 778, 832, 833, 834, 835, 2816, 2818]
def regB (i : Nat) : ByteArray := (speak_Reg.f i).getD ⟨#[]⟩
def csrB (k : Nat) : ByteArray := (speak_Csr.f 40 (toldL.getD k 0)).getD ⟨#[]⟩
def wPc : ByteArray := ⟨#[112, 99]⟩
def wMode : ByteArray := ⟨#[109, 111, 100, 101]⟩
def wWait : ByteArray := ⟨#[119, 97, 105, 116, 105, 110, 103]⟩
def wReg : ByteArray := ⟨#[114, 101, 103]⟩
def wCsr : ByteArray := ⟨#[99, 115, 114]⟩
def wPmp : ByteArray := ⟨#[112, 109, 112]⟩
def wRes : ByteArray := ⟨#[114, 101, 115]⟩
def regW (c : Cp) : Nat → List (List ByteArray)
  | 0 => []
  | k + 1 => regW c k ++ (if c (1 + k) = 0 then [] else [[wReg, regB k, hexB (c (1 + k))]])
def csrW (c z : Cp) : Nat → List (List ByteArray)
  | 0 => []
  | k + 1 => csrW c z k ++ (if c (35 + k) = z (35 + k) then [] else [[wCsr, csrB k, hexB (c (35 + k))]])
def pmpW (c : Cp) : Nat → List (List ByteArray)
  | 0 => []
  | k + 1 => pmpW c k ++ (if c (47 + k) = 0 ∧ c (63 + k) = 0 then [] else [[wPmp, itoaB k, hexB (c (47 + k)), hexB (c (63 + k))]])
def TX (ws : List (List ByteArray)) : List UInt8 := ws.flatMap lineL
theorem TX_snoc (l : List UInt8) (ws : List (List ByteArray)) (xs : List ByteArray) : l ++ TX ws ++ lineL xs = l ++ TX (ws ++ [xs]) := by
  unfold TX
  rw [List.flatMap_append, List.append_assoc]
  simp
theorem hexB_size {v : Int} (h : 0 ≤ v ∧ v < 18446744073709551616) : (hexB v).size ≤ 18 := by
  have h1 := hexL_len 16 v.toNat (by decide) (by have := h.2; omega)
  unfold hexB
  rw [ByteArray.size_append]
  show 2 + (hexL v.toNat).toArray.size ≤ 18
  simp
  omega
theorem hex_c {v : Int} (h : 0 ≤ v ∧ v < 18446744073709551616) (w : World) (hG : Glob w) : Calls Tryd.prog 11 #[.int .u64 v] w fun e w' => e = .returned (.string (hexB v)) ∧ Below w.heap.size w w' := by
  refine deck_hex.calls v (hexB v) w hG ?_
  have hs := hexB_size h
  unfold hexB at hs
  rw [ByteArray.size_append] at hs
  unfold deck_hex.f strconv_FormatUint_14.f
  rw [if_pos h, if_pos rfl]
  simp only [Option.bind_some]
  rw [if_pos]
  · rfl
  · have : (⟨#[48, 120]⟩ : ByteArray).size = 2 := rfl
    omega
theorem mode_c (m : Int) (w : World) : Calls Tryd.prog 33 #[.int .i64 m] w fun e w' => e = .returned (.string (modeB m)) ∧ Drawn0 w w' := by
  refine deck_modeName.calls m (modeB m) w ?_
  unfold deck_modeName.f modeB
  split
  · rfl
  split <;> rfl
theorem regB_ok : ∀ i : Fin 32, speak_Reg.f ((i.val : Nat) : Int) = some (regB i.val) := by decide +kernel
theorem reg_c {i : Nat} (h : i < 32) (w : World) (hG : Glob w) : Calls Tryd.prog 34 #[.int .i64 (i : Int)] w fun e w' => e = .returned (.string (regB i)) ∧ Below w.heap.size w w' :=
  speak_Reg.calls i (regB i) w hG (regB_ok ⟨i, h⟩)
theorem csrB_ok : ∀ i : Fin 12, speak_Csr.f 40 (toldL.getD i.val 0) = some (csrB i.val) := by decide +kernel
theorem csrn_c {i : Nat} (h : i < 12) (w : World) (hG : Glob w) : Calls Tryd.prog 37 #[.int .i64 (toldL.getD i 0)] w fun e w' => e = .returned (.string (csrB i)) ∧ Below w.heap.size w w' :=
  speak_Csr.calls 40 _ (csrB i) w hG (csrB_ok ⟨i, h⟩)
theorem told_c (w : World) : Calls Tryd.prog 35 #[] w fun e w' => ∃ v0_ : Value, e = .returned (v0_) ∧ Kd.R (Kd.int .i64) 3 w' w.heap.size (fun _ => True) v0_ toldL ∧ Below w.heap.size w w' :=
  deck_told.calls toldL w rfl
end Go.Proofs.YtbmnifnahbehbaaDoor

/- An element of a Cpu's registers, read by value. -/
set_option linter.unusedVariables false
namespace Go.Proofs.YtbmnifnahbehbaaDoor
open Go.RowKit Go.Lib Go.Proofs.YtbmnifnahbehbaaDoorW.PrintWords
theorem cell_x {i : Nat} (h : i < 32) (n : Int) : cellOf (1 + i) n = .int .u64 n := by unfold cellOf; rw [if_neg (by omega), if_neg (by omega), if_neg (by omega)]
theorem idx_x (c : Cp) (i : Nat) (h : i < 32) (W : World) : (Instr.index 23 (.agg (cellsL c 1 32).toArray) (.int .i64 (i : Int))).run Tryd.prog W = .ok (.int .u64 (c (1 + i))) W := by
  have hg : (cellsL c 1 32)[i]? = some (.int .u64 (c (1 + i))) := by rw [cellsL_get h, cell_x h]
  simp [Instr.index, Sem.run_bind, asIntOf, run_underlying Tryd.underlying23, h, part, Tryd.isAgg22, Tryd.sizeOf22, hg]
end Go.Proofs.YtbmnifnahbehbaaDoor

/- pmp.Proper and the document's: the sixteen entries such as can be. -/
set_option linter.unusedVariables false
namespace Go.Proofs.YtbmnifnahbehbaaDoor
open Go.RowKit Go.Lib Go.Proofs.YtbmnifnahbehbaaDoorW.PrintWords Go.Proofs.YtbmnifnahbehbaaDoorW.PrintMore Go.Proofs.YtbmnifnahbehbaaDoorW.PrintLast
open PPr
def byteS (v : Int) : Int := if (Go.bits .and .u8 (Go.bits .and .u8 v 159) 1) = 0 then Go.bits .andNot .u8 (Go.bits .and .u8 v 159) 2 else Go.bits .and .u8 v 159
def pmpP (c : Cp) (k : Nat) : Cp := fun i => if 47 ≤ i ∧ i < 47 + k then byteS (c i) else if 63 ≤ i ∧ i < 63 + k then Go.bits .and .u64 (c i) 18014398509481983 else c i
def pmpS (c : Cp) : Cp := pmpP c 16
theorem byte_c (v : Int) (w : World) : Calls Tryd.prog 57 #[.int .u8 v] w fun e w' => e = .returned (.int .u8 (byteS v)) ∧ Drawn0 w w' :=
  pmp_byteOf.calls v (byteS v) w (by unfold pmp_byteOf.f byteS; split <;> rfl)
theorem byte2_c (v : Int) (w : World) : Calls Tryd.prog 63 #[.int .u8 v] w fun e w' => e = .returned (.int .u8 (byteS v)) ∧ Drawn0 w w' :=
  anvilref04_cleaned.calls v (byteS v) w (by unfold anvilref04_cleaned.f byteS; split <;> rfl)
theorem pmpP_zero (c : Cp) (i : Nat) : pmpP c 0 i = c i := by unfold pmpP; rw [if_neg (by omega), if_neg (by omega)]
theorem cell_u8 {k : Nat} (h : k < 16) {n : Int} : cellOf (47 + k) n = .int .u8 n := by unfold cellOf; rw [if_neg (by omega), if_neg (by omega), if_pos (by omega)]
theorem cell_u64 {k : Nat} (h : k < 16) {n : Int} : cellOf (63 + k) n = .int .u64 n := by unfold cellOf; rw [if_neg (by omega), if_neg (by omega), if_neg (by omega)]
theorem pmpP_step (c : Cp) (k : Nat) (h : k < 16) (i : Nat) : upd (upd (pmpP c k) (47 + k) (byteS (pmpP c k (47 + k)))) (63 + k) (bits .and .u64 (pmpP c k (63 + k)) 18014398509481983) i = pmpP c (k + 1) i := by
  have e1 : pmpP c k (47 + k) = c (47 + k) := by unfold pmpP; rw [if_neg (by omega), if_neg (by omega)]
  have e2 : pmpP c k (63 + k) = c (63 + k) := by unfold pmpP; rw [if_neg (by omega), if_neg (by omega)]
  rw [e1, e2]
  unfold upd pmpP
  by_cases h1 : i = 63 + k
  · rw [if_pos h1, if_neg (by omega), if_pos (by omega), h1]
  · rw [if_neg h1]
    by_cases h2 : i = 47 + k
    · rw [if_pos h2, if_pos (by omega), h2]
    · rw [if_neg h2]
      by_cases h3 : 47 ≤ i ∧ i < 47 + k
      · rw [if_pos h3, if_pos (by omega)]
      · have h5 : ¬ (47 ≤ i ∧ i < 47 + (k + 1)) := by omega
        rw [if_neg h3, if_neg h5]
        by_cases h4 : 63 ≤ i ∧ i < 63 + k
        · rw [if_pos h4, if_pos (by omega)]
        · rw [if_neg h4, if_neg (by omega)]
def zP : Array Value := #[Value.int IntKind.u8 0, Value.int IntKind.u8 0, Value.int IntKind.u8 0, Value.int IntKind.u8 0, Value.int IntKind.u8 0, Value.int IntKind.u8 0, Value.int IntKind.u8 0, Value.int IntKind.u8 0, Value.int IntKind.u8 0, Value.int IntKind.u8 0, Value.int IntKind.u8 0, Value.int IntKind.u8 0, Value.int IntKind.u8 0, Value.int IntKind.u8 0, Value.int IntKind.u8 0, Value.int IntKind.u8 0, Value.int IntKind.u64 0, Value.int IntKind.u64 0, Value.int IntKind.u64 0, Value.int IntKind.u64 0, Value.int IntKind.u64 0, Value.int IntKind.u64 0, Value.int IntKind.u64 0, Value.int IntKind.u64 0, Value.int IntKind.u64 0, Value.int IntKind.u64 0, Value.int IntKind.u64 0, Value.int IntKind.u64 0, Value.int IntKind.u64 0, Value.int IntKind.u64 0, Value.int IntKind.u64 0, Value.int IntKind.u64 0]
set_option maxHeartbeats 1600000 in
set_option maxRecDepth 100000 in
theorem pmp_c (c : Cp) (w : World) : Calls Tryd.prog 38 #[.agg (cellsL c 47 32).toArray] w fun e w' => e = .returned (.agg (cellsL (pmpS c) 47 32).toArray) ∧ Below w.heap.size w w' := by
  obtain ⟨CS, hCS⟩ : ∃ CS, (cellsL c 47 32).toArray = CS := ⟨_, rfl⟩
  have hsz : CS.size = 32 := by rw [← hCS]; simp [cellsL_len]
  rw [hCS]
  go_enter Tryd.func38, Tryd.ntmps38
  go_upto_region 1 with (first | ((with_reducible refine gate_dst (N := 1) rfl ?_); refine box_event ?hg (N := 1) ?hd (cs := CS) (t := 27) ?hr ?_; (case hd => rfl); (case hg => rfl); (case hr => rfl); intro g1 hg1 w1 hb1 hd1))
  have hb2 : Below w.heap.size w (w1.alloc (Obj.cells zP 27)) := hd1.alloc hd1.size _
  have hx1 := blk_alloc hb1 (Obj.cells zP 27)
  have hx2 := blk_new w1 (Obj.cells zP 27)
  have hs1 : w.heap.size < w1.heap.size := by rw [← hg1]; exact blk_lt hb1
  obtain ⟨g2, hg2⟩ : ∃ g2, w1.heap.size = g2 := ⟨_, rfl⟩
  obtain ⟨w2, hw2⟩ : ∃ w2, w1.alloc (Obj.cells zP 27) = w2 := ⟨_, rfl⟩
  rw [hw2] at hb2 hx1 hx2
  rw [hg2] at hx2 hs1
  have hw2' := hw2
  unfold zP at hw2'
  rw [hw2', hg2]
  obtain ⟨b, hb⟩ : ∃ b, w.heap.size = b := ⟨_, rfl⟩
  rw [hg1, hb] at hx1
  rw [hb] at hs1 ⊢
  rw [← hCS] at hx1
  have hX : Box w2 b 27 (pmpP c 0) 47 32 := Box.ext hx1 (fun i _ _ => (pmpP_zero c i).symm)
  have HB0 := Lib.hid hb2
  have HX0 := Lib.hid hX
  have HZ0 := Lib.hid hx2
  have hne : b ≠ g2 := by omega
  have hne2 : g2 ≠ b := by omega
  have HBB := Lib.hid hb
  clear hX hx1 hx2 hb2 hw2 hw2' hb1 hd1 hCS
  go_wp2
  go_loopg [4] 16 (fun gm v4 wx => ∃ k : Nat, v4 = .int .i64 (k : Int) ∧ k ≤ 16 ∧ Hid (gm + k = 16) ∧ Hid (Box wx b 27 (pmpP c k) 47 32 ∧ wx.heap[g2]? = some (.cells zP 27 (0, 0)) ∧ Below w.heap.size w wx))
  case atStart => exact ⟨0, rfl, by omega, Lib.hid rfl, Lib.hid ⟨HX0.out, HZ0.out, HB0.out⟩⟩
  case round =>
    obtain ⟨k, rfl, hk, hgk, HS⟩ := hrel
    by_cases hlt : k < 16
    · cases gk with
      | zero => exact absurd hgk.out (by omega)
      | succ gm =>
        have e1 : (k : Int) < 16 := by omega
        have e1b : decide ((k : Int) < 16) = true := decide_eq_true e1
        obtain ⟨hX, hZ, hB⟩ := HS.out
        have k0 : (0 : Int) ≤ (k : Int) := by omega
        have q0 := hX.cell k (by omega)
        have q1 := hX.cell (16 + k) (by omega)
        rw [cell_u8 hlt] at q0
        rw [show 47 + (16 + k) = 63 + k by omega, cell_u64 hlt] at q1
        have f0 := blk_frozen hX k
        have f1 := blk_frozen hX (16 + k)
        go_upto_region 5 with (go_at_call 57; refine (byte_c _ _).mono ?_; rintro e w' ⟨rfl, ⟨nd, rfl⟩⟩)
        obtain ⟨v1, hv1⟩ : ∃ v1, byteS (pmpP c k (47 + k)) = v1 := ⟨_, rfl⟩
        rw [hv1]
        have hX3 : Box ((wr.drewN nd).setCell ⟨b, k, none⟩ (.int .u8 v1)) b 27 (upd (pmpP c k) (47 + k) v1) 47 32 := by
          rw [← cell_u8 hlt]
          exact Box.set (blk_drewN hX nd) k (by omega) v1
        have hZ3 := blk_far (blk_drewN hZ nd) (p := ⟨b, k, none⟩) hne2 (.int .u8 v1)
        have hB3 := Below.setCell (pw_below_drewN hB nd) (p := ⟨b, k, none⟩) (by show w.heap.size ≤ b; rw [HBB.out]; exact Nat.le_refl _) (.int .u8 v1)
        obtain ⟨W3, hW3⟩ : ∃ W3, (wr.drewN nd).setCell ⟨b, k, none⟩ (.int .u8 v1) = W3 := ⟨_, rfl⟩
        rw [hW3] at hX3 hZ3 hB3 ⊢
        clear hW3 q0 q1 f0 f1 hX hZ hB
        have q1 := hX3.cell (16 + k) (by omega)
        rw [show 47 + (16 + k) = 63 + k by omega, cell_u64 hlt, show upd (pmpP c k) (47 + k) v1 (63 + k) = pmpP c k (63 + k) by unfold upd; rw [if_neg (by omega)]] at q1
        have f1 := blk_frozen hX3 (16 + k)
        have HX3 := Lib.hid hX3
        have HZ3 := Lib.hid hZ3
        have HB3 := Lib.hid hB3
        have HV1 := Lib.hid hv1
        clear hX3 hZ3 hB3 hv1 e1
        go_wp2
        go_roundg gm
        case measure => omega
        case rel =>
          refine ⟨k + 1, by go_num, by omega, Lib.hid (by have := hgk.out; omega), Lib.hid ⟨?_, blk_far HZ3.out hne2 _, Below.setCell HB3.out (p := ⟨b, 16 + k, none⟩) (by show w.heap.size ≤ b; rw [HBB.out]; exact Nat.le_refl _) _⟩⟩
          have h := Box.set HX3.out (16 + k) (by omega) (bits .and .u64 (pmpP c k (63 + k)) 18014398509481983)
          rw [show 47 + (16 + k) = 63 + k by omega, cell_u64 hlt] at h
          refine h.ext (fun i h1 h2 => ?_)
          rw [← HV1.out]
          exact pmpP_step c k hlt i
    · have hk16 : k = 16 := by omega
      subst hk16
      obtain ⟨hX, hZ, hB⟩ := HS.out
      have e1b : decide (((16 : Nat) : Int) < 16) = false := by decide
      have HX := Lib.hid hX
      have HZ := Lib.hid hZ
      have HB := Lib.hid hB
      clear hX hZ hB HS HX0 HZ0 HB0
      go_wp2_with (first
        | ((with_reducible refine gate_ (.load 27 (.tmp 1)) rfl ?_); refine wpl_load 27 (.tmp 1) rfl rfl HX.out rfl Tryd.underlying27 rfl (by kernel_rfl) ?_)
        | ((with_reducible refine gate_ (.store 27 (.tmp 2) (.tmp 23)) rfl ?_); refine wpl_store 27 (.tmp 2) (.tmp 23) rfl rfl HZ.out (by rfl) rfl rfl (by kernel_rfl) ?_; intro w5 hX5 _ hb5 _; have HX5 := Lib.hid hX5; have HB5 := Lib.hid (hb5 _ _ (by rw [HBB.out]; omega) HB.out); clear hX5 hb5))
      refine bodyPost_ret (results_cell_row rfl _ _ g2 27 _ (0, 0) _ rfl HX5.out Tryd.underlying27 rfl (by rw [cellsL_size]; kernel_rfl)) rfl ⟨rfl, HB5.out⟩
set_option maxHeartbeats 1600000 in
set_option maxRecDepth 100000 in
theorem pmp2_c (c : Cp) (w : World) : Calls Tryd.prog 48 #[.agg (cellsL c 47 32).toArray] w fun e w' => e = .returned (.agg (cellsL (pmpS c) 47 32).toArray) ∧ Below w.heap.size w w' := by
  obtain ⟨CS, hCS⟩ : ∃ CS, (cellsL c 47 32).toArray = CS := ⟨_, rfl⟩
  have hsz : CS.size = 32 := by rw [← hCS]; simp [cellsL_len]
  rw [hCS]
  go_enter Tryd.func48, Tryd.ntmps48
  go_upto_region 1 with (first | ((with_reducible refine gate_dst (N := 1) rfl ?_); refine box_event ?hg (N := 1) ?hd (cs := CS) (t := 27) ?hr ?_; (case hd => rfl); (case hg => rfl); (case hr => rfl); intro g1 hg1 w1 hb1 hd1))
  have hb2 : Below w.heap.size w (w1.alloc (Obj.cells zP 27)) := hd1.alloc hd1.size _
  have hx1 := blk_alloc hb1 (Obj.cells zP 27)
  have hx2 := blk_new w1 (Obj.cells zP 27)
  have hs1 : w.heap.size < w1.heap.size := by rw [← hg1]; exact blk_lt hb1
  obtain ⟨g2, hg2⟩ : ∃ g2, w1.heap.size = g2 := ⟨_, rfl⟩
  obtain ⟨w2, hw2⟩ : ∃ w2, w1.alloc (Obj.cells zP 27) = w2 := ⟨_, rfl⟩
  rw [hw2] at hb2 hx1 hx2
  rw [hg2] at hx2 hs1
  have hw2' := hw2
  unfold zP at hw2'
  rw [hw2', hg2]
  obtain ⟨b, hb⟩ : ∃ b, w.heap.size = b := ⟨_, rfl⟩
  rw [hg1, hb] at hx1
  rw [hb] at hs1 ⊢
  rw [← hCS] at hx1
  have hX : Box w2 b 27 (pmpP c 0) 47 32 := Box.ext hx1 (fun i _ _ => (pmpP_zero c i).symm)
  have HB0 := Lib.hid hb2
  have HX0 := Lib.hid hX
  have HZ0 := Lib.hid hx2
  have hne : b ≠ g2 := by omega
  have hne2 : g2 ≠ b := by omega
  have HBB := Lib.hid hb
  clear hX hx1 hx2 hb2 hw2 hw2' hb1 hd1 hCS
  go_wp2
  go_loopg [3] 16 (fun gm v3 wx => ∃ k : Nat, v3 = .int .i64 (k : Int) ∧ k ≤ 16 ∧ Hid (gm + k = 16) ∧ Hid (Box wx b 27 (pmpP c k) 47 32 ∧ wx.heap[g2]? = some (.cells zP 27 (0, 0)) ∧ Below w.heap.size w wx))
  case atStart => exact ⟨0, rfl, by omega, Lib.hid rfl, Lib.hid ⟨HX0.out, HZ0.out, HB0.out⟩⟩
  case round =>
    obtain ⟨k, rfl, hk, hgk, HS⟩ := hrel
    by_cases hlt : k < 16
    · cases gk with
      | zero => exact absurd hgk.out (by omega)
      | succ gm =>
        have e1 : (k : Int) < 16 := by omega
        have e1b : decide ((k : Int) < 16) = true := decide_eq_true e1
        obtain ⟨hX, hZ, hB⟩ := HS.out
        have k0 : (0 : Int) ≤ (k : Int) := by omega
        have q0 := hX.cell k (by omega)
        have q1 := hX.cell (16 + k) (by omega)
        rw [cell_u8 hlt] at q0
        rw [show 47 + (16 + k) = 63 + k by omega, cell_u64 hlt] at q1
        have f0 := blk_frozen hX k
        have f1 := blk_frozen hX (16 + k)
        go_upto_region 5 with (go_at_call 63; refine (byte2_c _ _).mono ?_; rintro e w' ⟨rfl, ⟨nd, rfl⟩⟩)
        obtain ⟨v1, hv1⟩ : ∃ v1, byteS (pmpP c k (47 + k)) = v1 := ⟨_, rfl⟩
        rw [hv1]
        have hX3 : Box ((wr.drewN nd).setCell ⟨b, k, none⟩ (.int .u8 v1)) b 27 (upd (pmpP c k) (47 + k) v1) 47 32 := by
          rw [← cell_u8 hlt]
          exact Box.set (blk_drewN hX nd) k (by omega) v1
        have hZ3 := blk_far (blk_drewN hZ nd) (p := ⟨b, k, none⟩) hne2 (.int .u8 v1)
        have hB3 := Below.setCell (pw_below_drewN hB nd) (p := ⟨b, k, none⟩) (by show w.heap.size ≤ b; rw [HBB.out]; exact Nat.le_refl _) (.int .u8 v1)
        obtain ⟨W3, hW3⟩ : ∃ W3, (wr.drewN nd).setCell ⟨b, k, none⟩ (.int .u8 v1) = W3 := ⟨_, rfl⟩
        rw [hW3] at hX3 hZ3 hB3 ⊢
        clear hW3 q0 q1 f0 f1 hX hZ hB
        have q1 := hX3.cell (16 + k) (by omega)
        rw [show 47 + (16 + k) = 63 + k by omega, cell_u64 hlt, show upd (pmpP c k) (47 + k) v1 (63 + k) = pmpP c k (63 + k) by unfold upd; rw [if_neg (by omega)]] at q1
        have f1 := blk_frozen hX3 (16 + k)
        have HX3 := Lib.hid hX3
        have HZ3 := Lib.hid hZ3
        have HB3 := Lib.hid hB3
        have HV1 := Lib.hid hv1
        clear hX3 hZ3 hB3 hv1 e1
        go_wp2
        go_roundg gm
        case measure => omega
        case rel =>
          refine ⟨k + 1, by go_num, by omega, Lib.hid (by have := hgk.out; omega), Lib.hid ⟨?_, blk_far HZ3.out hne2 _, Below.setCell HB3.out (p := ⟨b, 16 + k, none⟩) (by show w.heap.size ≤ b; rw [HBB.out]; exact Nat.le_refl _) _⟩⟩
          have h := Box.set HX3.out (16 + k) (by omega) (bits .and .u64 (pmpP c k (63 + k)) 18014398509481983)
          rw [show 47 + (16 + k) = 63 + k by omega, cell_u64 hlt] at h
          refine h.ext (fun i h1 h2 => ?_)
          rw [← HV1.out]
          exact pmpP_step c k hlt i
    · have hk16 : k = 16 := by omega
      subst hk16
      obtain ⟨hX, hZ, hB⟩ := HS.out
      have e1b : decide (((16 : Nat) : Int) < 16) = false := by decide
      have HX := Lib.hid hX
      have HZ := Lib.hid hZ
      have HB := Lib.hid hB
      clear hX hZ hB HS HX0 HZ0 HB0
      go_wp2_with (first
        | ((with_reducible refine gate_ (.load 27 (.tmp 1)) rfl ?_); refine wpl_load 27 (.tmp 1) rfl rfl HX.out rfl Tryd.underlying27 rfl (by kernel_rfl) ?_)
        | ((with_reducible refine gate_ (.store 27 (.tmp 2) (.tmp 24)) rfl ?_); refine wpl_store 27 (.tmp 2) (.tmp 24) rfl rfl HZ.out (by rfl) rfl rfl (by kernel_rfl) ?_; intro w5 hX5 _ hb5 _; have HX5 := Lib.hid hX5; have HB5 := Lib.hid (hb5 _ _ (by rw [HBB.out]; omega) HB.out); clear hX5 hb5))
      refine bodyPost_ret (results_cell_row rfl _ _ g2 27 _ (0, 0) _ rfl HX5.out Tryd.underlying27 rfl (by rw [cellsL_size]; kernel_rfl)) rfl ⟨rfl, HB5.out⟩
end Go.Proofs.YtbmnifnahbehbaaDoor

/- csr.Proper and the document's: a Cpu such as can be. -/
set_option linter.unusedVariables false
namespace Go.Proofs.YtbmnifnahbehbaaDoor
open Go.RowKit Go.Lib Go.Proofs.YtbmnifnahbehbaaDoorW.PrintWords Go.Proofs.YtbmnifnahbehbaaDoorW.PrintMore Go.Proofs.YtbmnifnahbehbaaDoorW.PrintLast
open PPr
theorem cells_sub {c d : Cp} (o n : Nat) (h : ∀ i, o ≤ i → i < o + n → c i = d i) : cellsL c o n = cellsL d o n := cellsL_ext h
def modeS (n : Int) : Int := if n = 3 then 3 else 0
def mppS (n : Int) : Int := if bits .and .u64 n 6144 = 6144 then 6144 else 0
def statS (n : Int) : Int := bits .or .u64 (bits .or .u64 (bits .and .u64 n 2228360) (mppS n)) 8589934592
theorem stat_a {n : Int} (h : (bits .and .u64 n 6144 != 6144) = false) : bits .or .u64 (bits .or .u64 (bits .and .u64 n 2228360) (bits .and .u64 n 6144)) 8589934592 = statS n := by
  have h := bne_eq_false_iff_eq.mp h
  unfold statS mppS
  rw [if_pos h, h]
theorem stat_c {n : Int} (h : (bits .and .u64 n 6144 != 6144) = false) : bits .or .u64 (bits .or .u64 (bits .and .u64 n 2228360) 6144) 8589934592 = statS n := by
  have h := bne_eq_false_iff_eq.mp h
  unfold statS mppS
  rw [if_pos h]
theorem stat_b {n : Int} (h : (bits .and .u64 n 6144 != 6144) = true) : bits .or .u64 (bits .or .u64 (bits .and .u64 n 2228360) 0) 8589934592 = statS n := by
  have h := bne_iff_ne.mp h
  unfold statS mppS
  rw [if_neg h]
def resOk (c : Cp) : Prop := c 79 ≠ 0 ∧ (c 81 = 4 ∨ c 81 = 8) ∧ bits .and .u64 (c 80) (IntKind.u64.wrap (wrap64 (c 81 - 1))) = 0
instance (c : Cp) : Decidable (resOk c) := by unfold resOk; exact inferInstance
def resS (c : Cp) : Cp := fun i => if 79 ≤ i ∧ i < 82 then (if resOk c then c i else 0) else c i
theorem cells_res (c : Cp) : (cellsL c 79 3).toArray = #[Value.bool (decide (c 79 ≠ 0)), Value.int .u64 (c 80), Value.int .i64 (c 81)] := rfl
theorem res_c (c : Cp) (w : World) : Calls Tryd.prog 39 #[.agg (cellsL c 79 3).toArray] w fun e w' => e = .returned (.agg (cellsL (resS c) 79 3).toArray) ∧ Below w.heap.size w w' := by
  rw [cells_res, cells_res]
  have e0 : resS c 79 = if resOk c then c 79 else 0 := rfl
  have e1 : resS c 80 = if resOk c then c 80 else 0 := rfl
  have e2 : resS c 81 = if resOk c then c 81 else 0 := rfl
  by_cases h : resOk c
  · rw [e0, e1, e2, if_pos h, if_pos h, if_pos h]
    obtain ⟨h1, h2, h3⟩ := h
    have hd : decide (c 79 ≠ 0) = true := decide_eq_true h1
    rw [hd]
    refine csr_reservation.calls true (c 80) (c 81) true (c 80) (c 81) w ?_
    unfold csr_reservation.f
    rw [if_pos rfl, if_pos h3]
    rcases h2 with h2 | h2
    · rw [if_pos h2]
    · rw [if_neg (by omega), if_pos h2]
  · rw [e0, e1, e2, if_neg h, if_neg h, if_neg h]
    refine csr_reservation.calls (decide (c 79 ≠ 0)) (c 80) (c 81) false 0 0 w ?_
    unfold csr_reservation.f
    by_cases h1 : c 79 ≠ 0
    · rw [if_pos (decide_eq_true h1)]
      by_cases h3 : bits .and .u64 (c 80) (IntKind.u64.wrap (wrap64 (c 81 - 1))) = 0
      · have h4 : ¬ c 81 = 4 := fun h4 => h ⟨h1, .inl h4, h3⟩
        have h5 : ¬ c 81 = 8 := fun h4 => h ⟨h1, .inr h4, h3⟩
        rw [if_neg h4, if_neg h5]
      · rw [if_neg h3]
        split
        · rfl
        split <;> rfl
    · rw [if_neg (by simp at h1 ⊢; exact h1)]
def cpuS (c : Cp) : Cp := mix (mix (upd (upd (upd (upd (upd (upd (upd (upd (upd (upd (c) 0 (bits .andNot .u64 (c 0) 1)) 42 (bits .andNot .u64 (c 42) 1)) 1 (0)) 33 (modeS (c 33))) 35 (statS (c 35))) 36 (bits .andNot .u64 (c 36) 2)) 37 (bits .and .u64 (c 37) 2184)) 38 (bits .and .u64 (c 38) 7)) 39 (bits .and .u64 (c 39) 5)) 40 (bits .and .u64 (c 40) 1)) (pmpS c) (0 + 47) 32) (resS c) (0 + 79) 3
set_option maxHeartbeats 4000000 in
set_option maxRecDepth 100000 in
theorem csr_c (c : Cp) (w : World) : Calls Tryd.prog 13 #[.agg (cpuL c).toArray] w fun e w' => e = .returned (.agg (cpuL (cpuS c)).toArray) ∧ Below w.heap.size w w' := by
  obtain ⟨CS, hCS⟩ : ∃ CS, (cpuL c).toArray = CS := ⟨_, rfl⟩
  rw [hCS]
  go_enter Tryd.func13, Tryd.ntmps13
  go_upto_region 1 with (first | ((with_reducible refine gate_dst (N := 1) rfl ?_); refine box_event ?hg (N := 1) ?hd (cs := CS) (t := 31) ?hr ?_; (case hd => rfl); (case hg => rfl); (case hr => rfl); intro g1 hg1 w1 hb1 hd1))
  have hb2 : Below w.heap.size w (w1.alloc (Obj.cells Tryd.zeroCells31 31)) := hd1.alloc hd1.size _
  have hx1 := blk_alloc hb1 (Obj.cells Tryd.zeroCells31 31)
  have hx2 := blk_new w1 (Obj.cells Tryd.zeroCells31 31)
  have hs1 : w.heap.size < w1.heap.size := by rw [← hg1]; exact blk_lt hb1
  obtain ⟨g2, hg2⟩ : ∃ g2, w1.heap.size = g2 := ⟨_, rfl⟩
  obtain ⟨w2, hw2⟩ : ∃ w2, w1.alloc (Obj.cells Tryd.zeroCells31 31) = w2 := ⟨_, rfl⟩
  rw [hw2] at hb2 hx1 hx2
  rw [hg2] at hx2 hs1
  rw [hw2, hg2]
  obtain ⟨b, hb⟩ : ∃ b, w.heap.size = b := ⟨_, rfl⟩
  rw [hg1, hb] at hx1
  rw [hb] at hs1 ⊢
  rw [← hCS] at hx1
  have hX : Box w2 b 31 c 0 82 := hx1
  have HB := Lib.hid hb2
  have HX := Lib.hid hX
  have HZ := Lib.hid hx2
  have hne : b ≠ g2 := by omega
  have hne2 : g2 ≠ b := by omega
  have hbb : w.heap.size ≤ b := by rw [hb]; exact Nat.le_refl _
  have HBB := Lib.hid hb
  clear hX hx1 hx2 hb2 hw2 hb1 hd1 hCS hb
  have q := HX.out.cell 0 (by omega)
  replace q : _ = some (Value.int .u64 (c 0)) := q
  have f := blk_frozen HX.out 0
  go_upto_region 2 with (fail)
  have hX := Box.set HX.out 0 (by omega) (bits .andNot .u64 (c 0) 1)
  replace hX : Box (w2.setCell ⟨b, 0, none⟩ (.int .u64 (bits .andNot .u64 (c 0) 1))) b 31 (upd (c) 0 (bits .andNot .u64 (c 0) 1)) 0 82 := hX
  have hZ := blk_far HZ.out (p := ⟨b, 0, none⟩) hne2 (.int .u64 (bits .andNot .u64 (c 0) 1))
  have hB := Below.setCell HB.out (p := ⟨b, 0, none⟩) hbb (.int .u64 (bits .andNot .u64 (c 0) 1))
  obtain ⟨w3, hW⟩ : ∃ w3, w2.setCell ⟨b, 0, none⟩ (.int .u64 (bits .andNot .u64 (c 0) 1)) = w3 := ⟨_, rfl⟩
  rw [hW] at hX hZ hB ⊢
  clear hW HX HZ HB
  have HX := Lib.hid hX
  have HZ := Lib.hid hZ
  have HB := Lib.hid hB
  clear hX hZ hB
  clear q f
  have q := HX.out.cell 42 (by omega)
  replace q : _ = some (Value.int .u64 (c 42)) := q
  have f := blk_frozen HX.out 42
  go_upto_region 3 with (fail)
  have hX := Box.set HX.out 42 (by omega) (bits .andNot .u64 (c 42) 1)
  replace hX : Box (w3.setCell ⟨b, 42, none⟩ (.int .u64 (bits .andNot .u64 (c 42) 1))) b 31 (upd (upd (c) 0 (bits .andNot .u64 (c 0) 1)) 42 (bits .andNot .u64 (c 42) 1)) 0 82 := hX
  have hZ := blk_far HZ.out (p := ⟨b, 42, none⟩) hne2 (.int .u64 (bits .andNot .u64 (c 42) 1))
  have hB := Below.setCell HB.out (p := ⟨b, 42, none⟩) hbb (.int .u64 (bits .andNot .u64 (c 42) 1))
  obtain ⟨w4, hW⟩ : ∃ w4, w3.setCell ⟨b, 42, none⟩ (.int .u64 (bits .andNot .u64 (c 42) 1)) = w4 := ⟨_, rfl⟩
  rw [hW] at hX hZ hB ⊢
  clear hW HX HZ HB
  have HX := Lib.hid hX
  have HZ := Lib.hid hZ
  have HB := Lib.hid hB
  clear hX hZ hB
  clear q f
  have q := HX.out.cell 1 (by omega)
  replace q : _ = some (Value.int .u64 (c 1)) := q
  have f := blk_frozen HX.out 1
  go_upto_region 4 with (fail)
  have hX := Box.set HX.out 1 (by omega) (0)
  replace hX : Box (w4.setCell ⟨b, 1, none⟩ (.int .u64 (0))) b 31 (upd (upd (upd (c) 0 (bits .andNot .u64 (c 0) 1)) 42 (bits .andNot .u64 (c 42) 1)) 1 (0)) 0 82 := hX
  have hZ := blk_far HZ.out (p := ⟨b, 1, none⟩) hne2 (.int .u64 (0))
  have hB := Below.setCell HB.out (p := ⟨b, 1, none⟩) hbb (.int .u64 (0))
  obtain ⟨w5, hW⟩ : ∃ w5, w4.setCell ⟨b, 1, none⟩ (.int .u64 (0)) = w5 := ⟨_, rfl⟩
  rw [hW] at hX hZ hB ⊢
  clear hW HX HZ HB
  have HX := Lib.hid hX
  have HZ := Lib.hid hZ
  have HB := Lib.hid hB
  clear hX hZ hB
  clear q f
  have q := HX.out.cell 33 (by omega)
  replace q : _ = some (Value.int .i64 (c 33)) := q
  have f := blk_frozen HX.out 33
  rcases Decidable.em (c 33 = 3) with hm | hm <;> first
    | (have hmb : (c 33 != 3) = false := bne_eq_false_iff_eq.mpr hm
       go_upto_region 6 with (fail)
       clear hmb
       have hX : Box w5 b 31 (upd (upd (upd (upd (c) 0 (bits .andNot .u64 (c 0) 1)) 42 (bits .andNot .u64 (c 42) 1)) 1 (0)) 33 (modeS (c 33))) 0 82 := HX.out.ext (fun i _ _ => by
         unfold modeS
         rw [if_pos hm]
         show _ = upd _ 33 3 i
         unfold upd
         by_cases hi : i = 33
         · rw [if_pos hi, hi]; exact hm
         · rw [if_neg hi])
       have hZ := HZ.out
       have hB := HB.out
       obtain ⟨w6, hW⟩ : ∃ w6, w5 = w6 := ⟨_, rfl⟩
       rw [hW] at hX hZ hB ⊢)
    | (have hmb : (c 33 != 3) = true := bne_iff_ne.mpr hm
       go_upto_region 6 with (fail)
       clear hmb
       have hX : Box (w5.setCell ⟨b, 33, none⟩ (.int .i64 0)) b 31 (upd (upd (upd (upd (c) 0 (bits .andNot .u64 (c 0) 1)) 42 (bits .andNot .u64 (c 42) 1)) 1 (0)) 33 (modeS (c 33))) 0 82 := by
         unfold modeS
         rw [if_neg hm]
         exact Box.set HX.out 33 (by omega) 0
       have hZ := blk_far HZ.out (p := ⟨b, 33, none⟩) hne2 (.int .i64 0)
       have hB := Below.setCell HB.out (p := ⟨b, 33, none⟩) hbb (.int .i64 0)
       obtain ⟨w6, hW⟩ : ∃ w6, w5.setCell ⟨b, 33, none⟩ (.int .i64 0) = w6 := ⟨_, rfl⟩
       rw [hW] at hX hZ hB ⊢)
  all_goals
    clear hW HX HZ HB q f hm
    have HX := Lib.hid hX
    have HZ := Lib.hid hZ
    have HB := Lib.hid hB
    clear hX hZ hB
    have q := HX.out.cell 35 (by omega)
    replace q : _ = some (Value.int .u64 (c 35)) := q
    have f := blk_frozen HX.out 35
    have hVa := stat_a (n := c 35)
    have hVb := stat_b (n := c 35)
    have hVc := stat_c (n := c 35)
    cases hq : (bits .and .u64 (c 35) 6144 != 6144) <;> (go_upto_region 10 with (fail))
    all_goals
      clear hq hVa hVb hVc
      have hX := Box.set HX.out 35 (by omega) (statS (c 35))
      replace hX : Box (w6.setCell ⟨b, 35, none⟩ (.int .u64 (statS (c 35)))) b 31 (upd (upd (upd (upd (upd (c) 0 (bits .andNot .u64 (c 0) 1)) 42 (bits .andNot .u64 (c 42) 1)) 1 (0)) 33 (modeS (c 33))) 35 (statS (c 35))) 0 82 := hX
      have hZ := blk_far HZ.out (p := ⟨b, 35, none⟩) hne2 (.int .u64 (statS (c 35)))
      have hB := Below.setCell HB.out (p := ⟨b, 35, none⟩) hbb (.int .u64 (statS (c 35)))
      obtain ⟨w7, hW⟩ : ∃ w7, w6.setCell ⟨b, 35, none⟩ (.int .u64 (statS (c 35))) = w7 := ⟨_, rfl⟩
      rw [hW] at hX hZ hB ⊢
      clear hW HX HZ HB
      have HX := Lib.hid hX
      have HZ := Lib.hid hZ
      have HB := Lib.hid hB
      clear hX hZ hB
      clear q f
      have q := HX.out.cell 36 (by omega)
      replace q : _ = some (Value.int .u64 (c 36)) := q
      have f := blk_frozen HX.out 36
      go_upto_region 11 with (fail)
      have hX := Box.set HX.out 36 (by omega) (bits .andNot .u64 (c 36) 2)
      replace hX : Box (w7.setCell ⟨b, 36, none⟩ (.int .u64 (bits .andNot .u64 (c 36) 2))) b 31 (upd (upd (upd (upd (upd (upd (c) 0 (bits .andNot .u64 (c 0) 1)) 42 (bits .andNot .u64 (c 42) 1)) 1 (0)) 33 (modeS (c 33))) 35 (statS (c 35))) 36 (bits .andNot .u64 (c 36) 2)) 0 82 := hX
      have hZ := blk_far HZ.out (p := ⟨b, 36, none⟩) hne2 (.int .u64 (bits .andNot .u64 (c 36) 2))
      have hB := Below.setCell HB.out (p := ⟨b, 36, none⟩) hbb (.int .u64 (bits .andNot .u64 (c 36) 2))
      obtain ⟨w8, hW⟩ : ∃ w8, w7.setCell ⟨b, 36, none⟩ (.int .u64 (bits .andNot .u64 (c 36) 2)) = w8 := ⟨_, rfl⟩
      rw [hW] at hX hZ hB ⊢
      clear hW HX HZ HB
      have HX := Lib.hid hX
      have HZ := Lib.hid hZ
      have HB := Lib.hid hB
      clear hX hZ hB
      clear q f
      have q := HX.out.cell 37 (by omega)
      replace q : _ = some (Value.int .u64 (c 37)) := q
      have f := blk_frozen HX.out 37
      go_upto_region 12 with (fail)
      have hX := Box.set HX.out 37 (by omega) (bits .and .u64 (c 37) 2184)
      replace hX : Box (w8.setCell ⟨b, 37, none⟩ (.int .u64 (bits .and .u64 (c 37) 2184))) b 31 (upd (upd (upd (upd (upd (upd (upd (c) 0 (bits .andNot .u64 (c 0) 1)) 42 (bits .andNot .u64 (c 42) 1)) 1 (0)) 33 (modeS (c 33))) 35 (statS (c 35))) 36 (bits .andNot .u64 (c 36) 2)) 37 (bits .and .u64 (c 37) 2184)) 0 82 := hX
      have hZ := blk_far HZ.out (p := ⟨b, 37, none⟩) hne2 (.int .u64 (bits .and .u64 (c 37) 2184))
      have hB := Below.setCell HB.out (p := ⟨b, 37, none⟩) hbb (.int .u64 (bits .and .u64 (c 37) 2184))
      obtain ⟨w9, hW⟩ : ∃ w9, w8.setCell ⟨b, 37, none⟩ (.int .u64 (bits .and .u64 (c 37) 2184)) = w9 := ⟨_, rfl⟩
      rw [hW] at hX hZ hB ⊢
      clear hW HX HZ HB
      have HX := Lib.hid hX
      have HZ := Lib.hid hZ
      have HB := Lib.hid hB
      clear hX hZ hB
      clear q f
      have q := HX.out.cell 38 (by omega)
      replace q : _ = some (Value.int .u64 (c 38)) := q
      have f := blk_frozen HX.out 38
      go_upto_region 13 with (fail)
      have hX := Box.set HX.out 38 (by omega) (bits .and .u64 (c 38) 7)
      replace hX : Box (w9.setCell ⟨b, 38, none⟩ (.int .u64 (bits .and .u64 (c 38) 7))) b 31 (upd (upd (upd (upd (upd (upd (upd (upd (c) 0 (bits .andNot .u64 (c 0) 1)) 42 (bits .andNot .u64 (c 42) 1)) 1 (0)) 33 (modeS (c 33))) 35 (statS (c 35))) 36 (bits .andNot .u64 (c 36) 2)) 37 (bits .and .u64 (c 37) 2184)) 38 (bits .and .u64 (c 38) 7)) 0 82 := hX
      have hZ := blk_far HZ.out (p := ⟨b, 38, none⟩) hne2 (.int .u64 (bits .and .u64 (c 38) 7))
      have hB := Below.setCell HB.out (p := ⟨b, 38, none⟩) hbb (.int .u64 (bits .and .u64 (c 38) 7))
      obtain ⟨w10, hW⟩ : ∃ w10, w9.setCell ⟨b, 38, none⟩ (.int .u64 (bits .and .u64 (c 38) 7)) = w10 := ⟨_, rfl⟩
      rw [hW] at hX hZ hB ⊢
      clear hW HX HZ HB
      have HX := Lib.hid hX
      have HZ := Lib.hid hZ
      have HB := Lib.hid hB
      clear hX hZ hB
      clear q f
      have q := HX.out.cell 39 (by omega)
      replace q : _ = some (Value.int .u64 (c 39)) := q
      have f := blk_frozen HX.out 39
      go_upto_region 14 with (fail)
      have hX := Box.set HX.out 39 (by omega) (bits .and .u64 (c 39) 5)
      replace hX : Box (w10.setCell ⟨b, 39, none⟩ (.int .u64 (bits .and .u64 (c 39) 5))) b 31 (upd (upd (upd (upd (upd (upd (upd (upd (upd (c) 0 (bits .andNot .u64 (c 0) 1)) 42 (bits .andNot .u64 (c 42) 1)) 1 (0)) 33 (modeS (c 33))) 35 (statS (c 35))) 36 (bits .andNot .u64 (c 36) 2)) 37 (bits .and .u64 (c 37) 2184)) 38 (bits .and .u64 (c 38) 7)) 39 (bits .and .u64 (c 39) 5)) 0 82 := hX
      have hZ := blk_far HZ.out (p := ⟨b, 39, none⟩) hne2 (.int .u64 (bits .and .u64 (c 39) 5))
      have hB := Below.setCell HB.out (p := ⟨b, 39, none⟩) hbb (.int .u64 (bits .and .u64 (c 39) 5))
      obtain ⟨w11, hW⟩ : ∃ w11, w10.setCell ⟨b, 39, none⟩ (.int .u64 (bits .and .u64 (c 39) 5)) = w11 := ⟨_, rfl⟩
      rw [hW] at hX hZ hB ⊢
      clear hW HX HZ HB
      have HX := Lib.hid hX
      have HZ := Lib.hid hZ
      have HB := Lib.hid hB
      clear hX hZ hB
      clear q f
      have q := HX.out.cell 40 (by omega)
      replace q : _ = some (Value.int .u64 (c 40)) := q
      have f := blk_frozen HX.out 40
      go_upto_region 15 with (fail)
      have hX := Box.set HX.out 40 (by omega) (bits .and .u64 (c 40) 1)
      replace hX : Box (w11.setCell ⟨b, 40, none⟩ (.int .u64 (bits .and .u64 (c 40) 1))) b 31 (upd (upd (upd (upd (upd (upd (upd (upd (upd (upd (c) 0 (bits .andNot .u64 (c 0) 1)) 42 (bits .andNot .u64 (c 42) 1)) 1 (0)) 33 (modeS (c 33))) 35 (statS (c 35))) 36 (bits .andNot .u64 (c 36) 2)) 37 (bits .and .u64 (c 37) 2184)) 38 (bits .and .u64 (c 38) 7)) 39 (bits .and .u64 (c 39) 5)) 40 (bits .and .u64 (c 40) 1)) 0 82 := hX
      have hZ := blk_far HZ.out (p := ⟨b, 40, none⟩) hne2 (.int .u64 (bits .and .u64 (c 40) 1))
      have hB := Below.setCell HB.out (p := ⟨b, 40, none⟩) hbb (.int .u64 (bits .and .u64 (c 40) 1))
      obtain ⟨w12, hW⟩ : ∃ w12, w11.setCell ⟨b, 40, none⟩ (.int .u64 (bits .and .u64 (c 40) 1)) = w12 := ⟨_, rfl⟩
      rw [hW] at hX hZ hB ⊢
      clear hW HX HZ HB
      have HX := Lib.hid hX
      have HZ := Lib.hid hZ
      have HB := Lib.hid hB
      clear hX hZ hB
      clear q f
      have hX9 := Lib.hid HX.out
      have eP := cells_sub (c := upd (upd (upd (upd (upd (upd (upd (upd (upd (upd (c) 0 (bits .andNot .u64 (c 0) 1)) 42 (bits .andNot .u64 (c 42) 1)) 1 (0)) 33 (modeS (c 33))) 35 (statS (c 35))) 36 (bits .andNot .u64 (c 36) 2)) 37 (bits .and .u64 (c 37) 2184)) 38 (bits .and .u64 (c 38) 7)) 39 (bits .and .u64 (c 39) 5)) 40 (bits .and .u64 (c 40) 1)) (d := c) 47 32 (fun i h1 h2 => by unfold upd; rw [if_neg (by omega), if_neg (by omega), if_neg (by omega), if_neg (by omega), if_neg (by omega), if_neg (by omega), if_neg (by omega), if_neg (by omega), if_neg (by omega), if_neg (by omega)])
      go_upto_region 16 with (first
        | ((with_reducible refine gate_ (.load 27 (.tmp 50)) rfl ?_); refine wpl_loadm (p := 47) (m := 32) 27 (.tmp 50) rfl rfl HX.out (by omega) rfl Tryd.underlying27 rfl (by kernel_rfl) ?_; rw [Nat.zero_add, eP])
        | (go_at_call 38; refine (pmp_c _ _).mono ?_; rintro e w' ⟨rfl, hd⟩; have hX2 := blk_below HX.out hd; have hZ2 := blk_below HZ.out hd; have hB2 := HB.out.trans (hd.mono HB.out.size); clear HX HZ HB; have HX := Lib.hid (show Box w' b 31 (upd (upd (upd (upd (upd (upd (upd (upd (upd (upd (c) 0 (bits .andNot .u64 (c 0) 1)) 42 (bits .andNot .u64 (c 42) 1)) 1 (0)) 33 (modeS (c 33))) 35 (statS (c 35))) 36 (bits .andNot .u64 (c 36) 2)) 37 (bits .and .u64 (c 37) 2184)) 38 (bits .and .u64 (c 38) 7)) 39 (bits .and .u64 (c 39) 5)) 40 (bits .and .u64 (c 40) 1)) 0 82 from hX2); have HZ := Lib.hid hZ2; have HB := Lib.hid hB2; clear hX2 hZ2 hB2 hd)
        | ((with_reducible refine gate_ (.store 27 (.tmp 53) (.tmp 52)) rfl ?_); refine wpl_storem (p := 47) (m := 32) 27 (.tmp 53) (.tmp 52) rfl rfl HX.out (by omega) rfl rfl (by kernel_rfl) ?_; intro w20 hX2 hk2 hb2; have hZ2 := (hk2 g2 hne2).trans HZ.out; have hB2 := hb2 _ _ hbb HB.out; clear HX HZ HB hk2 hb2; have HX := Lib.hid hX2; have HZ := Lib.hid hZ2; have HB := Lib.hid hB2; clear hX2 hZ2 hB2))
      have eR := cells_sub (c := mix (upd (upd (upd (upd (upd (upd (upd (upd (upd (upd (c) 0 (bits .andNot .u64 (c 0) 1)) 42 (bits .andNot .u64 (c 42) 1)) 1 (0)) 33 (modeS (c 33))) 35 (statS (c 35))) 36 (bits .andNot .u64 (c 36) 2)) 37 (bits .and .u64 (c 37) 2184)) 38 (bits .and .u64 (c 38) 7)) 39 (bits .and .u64 (c 39) 5)) 40 (bits .and .u64 (c 40) 1)) (pmpS c) (0 + 47) 32) (d := c) 79 3 (fun i h1 h2 => by unfold mix; rw [if_neg (by omega)]; unfold upd; rw [if_neg (by omega), if_neg (by omega), if_neg (by omega), if_neg (by omega), if_neg (by omega), if_neg (by omega), if_neg (by omega), if_neg (by omega), if_neg (by omega), if_neg (by omega)])
      go_upto_region 17 with (first
        | ((with_reducible refine gate_ (.load 29 (.tmp 54)) rfl ?_); refine wpl_loadm (p := 79) (m := 3) 29 (.tmp 54) rfl rfl HX.out (by omega) rfl Tryd.underlying29 rfl (by kernel_rfl) ?_; rw [Nat.zero_add, eR])
        | (go_at_call 39; refine (res_c _ _).mono ?_; rintro e w' ⟨rfl, hd⟩; have hX2 := blk_below HX.out hd; have hZ2 := blk_below HZ.out hd; have hB2 := HB.out.trans (hd.mono HB.out.size); clear HX HZ HB; have HX := Lib.hid (show Box w' b 31 (mix (upd (upd (upd (upd (upd (upd (upd (upd (upd (upd (c) 0 (bits .andNot .u64 (c 0) 1)) 42 (bits .andNot .u64 (c 42) 1)) 1 (0)) 33 (modeS (c 33))) 35 (statS (c 35))) 36 (bits .andNot .u64 (c 36) 2)) 37 (bits .and .u64 (c 37) 2184)) 38 (bits .and .u64 (c 38) 7)) 39 (bits .and .u64 (c 39) 5)) 40 (bits .and .u64 (c 40) 1)) (pmpS c) (0 + 47) 32) 0 82 from hX2); have HZ := Lib.hid hZ2; have HB := Lib.hid hB2; clear hX2 hZ2 hB2 hd)
        | ((with_reducible refine gate_ (.store 29 (.tmp 57) (.tmp 56)) rfl ?_); refine wpl_storem (p := 79) (m := 3) 29 (.tmp 57) (.tmp 56) rfl rfl HX.out (by omega) rfl rfl (by kernel_rfl) ?_; intro w21 hX2 hk2 hb2; have hZ2 := (hk2 g2 hne2).trans HZ.out; have hB2 := hb2 _ _ hbb HB.out; clear HX HZ HB hk2 hb2; have HX := Lib.hid hX2; have HZ := Lib.hid hZ2; have HB := Lib.hid hB2; clear hX2 hZ2 hB2))
      go_wp2_with (first
        | ((with_reducible refine gate_ (.load 31 (.tmp 1)) rfl ?_); refine wpl_load 31 (.tmp 1) rfl rfl HX.out rfl Tryd.underlying31 rfl (by kernel_rfl) ?_)
        | ((with_reducible refine gate_ (.store 31 (.tmp 2) (.tmp 58)) rfl ?_); refine wpl_store 31 (.tmp 2) (.tmp 58) rfl rfl HZ.out (by kernel_rfl) rfl rfl (by kernel_rfl) ?_; intro w5 hX5 _ hb5 _; have HX5 := Lib.hid hX5; have HB5 := Lib.hid (hb5 _ _ (by rw [HBB.out]; omega) HB.out); clear hX5 hb5))
      exact bodyPost_ret (results_cell_row rfl _ _ g2 31 _ (0, 0) _ rfl HX5.out Tryd.underlying31 rfl (by rw [cellsL_size]; kernel_rfl)) rfl ⟨rfl, HB5.out⟩
end Go.Proofs.YtbmnifnahbehbaaDoor

/- deck.told, deck.field: the CSRs that are told, and where each is kept. -/
set_option linter.unusedVariables false
namespace Go.Proofs.YtbmnifnahbehbaaDoor
open Go.RowKit Go.Lib Go.Shelf Go.Proofs.YtbmnifnahbehbaaDoorW.PrintWords Go.Proofs.YtbmnifnahbehbaaDoorW.PrintMore Go.Proofs.YtbmnifnahbehbaaDoorW.PrintLast
def toldA : Array Value := (toldL.map fun z => Value.int .i64 z).toArray
theorem told2_c (w : World) : Calls Tryd.prog 35 #[] w fun e w' => e = .returned (.slice (some ⟨w.heap.size, 0, none⟩) 12 12) ∧ w' = w.alloc (.cells toldA 3) := by
  go_enter Tryd.func35, Tryd.ntmps35
  go_wp2
  go_ret
  exact ⟨rfl, rfl⟩
theorem told_cell {w : World} {g : Nat} (h : w.heap[g]? = some (.cells toldA 3 (0, 0))) (j : Nat) (hj : j < 12) : w.cell? ⟨g, j, none⟩ = some (.int .i64 (toldL.getD j 0)) := by
  rw [blk_cell h j]
  match j, hj with
  | 0, _ => rfl
  | 1, _ => rfl
  | 2, _ => rfl
  | 3, _ => rfl
  | 4, _ => rfl
  | 5, _ => rfl
  | 6, _ => rfl
  | 7, _ => rfl
  | 8, _ => rfl
  | 9, _ => rfl
  | 10, _ => rfl
  | 11, _ => rfl
theorem told_ne : ∀ j k : Nat, j < 12 → k < 12 → j ≠ k → toldL.getD j 0 ≠ toldL.getD k 0 := by
  have h : ∀ j k : Fin 12, j ≠ k → toldL.getD j.val 0 ≠ toldL.getD k.val 0 := by decide
  intro j k hj hk hne
  exact h ⟨j, hj⟩ ⟨k, hk⟩ (fun e => hne (by injection e))
set_option maxHeartbeats 4000000 in
set_option maxRecDepth 100000 in
theorem field_c (b k : Nat) (hk : k < 12) (w : World) : Calls Tryd.prog 36 #[.pointer (some ⟨b, 0, none⟩), .int .i64 (toldL.getD k 0)] w fun e w' => e = .returned (.pointer (some ⟨b, 35 + k, none⟩)) ∧ Below w.heap.size w w' := by
  obtain ⟨n, hn⟩ : ∃ n, toldL.getD k 0 = n := ⟨_, rfl⟩
  rw [hn]
  go_enter Tryd.func36, Tryd.ntmps36
  have hp1 : ∀ v, v ∈ [Value.pointer (some ⟨b, 35, none⟩), Value.pointer (some ⟨b, 36, none⟩), Value.pointer (some ⟨b, 37, none⟩), Value.pointer (some ⟨b, 38, none⟩), Value.pointer (some ⟨b, 39, none⟩), Value.pointer (some ⟨b, 40, none⟩), Value.pointer (some ⟨b, 41, none⟩), Value.pointer (some ⟨b, 42, none⟩), Value.pointer (some ⟨b, 43, none⟩), Value.pointer (some ⟨b, 44, none⟩), Value.pointer (some ⟨b, 45, none⟩), Value.pointer (some ⟨b, 46, none⟩)] → v.oneCell' = true := by
    intro v hv
    simp only [List.mem_cons, List.not_mem_nil, or_false] at hv
    rcases hv with rfl | rfl | rfl | rfl | rfl | rfl | rfl | rfl | rfl | rfl | rfl | rfl <;> rfl
  have hp2 : (w.alloc (Obj.cells #[Value.pointer none, Value.pointer none, Value.pointer none, Value.pointer none, Value.pointer none, Value.pointer none, Value.pointer none, Value.pointer none, Value.pointer none, Value.pointer none, Value.pointer none, Value.pointer none] 99)).drew.there w.heap.size 0 ([Value.pointer (some ⟨b, 35, none⟩), Value.pointer (some ⟨b, 36, none⟩), Value.pointer (some ⟨b, 37, none⟩), Value.pointer (some ⟨b, 38, none⟩), Value.pointer (some ⟨b, 39, none⟩), Value.pointer (some ⟨b, 40, none⟩), Value.pointer (some ⟨b, 41, none⟩), Value.pointer (some ⟨b, 42, none⟩), Value.pointer (some ⟨b, 43, none⟩), Value.pointer (some ⟨b, 44, none⟩), Value.pointer (some ⟨b, 45, none⟩), Value.pointer (some ⟨b, 46, none⟩)] : List Value).length := fun j hj => by
    have hb := blk_new w (Obj.cells #[Value.pointer none, Value.pointer none, Value.pointer none, Value.pointer none, Value.pointer none, Value.pointer none, Value.pointer none, Value.pointer none, Value.pointer none, Value.pointer none, Value.pointer none, Value.pointer none] 99)
    have hj' : j < 12 := hj
    refine ⟨?_, blk_frozen (blk_drew hb) _⟩
    rw [blk_cell (blk_drew hb), Nat.zero_add]
    have : j < (#[Value.pointer none, Value.pointer none, Value.pointer none, Value.pointer none, Value.pointer none, Value.pointer none, Value.pointer none, Value.pointer none, Value.pointer none, Value.pointer none, Value.pointer none, Value.pointer none] : Array Value).size := hj'
    rw [Array.getElem?_eq_getElem this]
    rfl
  have hp3 : Option.map (fun x => x.size) (Tryd.prog.info? 99) = some ([Value.pointer (some ⟨b, 35, none⟩), Value.pointer (some ⟨b, 36, none⟩), Value.pointer (some ⟨b, 37, none⟩), Value.pointer (some ⟨b, 38, none⟩), Value.pointer (some ⟨b, 39, none⟩), Value.pointer (some ⟨b, 40, none⟩), Value.pointer (some ⟨b, 41, none⟩), Value.pointer (some ⟨b, 42, none⟩), Value.pointer (some ⟨b, 43, none⟩), Value.pointer (some ⟨b, 44, none⟩), Value.pointer (some ⟨b, 45, none⟩), Value.pointer (some ⟨b, 46, none⟩)] : List Value).length := by kernel_rfl
  go_upto_region 1 with (fail)
  go_region_held2 (fun _ => True) (trivial) (fail)
  obtain ⟨g, hg⟩ : ∃ g, w.heap.size = g := ⟨_, rfl⟩
  have hB1 : Below w.heap.size w (((w.alloc (Obj.cells #[Value.pointer none, Value.pointer none, Value.pointer none, Value.pointer none, Value.pointer none, Value.pointer none, Value.pointer none, Value.pointer none, Value.pointer none, Value.pointer none, Value.pointer none, Value.pointer none] 99)).drew).setCells w.heap.size 0 [Value.pointer (some ⟨b, 35, none⟩), Value.pointer (some ⟨b, 36, none⟩), Value.pointer (some ⟨b, 37, none⟩), Value.pointer (some ⟨b, 38, none⟩), Value.pointer (some ⟨b, 39, none⟩), Value.pointer (some ⟨b, 40, none⟩), Value.pointer (some ⟨b, 41, none⟩), Value.pointer (some ⟨b, 42, none⟩), Value.pointer (some ⟨b, 43, none⟩), Value.pointer (some ⟨b, 44, none⟩), Value.pointer (some ⟨b, 45, none⟩), Value.pointer (some ⟨b, 46, none⟩)]) := below_setCells _ (Nat.le_refl _) _ _ _ (below_drew ((Below.refl _ w).alloc (Nat.le_refl _) _))
  have hC1 := World.cell?_setCells_in w.heap.size [Value.pointer (some ⟨b, 35, none⟩), Value.pointer (some ⟨b, 36, none⟩), Value.pointer (some ⟨b, 37, none⟩), Value.pointer (some ⟨b, 38, none⟩), Value.pointer (some ⟨b, 39, none⟩), Value.pointer (some ⟨b, 40, none⟩), Value.pointer (some ⟨b, 41, none⟩), Value.pointer (some ⟨b, 42, none⟩), Value.pointer (some ⟨b, 43, none⟩), Value.pointer (some ⟨b, 44, none⟩), Value.pointer (some ⟨b, 45, none⟩), Value.pointer (some ⟨b, 46, none⟩)] 0 ((w.alloc (Obj.cells #[Value.pointer none, Value.pointer none, Value.pointer none, Value.pointer none, Value.pointer none, Value.pointer none, Value.pointer none, Value.pointer none, Value.pointer none, Value.pointer none, Value.pointer none, Value.pointer none] 99)).drew) (fun j hj => (hp2 j hj).1)
  have hz1 : w.heap.size < (((w.alloc (Obj.cells #[Value.pointer none, Value.pointer none, Value.pointer none, Value.pointer none, Value.pointer none, Value.pointer none, Value.pointer none, Value.pointer none, Value.pointer none, Value.pointer none, Value.pointer none, Value.pointer none] 99)).drew).setCells w.heap.size 0 [Value.pointer (some ⟨b, 35, none⟩), Value.pointer (some ⟨b, 36, none⟩), Value.pointer (some ⟨b, 37, none⟩), Value.pointer (some ⟨b, 38, none⟩), Value.pointer (some ⟨b, 39, none⟩), Value.pointer (some ⟨b, 40, none⟩), Value.pointer (some ⟨b, 41, none⟩), Value.pointer (some ⟨b, 42, none⟩), Value.pointer (some ⟨b, 43, none⟩), Value.pointer (some ⟨b, 44, none⟩), Value.pointer (some ⟨b, 45, none⟩), Value.pointer (some ⟨b, 46, none⟩)]).heap.size := by
    have h := hC1 0 (by simp)
    exact World.block_lt_of_cell? _ _ h
  obtain ⟨W1, hW1⟩ : ∃ W1, ((w.alloc (Obj.cells #[Value.pointer none, Value.pointer none, Value.pointer none, Value.pointer none, Value.pointer none, Value.pointer none, Value.pointer none, Value.pointer none, Value.pointer none, Value.pointer none, Value.pointer none, Value.pointer none] 99)).drew).setCells w.heap.size 0 [Value.pointer (some ⟨b, 35, none⟩), Value.pointer (some ⟨b, 36, none⟩), Value.pointer (some ⟨b, 37, none⟩), Value.pointer (some ⟨b, 38, none⟩), Value.pointer (some ⟨b, 39, none⟩), Value.pointer (some ⟨b, 40, none⟩), Value.pointer (some ⟨b, 41, none⟩), Value.pointer (some ⟨b, 42, none⟩), Value.pointer (some ⟨b, 43, none⟩), Value.pointer (some ⟨b, 44, none⟩), Value.pointer (some ⟨b, 45, none⟩), Value.pointer (some ⟨b, 46, none⟩)] = W1 := ⟨_, rfl⟩
  rw [hW1] at hB1 hC1 hz1 ⊢
  rw [hg] at hC1 hz1 ⊢
  have hcell : ∀ j, j < 12 → W1.cell? ⟨g, j, none⟩ = some (.pointer (some ⟨b, 35 + j, none⟩)) := fun j hj => by
    have h := hC1 j hj
    rw [Nat.zero_add] at h
    rw [h]
    congr 1
    match j, hj with
    | 0, _ => rfl
    | 1, _ => rfl
    | 2, _ => rfl
    | 3, _ => rfl
    | 4, _ => rfl
    | 5, _ => rfl
    | 6, _ => rfl
    | 7, _ => rfl
    | 8, _ => rfl
    | 9, _ => rfl
    | 10, _ => rfl
    | 11, _ => rfl
  have HC := Lib.hid hcell
  have HB := Lib.hid hB1
  have HN := Lib.hid hn
  have HZ := Lib.hid hz1
  clear hp1 hp2 hp3 hC1 hcell hB1 hn hW1 hz1 hg
  go_wp2_with (go_at_call 35; refine (told2_c _).mono ?_; rintro e w' ⟨rfl, hw⟩; subst hw)
  have hbt := blk_new W1 (.cells toldA 3)
  have hB2 := HB.out.trans (((Below.refl _ W1).alloc (Nat.le_refl _) (.cells toldA 3)).mono HB.out.size)
  obtain ⟨W2, hW2⟩ : ∃ W2, W1.alloc (.cells toldA 3) = W2 := ⟨_, rfl⟩
  have hc2 : ∀ j, j < 12 → W2.cell? ⟨g, j, none⟩ = some (.pointer (some ⟨b, 35 + j, none⟩)) := fun j hj => by
    rw [← hW2]
    exact (((Below.refl _ W1).alloc (Nat.le_refl _) (.cells toldA 3)).cell HZ.out).trans (HC.out j hj)
  obtain ⟨bt, hbt2⟩ : ∃ bt, W1.heap.size = bt := ⟨_, rfl⟩
  rw [hW2] at hbt hB2
  rw [hW2]
  rw [hbt2] at hbt ⊢
  have HC2 := Lib.hid hc2
  have HB2 := Lib.hid hB2
  have HT := Lib.hid hbt
  clear HC HB HZ hc2 hB2 hbt hW2 hbt2
  go_loopg [47] 12 (fun gm v47 wx => ∃ j : Nat, v47 = .int .i64 (j : Int) ∧ j ≤ k ∧ Hid (gm + j = 12) ∧ Hid (wx = W2))
  case atStart => exact ⟨0, rfl, Nat.zero_le _, Lib.hid rfl, Lib.hid rfl⟩
  case round =>
    obtain ⟨j, rfl, hj, HJ, HW⟩ := hrel
    obtain rfl := HW.out.symm
    obtain ⟨gm, rfl⟩ : ∃ q, gk = q + 1 := ⟨gk - 1, by have := HJ.out; omega⟩
    have e1 : (j : Int) < 12 := by omega
    have hr := told_cell HT.out j (by omega)
    by_cases hjk : j = k
    · subst hjk
      rw [HN.out] at hr
      have hc := HC2.out j hk
      have e2 : (n == n) = true := beq_self_eq_true n
      have e0 : (0 : Int) ≤ (j : Int) := by omega
      go_wp2
      go_ret
      exact ⟨rfl, HB2.out⟩
    · have hne : (toldL.getD j 0 == n) = false := by
        rw [← HN.out]
        exact beq_eq_false_iff_ne.mpr (told_ne j k (by omega) hk hjk)
      obtain ⟨m, hm⟩ : ∃ m, toldL.getD j 0 = m := ⟨_, rfl⟩
      rw [hm] at hr hne
      go_wp2
      go_roundg gm
      case measure => omega
      case rel => exact ⟨j + 1, by go_num, by omega, Lib.hid (by have := HJ.out; omega), Lib.hid rfl⟩
end Go.Proofs.YtbmnifnahbehbaaDoor

/- deck.cpu: the Cpu's lines, written into the builder. -/
set_option linter.unusedVariables false
namespace Go.Proofs.YtbmnifnahbehbaaDoor
open Go.RowKit Go.Lib Go.Shelf Go.Proofs.YtbmnifnahbehbaaDoorW.PrintWords Go.Proofs.YtbmnifnahbehbaaDoorW.PrintMore Go.Proofs.YtbmnifnahbehbaaDoorW.PrintLast
open PPr
/-- The world of the walk: the variables stand; the builder bb holds l; the boxes b2 (of the builder) and b3 (the Cpu); k bounds the length. -/
structure CS (w : World) (bb b2 b3 : Nat) (c : Cp) (k : Nat) (l : List UInt8) (W : World) : Prop where
  kp : KpB bb w W
  isb : IsB bb l W
  x2 : W.heap[b2]? = some (.cells #[.pointer (some ⟨bb, 0, none⟩)] 49 (0, 0))
  x3 : Box W b3 31 c 0 82
  gl : Glob W
  n2 : b2 ≠ bb
  n3 : b3 ≠ bb
  bl : 11 ≤ bb
  ln : l.length ≤ 1000000000 + 1000 * k
theorem CS.below {w : World} {bb b2 b3 : Nat} {c : Cp} {k : Nat} {l : List UInt8} {W W' : World} (h : CS w bb b2 b3 c k l W) (hb : Below W.heap.size W W') : CS w bb b2 b3 c k l W' :=
  ⟨h.kp.trans (KpB.of_below hb (Nat.le_of_lt h.isb.lt)), h.isb.below hb, blk_below h.x2 hb, blk_below h.x3 hb, Glob.step h.gl hb, h.n2, h.n3, h.bl, h.ln⟩
theorem CS.more {w : World} {bb b2 b3 : Nat} {c : Cp} {k k' : Nat} {l : List UInt8} {W : World} (h : CS w bb b2 b3 c k l W) (hk : k ≤ k') : CS w bb b2 b3 c k' l W :=
  { h with ln := by have := h.ln; omega }
theorem KpB.after {bb : Nat} {w w' : World} (h : KpB bb w w') : True := trivial
theorem mkStrs {w : World} {g : Nat} {t : TypeId} {cs : Array Value} {xs : List ByteArray} (h : w.heap[g]? = some (.cells cs t (0, 0))) (e : cs = (xs.map Value.string).toArray) : Strs w (some ⟨g, 0, none⟩) xs := by
  refine ⟨g, 0, rfl, blk_lt h, fun j x hj => ?_⟩
  rw [Nat.zero_add, blk_cell h j, e]
  simp [hj]
theorem CS.line {w : World} {bb b2 b3 : Nat} {c : Cp} {k : Nat} {l : List UInt8} {W : World} (h : CS w bb b2 b3 c k l W) (xs : List ByteArray) {n : Nat} {cs : Array Value} (hcs : cs = (xs.map Value.string).toArray) (hn : xs.length = n) (h10 : xs.length ≤ 10) (hk : k ≤ 1000000) (hL : (lineL xs).length ≤ 1000) :
    Calls Tryd.prog 31 #[.slice (some ⟨W.heap.size, 0, none⟩) n n, .pointer (some ⟨b2, 0, none⟩)] (W.alloc (.cells cs 9)) fun e w' => e = .returned (.tuple #[]) ∧ CS w bb b2 b3 c (k + 1) (l ++ lineL xs) w' := by
  subst hn
  have h1 := h.below ((Below.refl _ W).alloc (Nat.le_refl _) (.cells cs 9))
  refine (line_c xs h1.isb h1.x2 h1.n2 (mkStrs (blk_new W _) hcs) (Nat.le_refl _) h10 (by have := h1.ln; omega)).mono ?_
  rintro e w' ⟨he, hi, hkp⟩
  exact ⟨he, h1.kp.trans hkp, hi, hkp.blk h1.x2 (by decide) h1.n2, hkp.blk h1.x3 (by decide) h1.n3, h1.gl.low (hkp.1.mono h1.bl) (Nat.le_refl _), h1.n2, h1.n3, h1.bl, by have := h1.ln; rw [List.length_append]; omega⟩
theorem lineL_len (xs : List ByteArray) : (lineL xs).length ≤ (xs.map (·.size)).sum + xs.length + 1 := by
  unfold lineL
  rw [List.length_append]
  cases xs with
  | nil => simp [Lib.join]
  | cons x r =>
    rw [List.map_cons, Lib.join_length]
    have e : ∀ l : List ByteArray, Lib.lens (l.map (·.data.toList)) = (l.map (·.size)).sum := by
      intro l
      unfold Lib.lens
      rw [List.map_map]
      congr 1
    have e1 := e (x :: r)
    rw [List.map_cons] at e1
    rw [e1]
    simp only [List.length_map, List.length_cons, List.length_nil]
    omega
def Z0 : Cp := cpuS (fun _ => 0)
/-- .. and the box b7 of the least Cpu stands. -/
structure CS2 (w : World) (bb b2 b3 b7 : Nat) (c : Cp) (k : Nat) (l : List UInt8) (W : World) : Prop where
  s : CS w bb b2 b3 c k l W
  x7 : Box W b7 31 Z0 0 82
  n7 : b7 ≠ bb
/-- .. and the row bt of the CSRs that are told. -/
structure CS3 (w : World) (bb b2 b3 b7 bt : Nat) (c : Cp) (k : Nat) (l : List UInt8) (W : World) : Prop where
  s : CS2 w bb b2 b3 b7 c k l W
  xt : W.heap[bt]? = some (.cells toldA 3 (0, 0))
  nt : bt ≠ bb
theorem CS2.told {w : World} {bb b2 b3 b7 : Nat} {c : Cp} {k : Nat} {l : List UInt8} {W : World} (h : CS2 w bb b2 b3 b7 c k l W) : CS3 w bb b2 b3 b7 W.heap.size c k l (W.alloc (.cells toldA 3)) :=
  have hb := (Below.refl _ W).alloc (Nat.le_refl _) (.cells toldA 3)
  ⟨⟨h.s.below hb, blk_below h.x7 hb, h.n7⟩, blk_new W _, Nat.ne_of_gt h.s.isb.lt⟩
theorem CS3.below {w : World} {bb b2 b3 b7 bt : Nat} {c : Cp} {k : Nat} {l : List UInt8} {W W' : World} (h : CS3 w bb b2 b3 b7 bt c k l W) (hb : Below W.heap.size W W') : CS3 w bb b2 b3 b7 bt c k l W' :=
  ⟨⟨h.s.s.below hb, blk_below h.s.x7 hb, h.s.n7⟩, blk_below h.xt hb, h.nt⟩
theorem CS3.line {w : World} {bb b2 b3 b7 bt : Nat} {c : Cp} {k : Nat} {l : List UInt8} {W : World} (h : CS3 w bb b2 b3 b7 bt c k l W) (xs : List ByteArray) {n : Nat} {cs : Array Value} (hcs : cs = (xs.map Value.string).toArray) (hn : xs.length = n) (h10 : xs.length ≤ 10) (hk : k ≤ 1000000) (hL : (lineL xs).length ≤ 1000) :
    Calls Tryd.prog 31 #[.slice (some ⟨W.heap.size, 0, none⟩) n n, .pointer (some ⟨b2, 0, none⟩)] (W.alloc (.cells cs 9)) fun e w' => e = .returned (.tuple #[]) ∧ CS3 w bb b2 b3 b7 bt c (k + 1) (l ++ lineL xs) w' := by
  subst hn
  have h1 := h.below ((Below.refl _ W).alloc (Nat.le_refl _) (.cells cs 9))
  have hs := h1.s.s
  refine (line_c xs hs.isb hs.x2 hs.n2 (mkStrs (blk_new W _) hcs) (Nat.le_refl _) h10 (by have := hs.ln; omega)).mono ?_
  rintro e w' ⟨he, hi, hkp⟩
  exact ⟨he, ⟨⟨hs.kp.trans hkp, hi, hkp.blk hs.x2 (by decide) hs.n2, hkp.blk hs.x3 (by decide) hs.n3, hs.gl.low (hkp.1.mono hs.bl) (Nat.le_refl _), hs.n2, hs.n3, hs.bl, by have := hs.ln; rw [List.length_append]; omega⟩, hkp.blk h1.s.x7 (by decide) h1.s.n7, h1.s.n7⟩, hkp.blk h1.xt (by decide) h1.nt, h1.nt⟩
theorem cell_m {w : World} {g : Nat} {c : Cp} (h : Box w g 31 c 0 82) {i : Nat} (hi : i < 12) {v : Int} (hv : c (35 + i) = v) : w.cell? ⟨g, 35 + i, none⟩ = some (.int .u64 v) := by
  rw [h.cell (35 + i) (by omega), Nat.zero_add, hv]
  unfold cellOf
  rw [if_neg (by omega), if_neg (by omega), if_neg (by omega)]
theorem CS3.more {w : World} {bb b2 b3 b7 bt : Nat} {c : Cp} {k k' : Nat} {l : List UInt8} {W : World} (h : CS3 w bb b2 b3 b7 bt c k l W) (hk : k ≤ k') : CS3 w bb b2 b3 b7 bt c k' l W :=
  ⟨⟨h.s.s.more hk, h.s.x7, h.s.n7⟩, h.xt, h.nt⟩
theorem CS3.csr0 {w : World} {bb b2 b3 b7 bt : Nat} {c : Cp} {k : Nat} {l : List UInt8} {W : World} {i : Nat} (h : CS3 w bb b2 b3 b7 bt c (k + i) (l ++ TX (csrW c Z0 i)) W) (hv : c (35 + i) = Z0 (35 + i)) : CS3 w bb b2 b3 b7 bt c (k + (i + 1)) (l ++ TX (csrW c Z0 (i + 1))) W := by
  rw [csrW, if_pos hv, List.append_nil]
  exact h.more (by omega)
theorem CS3.csr1 {w : World} {bb b2 b3 b7 bt : Nat} {c : Cp} {k : Nat} {l : List UInt8} {W : World} {i : Nat} (_ : CS3 w bb b2 b3 b7 bt c (k + i) (l ++ TX (csrW c Z0 i)) W) {v : Int} (hv : c (35 + i) = v) (h0 : v ≠ Z0 (35 + i)) (W' : World) (h' : CS3 w bb b2 b3 b7 bt c (k + i + 1) (l ++ TX (csrW c Z0 i) ++ lineL [wCsr, csrB i, hexB v]) W') : CS3 w bb b2 b3 b7 bt c (k + (i + 1)) (l ++ TX (csrW c Z0 (i + 1))) W' := by
  rw [csrW, hv, if_neg h0, ← TX_snoc]
  exact h'
theorem cell_c {w : World} {g : Nat} {c : Cp} (h : Box w g 31 c 0 82) {i : Nat} (hi : i < 16) {v : Int} (hv : c (47 + i) = v) : w.cell? ⟨g, 47 + i, none⟩ = some (.int .u8 v) := by
  rw [h.cell (47 + i) (by omega), Nat.zero_add, hv, cell_u8 hi]
theorem cell_a {w : World} {g : Nat} {c : Cp} (h : Box w g 31 c 0 82) {i : Nat} (hi : i < 16) {v : Int} (hv : c (63 + i) = v) : w.cell? ⟨g, 63 + i, none⟩ = some (.int .u64 v) := by
  rw [h.cell (63 + i) (by omega), Nat.zero_add, hv, cell_u64 hi]
theorem CS.pmp0 {w : World} {bb b2 b3 : Nat} {c : Cp} {k : Nat} {l : List UInt8} {W : World} {i : Nat} (h : CS w bb b2 b3 c (k + i) (l ++ TX (pmpW c i)) W) {v a : Int} (hv : c (47 + i) = v) (ha : c (63 + i) = a) (hz : v = 0 ∧ a = 0) : CS w bb b2 b3 c (k + (i + 1)) (l ++ TX (pmpW c (i + 1))) W := by
  rw [pmpW, hv, ha, if_pos hz, List.append_nil]
  exact h.more (by omega)
theorem CS.pmp1 {w : World} {bb b2 b3 : Nat} {c : Cp} {k : Nat} {l : List UInt8} {W : World} {i : Nat} (_ : CS w bb b2 b3 c (k + i) (l ++ TX (pmpW c i)) W) {v a : Int} (hv : c (47 + i) = v) (ha : c (63 + i) = a) (hz : ¬ (v = 0 ∧ a = 0)) (W' : World) (h' : CS w bb b2 b3 c (k + i + 1) (l ++ TX (pmpW c i) ++ lineL [wPmp, itoaB i, hexB v, hexB a]) W') : CS w bb b2 b3 c (k + (i + 1)) (l ++ TX (pmpW c (i + 1))) W' := by
  rw [pmpW, hv, ha, if_neg hz, ← TX_snoc]
  exact h'
def Ok64 (n : Int) : Prop := 0 ≤ n ∧ n < 18446744073709551616
theorem len_pc {v : Int} (h : Ok64 v) : (lineL [wPc, hexB v]).length ≤ 1000 := by
  have h1 := lineL_len [wPc, hexB v]
  have h2 := hexB_size h
  have h3 : wPc.size = 2 := rfl
  simp only [List.map_cons, List.map_nil, List.sum_cons, List.sum_nil, List.length_cons, List.length_nil] at h1
  omega
theorem len_wait : (lineL [wWait]).length ≤ 1000 := by have h1 := lineL_len [wWait]; have h3 : wWait.size = 7 := rfl; simp only [List.map_cons, List.map_nil, List.sum_cons, List.sum_nil, List.length_cons, List.length_nil] at h1; omega
def waitT (c : Cp) : List UInt8 := if c 34 = 0 then [] else lineL [wWait]
theorem wait_eq {c : Cp} {b : Bool} (h : decide (c 34 ≠ 0) = b) : waitT c = if b = true then lineL [wWait] else [] := by
  unfold waitT
  subst h
  by_cases h : c 34 = 0 <;> simp [h]
theorem CS.wait1 {w : World} {bb b2 b3 : Nat} {c : Cp} {k : Nat} {l : List UInt8} {W : World} (h : CS w bb b2 b3 c (k + 1) (l ++ lineL [wWait]) W) (e : decide (c 34 ≠ 0) = true) : CS w bb b2 b3 c (k + 1) (l ++ waitT c) W := by
  rw [wait_eq e]
  exact h
theorem CS.wait0 {w : World} {bb b2 b3 : Nat} {c : Cp} {k : Nat} {l : List UInt8} {W : World} (h : CS w bb b2 b3 c k l W) (e : decide (c 34 ≠ 0) = false) : CS w bb b2 b3 c (k + 1) (l ++ waitT c) W := by
  rw [wait_eq e, if_neg (by decide), List.append_nil]
  exact h.more (by omega)
theorem regB_size : ∀ i : Fin 32, (regB i.val).size ≤ 8 := by decide +kernel
theorem len_reg {i : Nat} (hi : i < 32) {v : Int} (h : Ok64 v) : (lineL [wReg, regB i, hexB v]).length ≤ 1000 := by
  have h1 := lineL_len [wReg, regB i, hexB v]
  have h2 := hexB_size h
  have h3 : wReg.size = 3 := rfl
  have h4 := regB_size ⟨i, hi⟩
  simp only [List.map_cons, List.map_nil, List.sum_cons, List.sum_nil, List.length_cons, List.length_nil] at h1 h4
  omega
theorem CS.reg0 {w : World} {bb b2 b3 : Nat} {c : Cp} {k : Nat} {l : List UInt8} {W : World} {i : Nat} (h : CS w bb b2 b3 c (k + i) (l ++ TX (regW c i)) W) (hi : i < 32) (hv : c (1 + i) = 0) : CS w bb b2 b3 c (k + (i + 1)) (l ++ TX (regW c (i + 1))) W := by
  rw [regW, if_pos hv, List.append_nil]
  exact h.more (by omega)
theorem CS.reg1 {w : World} {bb b2 b3 : Nat} {c : Cp} {k : Nat} {l : List UInt8} {W : World} {i : Nat} (h : CS w bb b2 b3 c (k + i) (l ++ TX (regW c i)) W) (hi : i < 32) {v : Int} (hv : c (1 + i) = v) (h0 : v ≠ 0) (W' : World) (h' : CS w bb b2 b3 c (k + i + 1) (l ++ TX (regW c i) ++ lineL [wReg, regB i, hexB v]) W') : CS w bb b2 b3 c (k + (i + 1)) (l ++ TX (regW c (i + 1))) W' := by
  rw [regW, hv, if_neg h0, ← TX_snoc]
  exact h'
theorem csrB_size : ∀ i : Fin 12, (csrB i.val).size ≤ 20 := by decide +kernel
theorem len_csr {i : Nat} (hi : i < 12) {v : Int} (h : Ok64 v) : (lineL [wCsr, csrB i, hexB v]).length ≤ 1000 := by
  have h1 := lineL_len [wCsr, csrB i, hexB v]
  have h2 := hexB_size h
  have h3 : wCsr.size = 3 := rfl
  have h4 := csrB_size ⟨i, hi⟩
  simp only [List.map_cons, List.map_nil, List.sum_cons, List.sum_nil, List.length_cons, List.length_nil] at h1 h4
  omega
theorem dec_len : ∀ (k n : Nat), n < 10 ^ (k + 1) → (Lib.decDigits n).length ≤ k + 1
  | 0, n, h => by
    rw [Lib.decDigits, dif_pos (by omega)]
    exact Nat.le_refl _
  | k + 1, n, h => by
    rw [Lib.decDigits]
    split
    · exact Nat.succ_le_succ (Nat.zero_le _)
    · have := dec_len k (n / 10) (by rw [Nat.div_lt_iff_lt_mul (by decide)]; rw [Nat.pow_succ] at h; exact h)
      rw [List.length_append]
      simp only [List.length_cons, List.length_nil]
      omega
theorem itoa_size (n : Nat) (h : n < 1000000) : (itoaB n).size ≤ 20 := by
  have h1 := dec_len 5 n (by omega)
  unfold itoaB
  rw [Lib.itoa_nonneg]
  show (Lib.decDigits n).toArray.size ≤ 20
  simpa using Nat.le_trans h1 (by decide)
theorem len_pmp {i : Nat} (hi : i < 16) {v a : Int} (h : Ok64 v) (ha : Ok64 a) : (lineL [wPmp, itoaB i, hexB v, hexB a]).length ≤ 1000 := by
  have h1 := lineL_len [wPmp, itoaB i, hexB v, hexB a]
  have h2 := hexB_size h
  have h5 := hexB_size ha
  have h3 : wPmp.size = 3 := rfl
  have h4 := itoa_size i (by omega)
  simp only [List.map_cons, List.map_nil, List.sum_cons, List.sum_nil, List.length_cons, List.length_nil] at h1
  omega
theorem modeB_size (m : Int) : (modeB m).size ≤ 1 := by
  unfold modeB
  split
  · decide
  split <;> decide
theorem len_mode (m : Int) : (lineL [wMode, modeB m]).length ≤ 1000 := by
  have h1 := lineL_len [wMode, modeB m]
  have h2 := modeB_size m
  have h3 : wMode.size = 4 := rfl
  simp only [List.map_cons, List.map_nil, List.sum_cons, List.sum_nil, List.length_cons, List.length_nil] at h1
  omega
theorem wrap_ok {v : Int} (h : Ok64 v) : IntKind.u64.wrap v = v := by
  rw [IntKind.wrap_u64]
  have := h.1
  have := h.2
  omega
theorem cell_80 {w : World} {g : Nat} {c : Cp} (h : Box w g 31 c 0 82) {v : Int} (hv : c 80 = v) : w.cell? ⟨g, 80, none⟩ = some (.int .u64 v) := by
  rw [← hv]
  exact h.cell 80 (by omega)
theorem cell_81 {w : World} {g : Nat} {c : Cp} (h : Box w g 31 c 0 82) {v : Int} (hv : c 81 = v) : w.cell? ⟨g, 81, none⟩ = some (.int .i64 v) := by
  rw [← hv]
  exact h.cell 81 (by omega)
def resT (c : Cp) : List UInt8 := if c 79 = 0 then [] else lineL [wRes, hexB (c 80), itoaB (c 81)]
theorem resT_no {c : Cp} (h : decide (c 79 ≠ 0) = false) : resT c = [] := by
  have h := of_decide_eq_false h
  unfold resT
  rw [if_pos (Decidable.not_not.mp h)]
theorem resT_yes {c : Cp} (h : decide (c 79 ≠ 0) = true) : resT c = lineL [wRes, hexB (c 80), itoaB (c 81)] := by
  have h := of_decide_eq_true h
  unfold resT
  rw [if_neg h]
/-- The text of a Cpu. -/
def cpuT (c : Cp) : List UInt8 := lineL [wPc, hexB (c 0)] ++ lineL [wMode, modeB (c 33)] ++ waitT c ++ TX (regW c 32) ++ TX (csrW c Z0 12) ++ TX (pmpW c 16) ++ resT c
theorem cpuT_eq {l l6 l7 l8 l9 l10 : List UInt8} {c : Cp} (h6 : l ++ lineL [wPc, hexB (c 0)] ++ lineL [wMode, modeB (c 33)] = l6) (h7 : l6 ++ waitT c = l7) (h8 : l7 ++ TX (regW c 32) = l8) (h9 : l8 ++ TX (csrW c Z0 12) = l9) (h10 : l9 ++ TX (pmpW c 16) = l10) : l ++ cpuT c = l10 ++ resT c := by
  subst h6 h7 h8 h9 h10
  unfold cpuT
  simp only [List.append_assoc]
theorem len_res {v : Int} (h : Ok64 v) {n : Int} (hn : 0 ≤ n ∧ n < 1000000) : (lineL [wRes, hexB v, itoaB n]).length ≤ 1000 := by
  have h1 := lineL_len [wRes, hexB v, itoaB n]
  have h2 := hexB_size h
  have h3 : wRes.size = 3 := rfl
  obtain ⟨m, rfl⟩ := Int.eq_ofNat_of_zero_le hn.1
  have h4 := itoa_size m (by omega)
  simp only [List.map_cons, List.map_nil, List.sum_cons, List.sum_nil, List.length_cons, List.length_nil] at h1
  omega
set_option maxHeartbeats 4000000 in
set_option maxRecDepth 100000 in
theorem cpu_c (bb : Nat) (l : List UInt8) (c : Cp) (w : World) (hI : IsB bb l w) (hG : Glob w) (hbb : 11 ≤ bb) (h0 : Ok64 (c 0)) (hR : ∀ i, i < 32 → Ok64 (c (1 + i))) (hM : ∀ i, i < 12 → Ok64 (c (35 + i))) (hP : ∀ i, i < 16 → Ok64 (c (47 + i)) ∧ Ok64 (c (63 + i))) (hRS : Ok64 (c 80) ∧ 0 ≤ c 81 ∧ c 81 < 1000000) (hl : l.length ≤ 1000000) :
    Calls Tryd.prog 12 #[.pointer (some ⟨bb, 0, none⟩), .agg (cpuL c).toArray] w fun e w' => e = .returned (.tuple #[]) ∧ IsB bb (l ++ cpuT c) w' ∧ KpB bb w w' ∧ (l ++ cpuT c).length ≤ 2000000000 := by
  obtain ⟨CV, hCV⟩ : ∃ CV, (cpuL c).toArray = CV := ⟨_, rfl⟩
  rw [hCV]
  have HR := Lib.hid hR
  have HRM := Lib.hid hM
  have HRP := Lib.hid hP
  have HRR := Lib.hid hRS
  clear hR hM hP hRS
  have HI := Lib.hid hI
  have HG := Lib.hid hG
  go_enter Tryd.func12, Tryd.ntmps12
  go_upto_region 2 with (first
    | ((with_reducible refine gate_dst (N := 2) rfl ?_); refine box_event ?hg (N := 2) ?hd (cs := #[.pointer (some ⟨bb, 0, none⟩)]) (t := 49) ?hr ?_; (case hd => rfl); (case hg => rfl); (case hr => rfl); intro b2 hg2 w1 hb1 hd1; have HG2 := Lib.hid hg2; clear hg2)
    | ((with_reducible refine gate_dst (N := 3) rfl ?_); refine box_event ?hg (N := 3) ?hd (cs := CV) (t := 31) ?hr ?_; (case hd => rfl); (case hg => rfl); (case hr => rfl); intro b3 hg3 w2 hb2 hd2; have HG3 := Lib.hid hg3; clear hg3))
  have hg2 := HG2.out
  have hg3 := HG3.out
  have hS0 : CS w bb b2 b3 c 0 l w2 := by
    have hbl := hI.lt
    have hd12 := hd1.trans (hd2.mono hd1.size)
    refine ⟨KpB.of_below hd12 (Nat.le_of_lt hbl), hI.below hd12, blk_below hb1 hd2, by rw [← hCV] at hb2; exact hb2, Glob.step hG hd12, by omega, ?_, hbb, by omega⟩
    have := hd1.size
    omega
  have HS := Lib.hid hS0
  have HBB := Lib.hid hbb
  have h23 : b2 ≠ b3 := by have := blk_lt hb1; omega
  clear hS0 hb1 hb2 hd1 hd2 hg2 hg3 hI hG HI HG hCV hbb HG2 HG3
  have q := HS.out.x3.cell 0 (by omega)
  replace q : _ = some (Value.int .u64 (c 0)) := q
  go_upto_region 3 with (first
    | (go_at_call 11; refine (hex_c h0 _ HS.out.gl).mono ?_; rintro e w3 ⟨rfl, hd⟩; have hS := HS.out.below hd; clear HS q hd; have HS := Lib.hid hS; clear hS)
    | (go_at_call 31; refine (HS.out.line [wPc, hexB (c 0)] rfl rfl (by simp) (by omega) (len_pc h0)).mono ?_; rintro e w4 ⟨rfl, hS⟩; clear HS; have HS := Lib.hid hS; clear hS))
  have q := HS.out.x3.cell 33 (by omega)
  replace q : _ = some (Value.int .i64 (c 33)) := q
  go_upto_region 4 with (first
    | (go_at_call 33; refine (mode_c (c 33) _).mono ?_; rintro e w5 ⟨rfl, ⟨nd, rfl⟩⟩; have hS := HS.out.below (pw_below_drewN (Below.refl _ _) nd); clear HS q; have HS := Lib.hid hS; clear hS)
    | (go_at_call 31; refine (HS.out.line [wMode, modeB (c 33)] rfl rfl (by simp) (by omega) (len_mode _)).mono ?_; rintro e w6 ⟨rfl, hS⟩; clear HS; have HS := Lib.hid hS; clear hS))
  have q := HS.out.x3.cell 34 (by omega)
  replace q : _ = some (Value.bool (decide (c 34 ≠ 0))) := q
  obtain ⟨l6, k6, hl6, hk6⟩ : ∃ l6 k6, l ++ lineL [wPc, hexB (c 0)] ++ lineL [wMode, modeB (c 33)] = l6 ∧ (0 + 1 + 1) = k6 := ⟨_, _, rfl, rfl⟩
  rw [hl6, hk6] at HS
  have HL6 := Lib.hid hl6
  have HK6 := Lib.hid hk6
  have hk6b : k6 ≤ 10 := by omega
  clear hl6 hk6
  obtain ⟨wv, hwv⟩ : ∃ wv, decide (c 34 ≠ 0) = wv := ⟨_, rfl⟩
  rw [hwv] at q
  cases wv <;> (go_upto_region 6 with (first
    | (go_at_call 31; refine (HS.out.line [wWait] rfl rfl (by simp) (by omega) len_wait).mono ?_; rintro e w7 ⟨rfl, hS⟩; clear HS; have HS := Lib.hid hS; clear hS)))
  all_goals
    first
      | have hS := HS.out.wait1 hwv
      | have hS := HS.out.wait0 hwv
    clear HS q hwv
    have HS := Lib.hid hS
    clear hS
    obtain ⟨l7, hl7⟩ : ∃ l7, l6 ++ waitT c = l7 := ⟨_, rfl⟩
    rw [hl7] at HS
    have HL7 := Lib.hid hl7
    clear hl7
    go_wp2_with (first
      | ((with_reducible refine gate_ (.load 23 (.tmp 30)) rfl ?_); refine wpl_loadm (p := 1) (m := 32) 23 (.tmp 30) rfl rfl HS.out.x3 (by omega) rfl Tryd.underlying23 rfl (by kernel_rfl) ?_; rw [Nat.zero_add]))
    have hidx := fun i (hi : i < 32) W => idx_x c i hi W
    obtain ⟨AV, hAV⟩ : ∃ AV, (cellsL c 1 32).toArray = AV := ⟨_, rfl⟩
    rw [hAV]
    simp only [hAV] at hidx
    have HIX := Lib.hid hidx
    clear hidx hAV
    go_loopg [32] 32 (fun gm v32 wx => ∃ i : Nat, v32 = .int .i64 (i : Int) ∧ i ≤ 32 ∧ Hid (gm + i = 32) ∧ Hid (CS w bb b2 b3 c (k6 + 1 + i) (l7 ++ TX (regW c i)) wx))
    case atStart => exact ⟨0, rfl, by omega, Lib.hid rfl, Lib.hid (by rw [show TX (regW c 0) = [] from rfl, List.append_nil]; exact HS.out)⟩
    case round =>
      clear HS
      obtain ⟨i, rfl, hi, HI, HS⟩ := hrel
      by_cases hlt : i < 32
      · obtain ⟨gm, rfl⟩ : ∃ k, gk = k + 1 := ⟨gk - 1, by have := HI.out; omega⟩
        have e1 : (i : Int) < 32 := by omega
        have hx := HIX.out i hlt
        obtain ⟨v, hv⟩ : ∃ v, c (1 + i) = v := ⟨_, rfl⟩
        rw [hv] at hx
        have hok := HR.out i hlt
        rw [hv] at hok
        cases hz : (v != 0)
        · have hS := HS.out.reg0 hlt (by rw [hv]; exact bne_eq_false_iff_eq.mp hz)
          clear HS
          have HS := Lib.hid hS
          clear hS
          go_wp2
          go_roundg gm
          case measure => omega
          case rel => exact ⟨i + 1, by go_num, by omega, Lib.hid (by have := HI.out; omega), HS⟩
        · have hS := HS.out.reg1 hlt (v := v) hv (bne_iff_ne.mp hz)
          go_wp2_with (first
            | (go_at_call 34; refine (reg_c hlt _ HS.out.gl).mono ?_; rintro e w8 ⟨rfl, hd⟩; have hS2 := HS.out.below hd; clear HS hd; have HS := Lib.hid hS2; clear hS2)
            | (go_at_call 11; refine (hex_c hok _ HS.out.gl).mono ?_; rintro e w9 ⟨rfl, hd⟩; have hS2 := HS.out.below hd; clear HS hd; have HS := Lib.hid hS2; clear hS2)
            | (go_at_call 31; refine (HS.out.line [wReg, regB i, hexB v] rfl rfl (by simp) (by omega) (len_reg hlt hok)).mono ?_; rintro e w10 ⟨rfl, hS3⟩; have hS2 := hS w10 hS3; clear HS hS3; have HS := Lib.hid hS2; clear hS2))
          go_roundg gm
          case measure => omega
          case rel => exact ⟨i + 1, by go_num, by omega, Lib.hid (by have := HI.out; omega), HS⟩
      · have hi32 : i = 32 := by omega
        subst hi32
        obtain ⟨l8, hl8⟩ : ∃ l8, l7 ++ TX (regW c 32) = l8 := ⟨_, rfl⟩
        have hS := HS.out
        rw [hl8] at hS
        clear HS
        have HS := Lib.hid hS
        have HL8 := Lib.hid hl8
        clear hS hl8
        go_upto_region 13 with (first
          | (go_at_call 13; refine (csr_c (fun _ => 0) _).mono ?_; rintro e w11 ⟨rfl, hd⟩; have hS2 := HS.out.below hd; clear HS hd; have HS := Lib.hid hS2; clear hS2)
          | ((with_reducible refine gate_ (.store 31 (.tmp 7) (.tmp 47)) rfl ?_); refine wpl_store 31 (.tmp 7) (.tmp 47) rfl rfl (blk_new _ _) (by kernel_rfl) rfl rfl (by kernel_rfl) ?_; intro w12 hR3 hk3 hb3 hs3; have hd3 := hb3 _ _ (Nat.le_refl _) ((Below.refl _ w11).alloc (Nat.le_refl _) _); have hn7 := Nat.ne_of_gt HS.out.isb.lt; obtain ⟨b7, hb7⟩ : ∃ b7, w11.heap.size = b7 := ⟨_, rfl⟩; rw [hb7] at hR3 hn7 ⊢; have hS2 : CS2 w bb b2 b3 b7 c _ _ w12 := ⟨HS.out.below hd3, hR3, hn7⟩; clear HS hR3 hk3 hb3 hs3 hd3 hn7 hb7; have HS := Lib.hid hS2; clear hS2))
        go_wp2_with (go_at_call 35; refine (told2_c _).mono ?_; rintro e w' ⟨rfl, hw⟩; subst hw)
        have hS3 := HS.out.told
        obtain ⟨bt, hbt⟩ : ∃ bt, w12.heap.size = bt := ⟨_, rfl⟩
        obtain ⟨w13, hw13⟩ : ∃ w13, w12.alloc (.cells toldA 3) = w13 := ⟨_, rfl⟩
        rw [hw13, hbt] at hS3
        rw [hw13, hbt]
        clear hw13 hbt HS
        have HS := Lib.hid hS3
        clear hS3
        obtain ⟨k8, hk8⟩ : ∃ k8, k6 + 1 + 32 = k8 := ⟨_, rfl⟩
        rw [hk8] at HS
        have hk8b : k8 ≤ 100 := by omega
        clear hk8
        go_loopg [50] 12 (fun gm v50 wx => ∃ i : Nat, v50 = .int .i64 (i : Int) ∧ i ≤ 12 ∧ Hid (gm + i = 12) ∧ Hid (CS3 w bb b2 b3 b7 bt c (k8 + i) (l8 ++ TX (csrW c Z0 i)) wx))
        case atStart => exact ⟨0, rfl, by omega, Lib.hid rfl, Lib.hid (by rw [show TX (csrW c Z0 0) = [] from rfl, List.append_nil]; exact HS.out)⟩
        case round =>
          clear HS
          obtain ⟨i, rfl, hi, HI, HS⟩ := hrel
          by_cases hlt : i < 12
          · obtain ⟨gm, rfl⟩ : ∃ k, gk = k + 1 := ⟨gk - 1, by have := HI.out; omega⟩
            have e1 : (i : Int) < 12 := by omega
            have ht := told_cell HS.out.xt i hlt
            have cF3 := field_c b3 i hlt
            have cF7 := field_c b7 i hlt
            have cN := fun W hG => csrn_c hlt W hG
            obtain ⟨n, hn⟩ : ∃ n, toldL.getD i 0 = n := ⟨_, rfl⟩
            rw [hn] at ht
            simp only [hn] at cF3 cF7 cN
            have CF3 := Lib.hid cF3
            have CF7 := Lib.hid cF7
            have CN := Lib.hid cN
            obtain ⟨v, hv⟩ : ∃ v, c (35 + i) = v := ⟨_, rfl⟩
            obtain ⟨z, hz⟩ : ∃ z, Z0 (35 + i) = z := ⟨_, rfl⟩
            have hok := HRM.out i hlt
            rw [hv] at hok
            clear cF3 cF7 cN hn
            go_upto_region 17 with (first
              | (go_at_call 36; refine (CF3.out _).mono ?_; rintro e w14 ⟨rfl, hd⟩; have hS2 := HS.out.below hd; clear HS hd ht; have HS := Lib.hid hS2; clear hS2; have q3 := cell_m HS.out.s.s.x3 hlt hv))
            cases hvz : (v != z)
            · go_wp2_with (first
                | (go_at_call 36; refine (CF7.out _).mono ?_; rintro e w15 ⟨rfl, hd⟩; have hS2 := HS.out.below hd; clear HS hd q3; have HS := Lib.hid hS2; clear hS2; have q7 := cell_m HS.out.s.x7 hlt hz))
              have hS := HS.out.csr0 (by rw [hv, hz]; exact bne_eq_false_iff_eq.mp hvz)
              go_roundg gm
              case measure => omega
              case rel => exact ⟨i + 1, by go_num, by omega, Lib.hid (by have := HI.out; omega), Lib.hid hS⟩
            · have hS := fun W' h' => HS.out.csr1 hv (by rw [hz]; exact bne_iff_ne.mp hvz) W' h'
              go_wp2_with (first
                | (go_at_call 36; refine (CF7.out _).mono ?_; rintro e w15 ⟨rfl, hd⟩; have hS2 := HS.out.below hd; clear HS hd q3; have HS := Lib.hid hS2; clear hS2; have q7 := cell_m HS.out.s.x7 hlt hz)
                | (go_at_call 37; refine (CN.out _ HS.out.s.s.gl).mono ?_; rintro e w16 ⟨rfl, hd⟩; have hS2 := HS.out.below hd; clear HS hd q7; have HS := Lib.hid hS2; clear hS2)
                | (go_at_call 11; refine (hex_c hok _ HS.out.s.s.gl).mono ?_; rintro e w17 ⟨rfl, hd⟩; have hS2 := HS.out.below hd; clear HS hd; have HS := Lib.hid hS2; clear hS2)
                | (go_at_call 31; refine (HS.out.line [wCsr, csrB i, hexB v] rfl rfl (by simp) (by omega) (len_csr hlt hok)).mono ?_; rintro e w18 ⟨rfl, hS3⟩; have hS2 := hS w18 hS3; clear HS hS3; have HS := Lib.hid hS2; clear hS2))
              go_roundg gm
              case measure => omega
              case rel => exact ⟨i + 1, by go_num, by omega, Lib.hid (by have := HI.out; omega), HS⟩
          · have hi12 : i = 12 := by omega
            subst hi12
            obtain ⟨l9, hl9⟩ : ∃ l9, l8 ++ TX (csrW c Z0 12) = l9 := ⟨_, rfl⟩
            obtain ⟨k9, hk9⟩ : ∃ k9, k8 + 12 = k9 := ⟨_, rfl⟩
            have hS := HS.out.s.s
            rw [hl9, hk9] at hS
            have hk9b : k9 ≤ 200 := by omega
            clear hk9
            clear HS
            have HS := Lib.hid hS
            have HL9 := Lib.hid hl9
            clear hS hl9
            go_wp2
            go_loopg [72] 16 (fun gm v72 wx => ∃ i : Nat, v72 = .int .i64 (i : Int) ∧ i ≤ 16 ∧ Hid (gm + i = 16) ∧ Hid (CS w bb b2 b3 c (k9 + i) (l9 ++ TX (pmpW c i)) wx))
            case atStart => exact ⟨0, rfl, by omega, Lib.hid rfl, Lib.hid (by rw [show TX (pmpW c 0) = [] from rfl, List.append_nil]; exact HS.out)⟩
            case round =>
              clear HS
              obtain ⟨i, rfl, hi, HI, HS⟩ := hrel
              by_cases hlt : i < 16
              · obtain ⟨gm, rfl⟩ : ∃ k, gk = k + 1 := ⟨gk - 1, by have := HI.out; omega⟩
                have e1 : (i : Int) < 16 := by omega
                have e0 : (0 : Int) ≤ (i : Int) := by omega
                obtain ⟨v, hv⟩ : ∃ v, c (47 + i) = v := ⟨_, rfl⟩
                obtain ⟨a, ha⟩ : ∃ a, c (63 + i) = a := ⟨_, rfl⟩
                have hokv := (HRP.out i hlt).1
                have hoka := (HRP.out i hlt).2
                rw [hv] at hokv
                rw [ha] at hoka
                have qc := cell_c HS.out.x3 hlt hv
                have qa := cell_a HS.out.x3 hlt ha
                by_cases hz : v = 0 ∧ a = 0
                · have hS := HS.out.pmp0 hv ha hz
                  have b1 : (v != 0) = false := bne_eq_false_iff_eq.mpr hz.1
                  have b2' : (a != 0) = false := bne_eq_false_iff_eq.mpr hz.2
                  clear hz
                  go_wp2
                  go_roundg gm
                  case measure => omega
                  case rel => exact ⟨i + 1, by go_num, by omega, Lib.hid (by have := HI.out; omega), Lib.hid hS⟩
                · have hS := fun W' h' => HS.out.pmp1 hv ha hz W' h'
                  cases hv0 : (v != 0) <;> cases ha0 : (a != 0)
                  · exact absurd ⟨bne_eq_false_iff_eq.mp hv0, bne_eq_false_iff_eq.mp ha0⟩ hz
                  all_goals
                    go_upto_region 24 with (fail)
                    have hS2 := HS.out.below (below_drew (Below.refl _ _))
                    clear HS hv0 ha0 hz
                    have HS := Lib.hid hS2
                    clear hS2
                    have qc := cell_c HS.out.x3 hlt hv
                    have qa := cell_a HS.out.x3 hlt ha
                    have hwv := wrap_ok hokv
                    go_region_held2 (fun w' => w'.cell? ⟨b3, 47 + i, none⟩ = some (.int .u8 v) ∧ w'.cell? ⟨b3, 63 + i, none⟩ = some (.int .u64 a)) (first | exact ⟨qc, qa⟩ | exact ⟨cell_c HS.out.x3 hlt hv, cell_a HS.out.x3 hlt ha⟩ | go_keep) (first
                      | (go_at_call 10; refine (itoa_c (i : Int) (by omega) (by omega) _ HS.out.gl).mono ?_; rintro e wA ⟨rfl, hd⟩; have hS2 := HS.out.below hd; clear HS hd qc qa; have HS := Lib.hid hS2; clear hS2)
                      | (go_at_call 11; refine (hex_c (by assumption) _ HS.out.gl).mono ?_; rintro e wB ⟨rfl, hd⟩; have hS2 := HS.out.below hd; clear HS hd; have HS := Lib.hid hS2; clear hS2)
                      | (go_at_call 31; refine (HS.out.line [wPmp, itoaB i, hexB v, hexB a] rfl rfl (by simp) (by omega) (len_pmp hlt hokv hoka)).mono ?_; rintro e wC ⟨rfl, hS3⟩; have hS2 := hS wC hS3; clear HS hS3; have HS := Lib.hid hS2; clear hS2))
                    go_wp2
                    go_roundg gm
                    case measure => omega
                    case rel => exact ⟨i + 1, by go_num, by omega, Lib.hid (by have := HI.out; omega), HS⟩
              · have hi16 : i = 16 := by omega
                subst hi16
                obtain ⟨l10, hl10⟩ : ∃ l10, l9 ++ TX (pmpW c 16) = l10 := ⟨_, rfl⟩
                obtain ⟨k10, hk10⟩ : ∃ k10, k9 + 16 = k10 := ⟨_, rfl⟩
                have hk10b : k10 ≤ 300 := by omega
                have hS := HS.out
                rw [hl10, hk10] at hS
                clear HS hk10
                have HS := Lib.hid hS
                have HL10 := Lib.hid hl10
                clear hS hl10
                have q := HS.out.x3.cell 79 (by omega)
                replace q : _ = some (Value.bool (decide (c 79 ≠ 0))) := q
                obtain ⟨rv, hrv⟩ : ∃ rv, decide (c 79 ≠ 0) = rv := ⟨_, rfl⟩
                rw [hrv] at q
                cases rv
                · go_wp2
                  go_end0
                  rw [cpuT_eq HL6.out HL7.out HL8.out HL9.out HL10.out, resT_no hrv, List.append_nil]
                  exact ⟨rfl, HS.out.isb, HS.out.kp, by have := HS.out.ln; omega⟩
                · go_upto_region 27 with (fail)
                  have hS2 := HS.out.below (below_drew (Below.refl _ _))
                  clear HS q
                  have HS := Lib.hid hS2
                  clear hS2
                  have q0 := HS.out.x3.cell 80 (by omega)
                  replace q0 : _ = some (Value.int .u64 (c 80)) := q0
                  have q1 := HS.out.x3.cell 81 (by omega)
                  replace q1 : _ = some (Value.int .i64 (c 81)) := q1
                  obtain ⟨ra, hra⟩ : ∃ ra, c 80 = ra := ⟨_, rfl⟩
                  obtain ⟨rs, hrs⟩ : ∃ rs, c 81 = rs := ⟨_, rfl⟩
                  have hokr := HRR.out.1
                  have hoks := HRR.out.2
                  rw [hra] at q0 hokr
                  rw [hrs] at q1 hoks
                  go_region_held2 (fun w' => w'.cell? ⟨b3, 80, none⟩ = some (.int .u64 ra) ∧ w'.cell? ⟨b3, 81, none⟩ = some (.int .i64 rs)) (first | exact ⟨q0, q1⟩ | exact ⟨cell_80 HS.out.x3 hra, cell_81 HS.out.x3 hrs⟩ | go_keep) (first
                    | (go_at_call 11; refine (hex_c hokr _ HS.out.gl).mono ?_; rintro e wB ⟨rfl, hd⟩; have hS2 := HS.out.below hd; clear HS hd q0 q1; have HS := Lib.hid hS2; clear hS2; have q0 := cell_80 HS.out.x3 hra; have q1 := cell_81 HS.out.x3 hrs)
                    | (go_at_call 10; refine (itoa_c rs (by omega) (by omega) _ HS.out.gl).mono ?_; rintro e wA ⟨rfl, hd⟩; have hS2 := HS.out.below hd; clear HS hd; have HS := Lib.hid hS2; clear hS2)
                    | (go_at_call 31; refine (HS.out.line [wRes, hexB ra, itoaB rs] rfl rfl (by simp) (by omega) (len_res hokr hoks)).mono ?_; rintro e wC ⟨rfl, hS3⟩; clear HS; have HS := Lib.hid hS3; clear hS3))
                  go_wp2
                  go_end0
                  rw [cpuT_eq HL6.out HL7.out HL8.out HL9.out HL10.out, resT_yes hrv, hra, hrs]
                  exact ⟨rfl, HS.out.isb, HS.out.kp, by have := HS.out.ln; omega⟩
end Go.Proofs.YtbmnifnahbehbaaDoor

/- The text of a deck, line by line. -/
set_option linter.unusedVariables false
namespace Go.Proofs.YtbmnifnahbehbaaDoor
open Go.RowKit Go.Lib Go.Shelf Go.Proofs.YtbmnifnahbehbaaDoorW.PrintWords Go.Proofs.YtbmnifnahbehbaaDoorW.PrintMore Go.Proofs.YtbmnifnahbehbaaDoorW.PrintLast
open PPr
/-- A line: its bytes and the byte 10. -/
def lnT (s : ByteArray) : List UInt8 := s.data.toList ++ [10]
def txt (l : List ByteArray) : List UInt8 := l.flatMap lnT
theorem txt_cons (s : ByteArray) (l : List ByteArray) : txt (s :: l) = lnT s ++ txt l := rfl
theorem txt_append (l m : List ByteArray) : txt (l ++ m) = txt l ++ txt m := by unfold txt; rw [List.flatMap_append]
def headW : ByteArray := ⟨#[97, 110, 118, 105, 108, 32, 49, 10, 114, 97, 109, 32]⟩
def nlB : ByteArray := ⟨#[10]⟩
def spB : ByteArray := ⟨#[32]⟩
def wMt : ByteArray := ⟨#[109, 116, 105, 109, 101, 32]⟩
def wPart : ByteArray := ⟨#[112, 97, 114, 116, 32]⟩
def wData : ByteArray := ⟨#[100, 97, 116, 97, 32]⟩
def wStep : ByteArray := ⟨#[115, 116, 101, 112]⟩
def wSteps : ByteArray := ⟨#[115, 116, 101, 112, 115, 32]⟩
def digW : ByteArray := ⟨#[48, 49, 50, 51, 52, 53, 54, 55, 56, 57, 97, 98, 99, 100, 101, 102]⟩
def dig (n : Nat) : UInt8 := UInt8.ofNat (if n < 10 then 48 + n else 87 + n)
/-- A byte's two digits. -/
def two (b : Int) : List UInt8 := [dig (b.toNat / 16), dig (b.toNat % 16)]
def twos (l : List Int) : List UInt8 := l.flatMap two
def mtL (mt : Int) : List ByteArray := if mt = 0 then [] else [wMt ++ hexB mt]
def flagW (n : Int) : ByteArray := glob0.getD n.toNat ⟨#[]⟩
def partW (s : S46) : ByteArray := wPart ++ hexB s.f0 ++ spB ++ ⟨(Lib.decDigits s.f1.toNat).toArray⟩ ++ spB ++ flagW s.f2
def dataW (l : List Int) : ByteArray := wData ++ ⟨(twos l).toArray⟩
/-- The lines of a part's bytes: 32 each. -/
def dataL (l : List Int) : List ByteArray :=
  if h : l.length = 0 then [] else dataW (l.take 32) :: dataL (l.drop 32)
termination_by l.length
decreasing_by rw [List.length_drop]; omega
def partL (s : S46) : List ByteArray := partW s :: dataL s.f3
/-- How a byte is quoted. -/
def quoteC (b : Int) : List UInt8 :=
  if b = 34 ∨ b = 92 then [92, UInt8.ofNat b.toNat] else if b = 10 then [92, 110] else if b < 32 ∨ 126 < b then 92 :: 120 :: two b else [UInt8.ofNat b.toNat]
def quoteL (l : List Int) : List UInt8 := 34 :: (l.flatMap quoteC ++ [34])
def wTick : ByteArray := ⟨#[32, 116, 105, 99, 107]⟩
def wExt : ByteArray := ⟨#[32, 101, 120, 116]⟩
def wSoft : ByteArray := ⟨#[32, 115, 111, 102, 116]⟩
def wInput : ByteArray := ⟨#[32, 105, 110, 112, 117, 116, 32]⟩
def noB : ByteArray := ⟨#[]⟩
/-- A world's words. -/
def wordsB (x : S48) : ByteArray :=
  (if x.f0 then wTick else noB) ++ (if x.f1 then wExt else noB) ++ (if x.f2 then wSoft else noB) ++ (if x.f3.length = 0 then noB else wInput ++ ⟨(quoteL x.f3).toArray⟩)
/-- The line of n equal worlds. -/
def stepL (s : ByteArray) (n : Nat) : ByteArray := if n = 1 then wStep ++ s else wSteps ++ itoaB n ++ s
/-- How many worlds ahead have these words. -/
def runN (s : ByteArray) : List ByteArray → Nat
  | [] => 0
  | x :: r => if x = s then runN s r + 1 else 0
theorem runN_le (s : ByteArray) : ∀ l, runN s l ≤ l.length
  | [] => Nat.le_refl _
  | x :: r => by
    have := runN_le s r
    unfold runN
    split <;> simp <;> omega
def runs : List ByteArray → List ByteArray
  | [] => []
  | s :: r => stepL s (1 + runN s r) :: runs (r.drop (runN s r))
termination_by l => l.length
decreasing_by simp [List.length_drop]; omega
/-- The text of a deck whose Cpu is proper. -/
def deckT (ram : Int) (c : Cp) (mt : Int) (ps : List S46) (ws : List S48) : List UInt8 :=
  (headW ++ itoaB ram ++ nlB).data.toList ++ (txt (mtL mt) ++ (cpuT c ++ (txt (ps.flatMap partL) ++ txt (runs (ws.map wordsB)))))
theorem dig_at : ∀ n : Fin 16, bt digW (n.val : Int) = ((dig n.val).toNat : Int) := by decide +kernel
theorem txt_part {ps : List S46} {i : Nat} (h : i < ps.length) : txt ((ps.drop i).flatMap partL) = lnT (partW ps[i]) ++ (txt (dataL ps[i].f3) ++ txt ((ps.drop (i + 1)).flatMap partL)) := by
  rw [List.drop_eq_getElem_cons h, List.flatMap_cons, txt_append, partL, txt_cons, List.append_assoc]
theorem dataL_nil : dataL [] = [] := by rw [dataL]; simp
theorem dataL_cons {l : List Int} (h : l.length ≠ 0) : dataL l = dataW (l.take 32) :: dataL (l.drop 32) := by rw [dataL, dif_neg h]
theorem runs_nil : runs [] = [] := by rw [runs]
theorem runs_cons (s : ByteArray) (r : List ByteArray) : runs (s :: r) = stepL s (1 + runN s r) :: runs (r.drop (runN s r)) := by rw [runs]
theorem two_len (b : Int) : (two b).length = 2 := rfl
theorem quoteC_len (b : Int) : (quoteC b).length ≤ 4 := by
  unfold quoteC
  split
  · exact (by decide : 2 ≤ 4)
  split
  · exact (by decide : 2 ≤ 4)
  split
  · show (two b).length + 1 + 1 ≤ 4
    rw [two_len]; decide
  · exact (by decide : 1 ≤ 4)
theorem flat_le {f : Int → List UInt8} {n : Nat} (hf : ∀ b, (f b).length ≤ n) : ∀ l : List Int, (l.flatMap f).length ≤ n * l.length
  | [] => by simp
  | x :: r => by
    rw [List.flatMap_cons, List.length_append, List.length_cons, Nat.mul_succ]
    have := hf x
    have := flat_le hf r
    omega
theorem quoteL_len (l : List Int) : (quoteL l).length ≤ 4 * l.length + 2 := by
  unfold quoteL
  rw [List.length_cons, List.length_append]
  have := flat_le quoteC_len l
  simp only [List.length_cons, List.length_nil]
  omega
theorem if_size (b : Bool) (s : ByteArray) : (if b then s else noB).size ≤ s.size := by
  cases b
  · exact Nat.zero_le _
  · exact Nat.le_refl _
theorem arr_size (l : List UInt8) : (⟨l.toArray⟩ : ByteArray).size = l.length := rfl
theorem words_size (x : S48) (h : x.f3.length ≤ 64) : (wordsB x).size ≤ 300 := by
  unfold wordsB
  rw [ByteArray.size_append, ByteArray.size_append, ByteArray.size_append]
  have h1 := if_size x.f0 wTick
  have h2 := if_size x.f1 wExt
  have h3 := if_size x.f2 wSoft
  have e1 : wTick.size = 5 := rfl
  have e2 : wExt.size = 4 := rfl
  have e3 : wSoft.size = 5 := rfl
  have e4 : wInput.size = 7 := rfl
  have e0 : noB.size = 0 := rfl
  have h4 := quoteL_len x.f3
  by_cases h0 : x.f3.length = 0
  · rw [if_pos h0]
    omega
  · have e5 := arr_size (quoteL x.f3)
    rw [if_neg h0, ByteArray.size_append]
    omega
theorem flag_size (n : Int) : (flagW n).size ≤ 3 := by
  unfold flagW glob0
  match n.toNat with
  | 0 => decide
  | 1 => decide
  | 2 => decide
  | 3 => decide
  | 4 => decide
  | 5 => decide
  | 6 => decide
  | 7 => decide
  | k + 8 => exact Nat.zero_le _
end Go.Proofs.YtbmnifnahbehbaaDoor

/- deck.words, deck.quote: a world's words. -/
set_option linter.unusedVariables false
namespace Go.Proofs.YtbmnifnahbehbaaDoor
open Go.RowKit Go.Lib Go.Shelf Go.Proofs.YtbmnifnahbehbaaDoorW.PrintWords Go.Proofs.YtbmnifnahbehbaaDoorW.PrintMore Go.Proofs.YtbmnifnahbehbaaDoorW.PrintLast
open PPr
def BytesI (l : List Int) : Prop := ∀ b ∈ l, 0 ≤ b ∧ b < 256
def quoteI (b : Int) : List Int := (quoteC b).map fun u => (u.toNat : Int)
theorem band15 : ∀ n : Fin 256, Go.bits .and .u8 (n.val : Int) 15 = ((n.val % 16 : Nat) : Int) := by decide +kernel
theorem quoteI_x : ∀ n : Fin 256, quoteI (n.val : Int) = (if (n.val : Int) = 34 ∨ (n.val : Int) = 92 then [92, (n.val : Int)] else if (n.val : Int) = 10 then [92, 110] else if (n.val : Int) < 32 ∨ 126 < (n.val : Int) then [92, 120, bt digW ((n.val : Int) / 16), bt digW (Go.bits .and .u8 (n.val : Int) 15)] else [(n.val : Int)]) := by decide +kernel
theorem quote_step (k : Nat) (acc l : List Int) (i : Nat) (hi : i < l.length) (hb : BytesI l) (ha : acc.length ≤ 1000000) (hl : l.length ≤ 1000000) :
    deck_quote.l0 (k + 2) acc l (l.length : Int) (i : Int) = deck_quote.l0 k (acc ++ quoteI l[i]) l (l.length : Int) ((i + 1 : Nat) : Int) := by
  have hrd : rd l (i : Int) = l[i] := by
    unfold rd
    rw [Int.toNat_natCast, List.getD_eq_getElem?_getD, List.getElem?_eq_getElem hi]
    rfl
  obtain ⟨h0, h1⟩ := hb _ (List.getElem_mem hi)
  obtain ⟨b, hbv⟩ : ∃ b, l[i] = b := ⟨_, rfl⟩
  rw [hbv] at hrd h0 h1 ⊢
  obtain ⟨n, rfl⟩ := Int.eq_ofNat_of_zero_le h0
  have hn : n < 256 := by omega
  have hq := quoteI_x ⟨n, hn⟩
  have h15 := band15 ⟨n, hn⟩
  dsimp only at hq h15
  have hw : wrap64 ((i : Int) + 1) = ((i + 1 : Nat) : Int) := by
    rw [show (i : Int) + 1 = ((i + 1 : Nat) : Int) by omega]
    unfold wrap64; omega
  rw [deck_quote.l0, if_pos (by omega), if_pos (by omega), if_pos (by omega), hrd]
  have hj : ∀ bo, bo = decide ((n : Int) = 34 ∨ (n : Int) = 92) → deck_quote.j1 (k + 1) acc (n : Int) l (l.length : Int) (i : Int) bo = deck_quote.l0 k (acc ++ quoteI (n : Int)) l (l.length : Int) ((i + 1 : Nat) : Int) := by
    rintro bo rfl
    have c1 : acc.length + 2 < 140737488355328 := by omega
    have c2 : acc.length + 4 < 140737488355328 := by omega
    have c3 : acc.length < 140737488355328 := by omega
    have d1 : (0 : Int) ≤ (n : Int) / 16 := by omega
    have d2 : (n : Int) / 16 < 16 := by omega
    have d3 : 0 ≤ Go.bits .and .u8 (n : Int) 15 := by rw [h15]; omega
    have d4 : Go.bits .and .u8 (n : Int) 15 < 16 := by rw [h15]; omega
    rw [deck_quote.j1, hq, hw]
    by_cases e1 : (n : Int) = 34 ∨ (n : Int) = 92
    · rw [if_pos (decide_eq_true e1), if_pos e1]
      simp only [Option.bind_some, List.length_cons, List.length_nil]
      rw [if_pos c1]
    · rw [if_neg (by simpa using e1), if_neg e1]
      by_cases e2 : (n : Int) = 10
      · rw [if_pos e2, if_pos e2]
        simp only [Option.bind_some, List.length_cons, List.length_nil]
        rw [if_pos c1]
      · rw [if_neg e2, if_neg e2]
        by_cases e3 : (n : Int) < 32
        · rw [if_pos e3, if_pos d1, if_pos d2, if_pos d3, if_pos d4, if_pos (Or.inl e3)]
          simp only [Option.bind_some, List.length_cons, List.length_nil]
          rw [if_pos c2]
          rfl
        · rw [if_neg e3]
          by_cases e4 : (n : Int) > 126
          · rw [if_pos e4, if_pos d1, if_pos d2, if_pos d3, if_pos d4, if_pos (Or.inr e4)]
            simp only [Option.bind_some, List.length_cons, List.length_nil]
            rw [if_pos c2]
            rfl
          · rw [if_neg e4, if_pos c3, if_neg (by omega)]
  by_cases e1 : (n : Int) = 34
  · rw [if_pos e1]
    exact hj true (decide_eq_true (Or.inl e1)).symm
  · rw [if_neg e1]
    refine hj _ ?_
    by_cases e2 : (n : Int) = 92
    · rw [e2]; rfl
    · rw [beq_eq_false_iff_ne.mpr e2]
      exact (decide_eq_false (by omega)).symm
theorem quoteI_len (b : Int) : (quoteI b).length ≤ 4 := by
  unfold quoteI
  rw [List.length_map]
  exact quoteC_len b
theorem quote_all (l : List Int) (hb : BytesI l) (hl : l.length ≤ 1000) : ∀ (m : Nat) (acc : List Int) (i : Nat), i + m = l.length → acc.length ≤ 100 + 4 * i →
    deck_quote.l0 (2 * m + 1) acc l (l.length : Int) (i : Int) = some (strOfNums (acc ++ (l.drop i).flatMap quoteI ++ [34]))
  | 0, acc, i, hi, ha => by
    rw [deck_quote.l0, if_neg (by omega), if_pos (by omega), List.drop_of_length_le (by omega)]
    simp
  | m + 1, acc, i, hi, ha => by
    rw [show 2 * (m + 1) + 1 = (2 * m + 1) + 2 by omega, quote_step _ _ _ i (by omega) hb (by omega) (by omega)]
    have hq := quoteI_len (l[i]'(by omega))
    rw [quote_all l hb hl m _ (i + 1) (by omega) (by rw [List.length_append]; omega), List.drop_eq_getElem_cons (i := i) (by omega), List.flatMap_cons]
    simp only [List.append_assoc]
theorem ofNat_toNat (u : UInt8) : UInt8.ofNat ((u.toNat : Int)).toNat = u := by
  rw [Int.toNat_natCast]
  exact UInt8.ofNat_toNat
theorem str_quoteI (l : List Int) : (l.flatMap quoteI).map (fun n => UInt8.ofNat n.toNat) = l.flatMap quoteC := by
  induction l with
  | nil => rfl
  | cons x r ih =>
    rw [List.flatMap_cons, List.map_append, ih, List.flatMap_cons]
    congr 1
    unfold quoteI
    rw [List.map_map]
    exact (List.map_congr_left (fun u _ => ofNat_toNat u)).trans (List.map_id _)
theorem quote_f (l : List Int) (hb : BytesI l) (hl : l.length ≤ 1000) : deck_quote.f (2 * l.length + 1) l = some ⟨(quoteL l).toArray⟩ := by
  unfold deck_quote.f
  have h := quote_all l hb hl l.length [34] 0 (by omega) (by decide)
  refine h.trans ?_
  unfold strOfNums quoteL
  rw [List.drop_zero, List.map_append, List.map_append, str_quoteI]
  rfl
theorem words_step (k : Nat) (acc : ByteArray) (L : List S85) (i : Nat) (hi : i < 4) (hL : L.length = 4) (hs : acc.size + ((rd_T85 L (i : Int)).f1).size ≤ 1000000) :
    deck_words.l0 (k + 1) acc L (4 : Int) (i : Int) = deck_words.l0 k (acc ++ if (rd_T85 L (i : Int)).f0 then (rd_T85 L (i : Int)).f1 else noB) L (4 : Int) ((i + 1 : Nat) : Int) := by
  have hw : wrap64 ((i : Int) + 1) = ((i + 1 : Nat) : Int) := by
    rw [show (i : Int) + 1 = ((i + 1 : Nat) : Int) by omega]
    unfold wrap64; omega
  rw [deck_words.l0, if_pos (by omega), if_pos (by omega), if_pos (by omega), hw, if_pos (show acc.size + ((rd_T85 L (i : Int)).f1).size ≤ 9223372036854775807 by omega)]
  split
  · rfl
  · rw [show acc ++ noB = acc from ByteArray.append_empty]
theorem words_f (x : S48) (hb : BytesI x.f3) (hl : x.f3.length ≤ 1000) : deck_words.f (2 * x.f3.length + 10) x.f0 x.f1 x.f2 x.f3 = some (wordsB x) := by
  unfold deck_words.f
  have hm : ∀ a, LeO (deck_quote.f (2 * x.f3.length + 1) x.f3) (deck_quote.f (2 * x.f3.length + 1 + a) x.f3) := by
    intro a
    induction a with
    | zero => exact fun r h => h
    | succ a ih => exact fun r h => deck_quote.mono x.f3 _ r (ih r h)
  rw [hm 9 _ (quote_f x.f3 hb hl), Option.bind_some]
  have hq := quoteL_len x.f3
  have hs := arr_size (quoteL x.f3)
  rw [if_pos (by omega), Option.bind_some]
  have e1 : wTick.size = 5 := rfl
  have e2 : wExt.size = 4 := rfl
  have e3 : wSoft.size = 5 := rfl
  have e4 : wInput.size = 7 := rfl
  have e0 : noB.size = 0 := rfl
  have i1 := if_size x.f0 wTick
  have i2 := if_size x.f1 wExt
  have i3 := if_size x.f2 wSoft
  obtain ⟨q, hq⟩ : ∃ q : ByteArray, wInput ++ (⟨(quoteL x.f3).toArray⟩ : ByteArray) = q := ⟨_, rfl⟩
  have hqs : q.size ≤ 5000 := by rw [← hq, ByteArray.size_append]; omega
  obtain ⟨L, hL⟩ : ∃ L : List S85, [(⟨x.f0, wTick⟩ : S85), ⟨x.f1, wExt⟩, ⟨x.f2, wSoft⟩, ⟨decide ((x.f3.length : Int) > 0), q⟩] = L := ⟨_, rfl⟩
  have hg : deck_words.l0 (2 * x.f3.length + 10) noB L (4 : Int) ((0 : Nat) : Int) = some (wordsB x) := by
    rw [words_step _ _ L 0 (by decide) (by rw [← hL]; rfl) (by rw [← hL]; show noB.size + wTick.size ≤ 1000000; omega)]
    rw [words_step _ _ L 1 (by decide) (by rw [← hL]; rfl) (by rw [← hL]; show (noB ++ if x.f0 then wTick else noB).size + wExt.size ≤ 1000000; rw [ByteArray.size_append]; omega)]
    rw [words_step _ _ L 2 (by decide) (by rw [← hL]; rfl) (by rw [← hL]; show ((noB ++ if x.f0 then wTick else noB) ++ if x.f1 then wExt else noB).size + wSoft.size ≤ 1000000; rw [ByteArray.size_append, ByteArray.size_append]; omega)]
    rw [words_step _ _ L 3 (by decide) (by rw [← hL]; rfl) (by rw [← hL]; show (((noB ++ if x.f0 then wTick else noB) ++ if x.f1 then wExt else noB) ++ if x.f2 then wSoft else noB).size + q.size ≤ 1000000; rw [ByteArray.size_append, ByteArray.size_append, ByteArray.size_append]; omega)]
    rw [deck_words.l0, if_neg (show ¬ (((3 + 1 : Nat) : Int) < 4) by omega)]
    congr 1
    rw [← hL]
    show (((noB ++ if x.f0 then wTick else noB) ++ if x.f1 then wExt else noB) ++ if x.f2 then wSoft else noB) ++ (if decide ((x.f3.length : Int) > 0) = true then q else noB) = wordsB x
    unfold wordsB
    rw [show (noB ++ if x.f0 = true then wTick else noB) = (if x.f0 = true then wTick else noB) from ByteArray.empty_append, hq]
    congr 1
    by_cases h0 : x.f3.length = 0
    · rw [if_pos h0, if_neg (show ¬ (decide ((x.f3.length : Int) > 0) = true) by rw [h0]; decide)]
    · rw [if_neg h0, if_pos (decide_eq_true (by omega))]
  rw [← hL] at hg
  rw [← hq] at hg
  exact hg
theorem words_c (x : S48) (A : Option Addr) (c : Nat) (w : World) (hb : BytesI x.f3) (hl : x.f3.length ≤ 1000) (hc : x.f3.length ≤ c) (hC : Kd.C (Kd.int .u8) w A x.f3.length x.f3) :
    Calls Tryd.prog 16 #[.agg #[.bool x.f0, .bool x.f1, .bool x.f2, .slice A x.f3.length c]] w fun e w' => e = .returned (.string (wordsB x)) ∧ Below w.heap.size w w' :=
  deck_words.calls _ x.f0 x.f1 x.f2 A c x.f3 (wordsB x) w hC hc (words_f x hb hl)
structure CpuOk (c : Cp) : Prop where
  pc : Ok64 (c 0)
  x : ∀ i, i < 32 → Ok64 (c (1 + i))
  m : ∀ i, i < 12 → Ok64 (c (35 + i))
  p : ∀ i, i < 16 → Ok64 (c (47 + i)) ∧ Ok64 (c (63 + i))
  rs : Ok64 (c 80) ∧ 0 ≤ c 81 ∧ c 81 < 1000000
/-- What a deck's parts can hold. -/
structure PtOk (s : S46) : Prop where
  a : Ok64 s.f0
  z : 0 ≤ s.f1 ∧ s.f1 < 1000000
  f : 0 ≤ s.f2 ∧ s.f2 ≤ 7
  b : BytesI s.f3
  n : s.f3.length ≤ 65536
theorem itoaZ (n : Int) (h0 : 0 ≤ n) (h1 : n < 1000000) : (itoaB n).size ≤ 20 := by
  obtain ⟨m, rfl⟩ := Int.eq_ofNat_of_zero_le h0
  exact itoa_size m (by omega)
/-- What Print answers of a text. -/
def outT (T : List UInt8) : ByteArray × Int := if 400000 < T.length then (⟨#[]⟩, 4) else (⟨T.toArray⟩, 0)
end Go.Proofs.YtbmnifnahbehbaaDoor

/- Elements of a deck's lists; runs of equal words: what the walks of both Prints use. -/
set_option linter.unusedVariables false
namespace Go.Proofs.YtbmnifnahbehbaaDoor
open Go.RowKit Go.Lib Go.Shelf Go.Proofs.YtbmnifnahbehbaaDoorW.PrintWords Go.Proofs.YtbmnifnahbehbaaDoorW.PrintMore Go.Proofs.YtbmnifnahbehbaaDoorW.PrintLast
open PPr
theorem valid_le {ram : Int} {ps : List S46} {ws : List S48} (h : validB ram ps ws = true) : ps.length ≤ 16 ∧ ws.length ≤ 4000 ∧ 8 ≤ ram ∧ ram ≤ 65536 := by
  unfold validB headB at h
  simp only [Bool.and_eq_true, Bool.not_eq_true', decide_eq_false_iff_not] at h
  omega
theorem seg_at {w W : World} {Ap : Option Addr} {np i : Nat} {ps : List S46} (hC : Kd.C k46 w Ap np ps) (hb : Below w.heap.size w W) (hi : i < np) :
    ∃ ad A3 c3, Ap = some ad ∧ W.cell? (ad.add (i * 4)) = some (.int .u64 (rd_T46 ps (i : Int)).f0) ∧ W.cell? ⟨(ad.add (i * 4)).block, (ad.add (i * 4)).off + 1, none⟩ = some (.int .u64 (rd_T46 ps (i : Int)).f1) ∧ W.cell? ⟨(ad.add (i * 4)).block, (ad.add (i * 4)).off + 2, none⟩ = some (.int .i64 (rd_T46 ps (i : Int)).f2) ∧ W.cell? ⟨(ad.add (i * 4)).block, (ad.add (i * 4)).off + 3, none⟩ = some (.slice A3 (rd_T46 ps (i : Int)).f3.length c3) ∧ (rd_T46 ps (i : Int)).f3.length ≤ c3 ∧ (Kd.int .u8).C w A3 (rd_T46 ps (i : Int)).f3.length (rd_T46 ps (i : Int)).f3 := by
  obtain ⟨ad, A3, c3, e, x0, x1, x2, x3, hl, hc⟩ := at_T46 hC (i : Int) (by omega) (by omega)
  rw [Int.toNat_natCast] at x0 x1 x2 x3
  exact ⟨ad, A3, c3, e, (hb.cell (World.block_lt_of_cell? w _ x0)).trans x0, (hb.cell (World.block_lt_of_cell? w _ x1)).trans x1, (hb.cell (World.block_lt_of_cell? w _ x2)).trans x2, (hb.cell (World.block_lt_of_cell? w _ x3)).trans x3, hl, hc⟩
theorem world_at {w W : World} {Aw : Option Addr} {nw i : Nat} {ws : List S48} (hC : Kd.C k48 w Aw nw ws) (hb : Below w.heap.size w W) (hi : i < nw) :
    ∃ ad A3 c3, Aw = some ad ∧ W.cell? (ad.add (i * 4)) = some (.bool (rd_T48 ws (i : Int)).f0) ∧ W.cell? ⟨(ad.add (i * 4)).block, (ad.add (i * 4)).off + 1, none⟩ = some (.bool (rd_T48 ws (i : Int)).f1) ∧ W.cell? ⟨(ad.add (i * 4)).block, (ad.add (i * 4)).off + 2, none⟩ = some (.bool (rd_T48 ws (i : Int)).f2) ∧ W.cell? ⟨(ad.add (i * 4)).block, (ad.add (i * 4)).off + 3, none⟩ = some (.slice A3 (rd_T48 ws (i : Int)).f3.length c3) ∧ (rd_T48 ws (i : Int)).f3.length ≤ c3 ∧ (Kd.int .u8).C W A3 (rd_T48 ws (i : Int)).f3.length (rd_T48 ws (i : Int)).f3 := by
  obtain ⟨ad, A3, c3, e, x0, x1, x2, x3, hl, hc⟩ := at_T48 hC (i : Int) (by omega) (by omega)
  rw [Int.toNat_natCast] at x0 x1 x2 x3
  exact ⟨ad, A3, c3, e, (hb.cell (World.block_lt_of_cell? w _ x0)).trans x0, (hb.cell (World.block_lt_of_cell? w _ x1)).trans x1, (hb.cell (World.block_lt_of_cell? w _ x2)).trans x2, (hb.cell (World.block_lt_of_cell? w _ x3)).trans x3, hl, Kd.C_below hc hb⟩
theorem drop_at {xs : List ByteArray} {j : Nat} {x : ByteArray} (h : xs[j]? = some x) : xs.drop j = x :: xs.drop (j + 1) := by
  obtain ⟨hj, rfl⟩ := List.getElem?_eq_some_iff.1 h
  exact List.drop_eq_getElem_cons hj
theorem runN_more {s x : ByteArray} {xs : List ByteArray} {j : Nat} (h : xs[j]? = some x) (e : x = s) : runN s (xs.drop j) = runN s (xs.drop (j + 1)) + 1 := by
  rw [drop_at h, runN, if_pos e]
theorem runN_stop {s x : ByteArray} {xs : List ByteArray} {j : Nat} (h : xs[j]? = some x) (e : x ≠ s) : runN s (xs.drop j) = 0 := by
  rw [drop_at h, runN, if_neg e]
theorem runN_end {s : ByteArray} {xs : List ByteArray} {j : Nat} (h : xs.length ≤ j) : runN s (xs.drop j) = 0 := by
  rw [List.drop_of_length_le h]
  rfl
theorem str_ne {a b : ByteArray} (h : a ≠ b) : (a.toList == b.toList) = false := by
  refine beq_eq_false_iff_ne.mpr fun e => h ?_
  rw [ByteArray.toList_eq, ByteArray.toList_eq] at e
  exact ByteArray.ext (Array.toList_inj.1 e)
end Go.Proofs.YtbmnifnahbehbaaDoor

/- anvilref14.Print at a deck that cannot be. -/
set_option linter.unusedVariables false
namespace Go.Proofs.YtbmnifnahbehbaaDoor
open Go.RowKit Go.Lib Go.Shelf Go.Proofs.YtbmnifnahbehbaaDoorW.PrintWords Go.Proofs.YtbmnifnahbehbaaDoorW.PrintMore Go.Proofs.YtbmnifnahbehbaaDoorW.PrintLast
open PPr
theorem all_flags {ps : List S46} (h : ∀ j (hj : j < ps.length), flagB ps[j] = true) : ps.all flagB = true :=
  List.all_eq_true.2 (fun s hs => by
    obtain ⟨i, hi, rfl⟩ := List.getElem_of_mem hs
    exact h i hi)
set_option maxHeartbeats 8000000 in
set_option maxRecDepth 100000 in
theorem print2_no (ram : Int) (c : Cp) (mt : Int) (ps : List S46) (ws : List S48) (Ap Aw : Option Addr) (cp cw : Nat) (w : World) (hps : Kd.C k46 w Ap ps.length ps) (hws : Kd.C k48 w Aw ws.length ws) (hok : (validB ram ps ws && ps.all flagB) = false) :
    Calls Tryd.prog 6 #[.agg (dkA ram c mt (.slice Ap ps.length cp) (.slice Aw ws.length cw))] w fun e w' => e = .returned (.tuple #[.string ⟨#[]⟩, .int .i64 140]) ∧ Below w.heap.size w w' := by
  have cV := fun W (hb : Below w.heap.size w W) => valid2_c ram c mt ps ws Ap Aw cp cw W (Kd.C_below hps hb) (Kd.C_below hws hb)
  obtain ⟨vb, hvb⟩ : ∃ vb, validB ram ps ws = vb := ⟨_, rfl⟩
  simp only [hvb] at cV
  rw [hvb] at hok
  have hpl : ps.length ≤ 9223372036854775807 := hps.2.1
  have CV := Lib.hid cV
  have HPS0 := Lib.hid hps
  clear cV hvb hps hws
  obtain ⟨np, hnp⟩ : ∃ np, ps.length = np := ⟨_, rfl⟩
  rw [hnp] at hpl
  obtain ⟨wv, hwv⟩ : ∃ wv, Value.slice Aw ws.length cw = wv := ⟨_, rfl⟩
  have HPS : Hid (Kd.C k46 w Ap np ps) := Lib.hid (by rw [← hnp]; exact HPS0.out)
  clear HPS0
  obtain ⟨DA, hDA⟩ : ∃ DA, dkA ram c mt (.slice Ap ps.length cp) (.slice Aw ws.length cw) = DA := ⟨_, rfl⟩
  rw [hDA] at CV ⊢
  rw [hnp, hwv] at hDA
  have HNP := Lib.hid hnp
  clear hnp hwv
  go_enter Tryd.func6, Tryd.ntmps6
  go_upto_region 1 with (first
    | ((with_reducible refine gate_dst (N := 1) rfl ?_); refine box_event ?hg (N := 1) ?hd (cs := DA) (t := 35) ?hr ?_; (case hd => rfl); (case hg => rfl); (case hr => rfl); intro g hg w1 hb1 hd1; clear hg))
  have HX := Lib.hid hb1
  have HD1 := Lib.hid hd1
  have hsz : DA.size = 86 := by rw [← hDA]; exact dkA_size _ _ _ _ _
  have HSZ := Lib.hid hsz
  have hD : DBox w1 g ram c mt (.slice Ap np cp) wv := by rw [← hDA] at hb1; exact hb1
  have HD := Lib.hid hD.c84
  clear hb1 hd1 hsz hDA hD
  cases vb
  · go_wp2_with (first
      | ((with_reducible refine gate_ (.load 35 (.tmp 1)) rfl ?_); refine wpList_load_row rfl 35 (.tmp 1) rfl g rfl 35 DA (0, 0) _ HX.out Tryd.underlying35 rfl (by rw [HSZ.out]; kernel_rfl) ?_)
      | (go_at_call 19; refine (CV.out _ HD1.out).mono ?_; rintro e w2 ⟨rfl, hd⟩; have hD := HD1.out.trans (hd.mono HD1.out.size); clear HX HD1 hd; have HD1 := Lib.hid hD; clear hD))
    go_ret2
    exact ⟨rfl, HD1.out⟩
  · rw [Bool.true_and] at hok
    have HOK := Lib.hid hok
    clear hok
    go_upto_region 4 with (first
      | ((with_reducible refine gate_ (.load 35 (.tmp 1)) rfl ?_); refine wpList_load_row rfl 35 (.tmp 1) rfl g rfl 35 DA (0, 0) _ HX.out Tryd.underlying35 rfl (by rw [HSZ.out]; kernel_rfl) ?_)
      | (go_at_call 19; refine (CV.out _ HD1.out).mono ?_; rintro e w2 ⟨rfl, hd⟩; have hD := HD1.out.trans (hd.mono HD1.out.size); have h84 := (hd.cell (World.block_lt_of_cell? w1 _ HD.out)).trans HD.out; clear HX HD1 hd HD; have HD1 := Lib.hid hD; have HD := Lib.hid h84; clear hD h84))
    have q84 := HD.out
    go_wp2
    clear q84
    have HW := Lib.hid (show w2 = w2 from rfl)
    go_loopg [5] np (fun gm v5 wx => ∃ i : Nat, v5 = .int .i64 (i : Int) ∧ i ≤ np ∧ Hid (gm + i = np) ∧ Hid (∀ j (hj : j < ps.length), j < i → flagB ps[j] = true) ∧ Hid (wx = w2))
    case atStart => exact ⟨0, rfl, Nat.zero_le _, Lib.hid rfl, Lib.hid (fun j hj h => absurd h (Nat.not_lt_zero j)), HW⟩
    case round =>
      clear HW
      obtain ⟨i, rfl, hi, HI, HF, HWX⟩ := hrel
      have hwx := HWX.out
      subst hwx
      clear HWX
      have q84 := HD.out
      by_cases hlt : i < np
      · obtain ⟨gm, rfl⟩ : ∃ q, gk = q + 1 := ⟨gk - 1, by have := HI.out; omega⟩
        have p0 := eq_true (show (0 : Int) ≤ (i : Int) by omega)
        have p1 := eq_true (show (i : Int) < (np : Int) by omega)
        obtain ⟨ad, A3, c3, e, x0, x1, x2, x3, hl3, hC3⟩ := seg_at HPS.out HD1.out hlt
        subst e
        have hip : i < ps.length := by rw [HNP.out]; exact hlt
        rw [rd46 hip] at x2
        have hfl : flagB ps[i] = decide (0 ≤ (ps[i]).f2 ∧ (ps[i]).f2 ≤ 7) := rfl
        obtain ⟨f2, hf2⟩ : ∃ f2, (ps[i]).f2 = f2 := ⟨_, rfl⟩
        rw [hf2] at x2 hfl
        clear x0 x1 x3 hl3 hC3 hf2
        by_cases h0 : f2 < 0
        · have b1 : decide (f2 < 0) = true := decide_eq_true h0
          clear hfl
          go_wp2
          go_ret2
          exact ⟨rfl, HD1.out⟩
        · have b1 : decide (f2 < 0) = false := decide_eq_false h0
          by_cases h7 : 7 < f2
          · have b2 : decide (7 < f2) = true := decide_eq_true h7
            clear hfl
            go_wp2
            go_ret2
            exact ⟨rfl, HD1.out⟩
          · have b2 : decide (7 < f2) = false := decide_eq_false h7
            have hn : flagB ps[i] = true := by rw [hfl]; exact decide_eq_true (by omega)
            have HN := Lib.hid hn
            clear hfl hn
            go_wp2
            go_roundg gm
            case measure => omega
            case rel =>
              refine ⟨i + 1, by go_num, by omega, Lib.hid (by have := HI.out; omega), Lib.hid (fun j hj h => ?_), Lib.hid rfl⟩
              rcases Nat.lt_succ_iff_lt_or_eq.1 h with h1 | rfl
              · exact HF.out j hj h1
              · exact HN.out
      · exact absurd (all_flags (fun j hj => HF.out j hj (by have := HNP.out; omega))) (by rw [HOK.out]; decide)
end Go.Proofs.YtbmnifnahbehbaaDoor

/- The document's lines: a row of strings that grows by append; a line out of words. -/
set_option linter.unusedVariables false
namespace Go.Proofs.YtbmnifnahbehbaaDoor
open Go.RowKit Go.Lib Go.Shelf Go.Proofs.YtbmnifnahbehbaaDoorW.PrintWords Go.Proofs.YtbmnifnahbehbaaDoorW.PrintMore Go.Proofs.YtbmnifnahbehbaaDoorW.PrintLast
open PPr
/-- Words with a blank between. -/
def jn (xs : List ByteArray) : ByteArray := ⟨(Lib.join (xs.map (·.data.toList)) [32]).toArray⟩
theorem lnT_jn (xs : List ByteArray) : lnT (jn xs) = lineL xs := rfl
theorem txt_jn (ws : List (List ByteArray)) : txt (ws.map jn) = TX ws := by
  unfold txt TX
  rw [List.flatMap_map]
  rfl
theorem toL_append (a b : ByteArray) : (a ++ b).data.toList = a.data.toList ++ b.data.toList := by
  rw [ByteArray.data_append, Array.toList_append]
theorem ba_ext {a b : ByteArray} (h : a.data.toList = b.data.toList) : a = b := ByteArray.ext (Array.toList_inj.1 h)
theorem jn_2 (a b : ByteArray) : jn [a, b] = a ++ spB ++ b := by
  refine ba_ext ?_
  simp only [toL_append]
  unfold jn
  simp [Lib.join, List.intercalate, spB]
theorem jn_3 (a b c : ByteArray) : jn [a, b, c] = a ++ spB ++ b ++ spB ++ c := by
  refine ba_ext ?_
  simp only [toL_append]
  unfold jn
  simp [Lib.join, List.intercalate, spB]
theorem jn_4 (a b c d : ByteArray) : jn [a, b, c, d] = a ++ spB ++ b ++ spB ++ c ++ spB ++ d := by
  refine ba_ext ?_
  simp only [toL_append]
  unfold jn
  simp [Lib.join, List.intercalate, spB]
theorem jn_1 (a : ByteArray) : jn [a] = a := by
  refine ba_ext ?_
  unfold jn
  simp [Lib.join, List.intercalate]
/-- A row of lines that the call has made, beside blocks of its own that are not ok. -/
structure LS (w0 : World) (ok : Nat → Prop) (v : Value) (L : List ByteArray) (k : Nat) (W : World) : Prop where
  b : Below w0.heap.size w0 W
  r : Kd.R Kd.string 9 W w0.heap.size ok v L
  f : ∀ j, W.heap.size ≤ j → ok j
  n : L.length ≤ k
section
variable {w0 W W' : World} {ok ok' : Nat → Prop} {v : Value} {L : List ByteArray} {k k' : Nat}
theorem LS.nil {w w1 : World} (hb : Below w.heap.size w w1) (hf : ∀ j, w1.heap.size ≤ j → ok j) : LS w ok (.slice none 0 0) [] 0 w1 := ⟨hb, Kd.R_nil _ _ _ _ _, hf, Nat.le_refl _⟩
theorem LS.below (h : LS w0 ok v L k W) (hb : Below W.heap.size W W') : LS w0 ok v L k W' :=
  ⟨h.b.trans (hb.mono h.b.size), Kd.R_below h.r hb, fun j hj => h.f j (Nat.le_trans hb.size hj), h.n⟩
theorem LS.more (h : LS w0 ok v L k W) (hk : k ≤ k') : LS w0 ok v L k' W := ⟨h.b, h.r, h.f, Nat.le_trans h.n hk⟩
theorem LS.imp (h : LS w0 ok v L k W) (hi : ∀ j, j < W.heap.size → ok j → ok' j) (hf : ∀ j, W.heap.size ≤ j → ok' j) : LS w0 ok' v L k W :=
  ⟨h.b, Kd.R_mono (Kd.R_bound h.r) (fun j hj => hi j hj.2.2.1 hj.1), hf, h.n⟩
theorem LS.slice (h : LS w0 ok v L k W) : ∃ A c, v = .slice A L.length c := Kd.R_slice h.r
variable {ops : Array Oper} {rest : List Oper} {o : Oper} {a : Act} {Q : Exit → Act → World → Prop} {Kc : Act → World → Prop}
theorem LS.app (h : LS w0 ok v L k W) (hgd : o.guard = none) (s x : Operand) (ho : o.op = .call { callee := .builtin .append, args := #[s, x], argTypes := #[67, 67] }) (t : ByteArray) (hs : a.eval s = v) (hx : a.eval x = .slice (some ⟨W.heap.size, 0, none⟩) 1 1) (hl : k ≤ 100000000)
    (K : ∀ v1 w1, LS w0 ok v1 (L ++ [t]) (k + 1) w1 → (∀ j, j < W.heap.size → ¬ ok j → w1.heap[j]? = W.heap[j]?) → wpList Tryd.prog ops Q rest (a.put o.dst v1) w1) :
    wpList Tryd.prog ops Q (o :: rest) a (W.alloc (.cells #[.string t] 9)) := by
  refine Kd.R_append Kd.string (w0 := w0) w0.heap.size hgd s x 67 9 (.string ⟨#[]⟩) 16 ho Tryd.underlying67 (by kernel_rfl) rfl (by decide) (by omega) v L t [.string t] ok (fun _ => False) hs hx rfl (fun _ h => h.elim) h.f h.r h.b h.b.size (by have := h.n; omega) ?_
  intro v1 w1 hR hb hg hat
  exact K v1 w1 ⟨hb, hR, fun j hj => h.f j (by have := hg.size; omega), by rw [List.length_append]; have := h.n; simp only [List.length_cons, List.length_nil]; omega⟩ (fun j hj hn => hg.block j hj (fun e => hn (h.r.1 j e.symm)))
theorem LS.app_step (h : LS w0 ok v L k W) (hw : Region.wanted o (yielded ops a.tmps) = true) (s x : Operand) (ho : o.op = .call { callee := .builtin .append, args := #[s, x], argTypes := #[67, 67] }) (t : ByteArray) (hs : a.eval s = v) (hx : a.eval x = .slice (some ⟨W.heap.size, 0, none⟩) 1 1) (hl : k ≤ 100000000)
    (K : ∀ v1 w1, LS w0 ok v1 (L ++ [t]) (k + 1) w1 → (∀ j, j < W.heap.size → ¬ ok j → w1.heap[j]? = W.heap[j]?) → Kc (a.put o.dst v1) w1) :
    if Region.wanted o (yielded ops a.tmps) = true then Oper.wp Tryd.prog o a (W.alloc (.cells #[.string t] 9)) Kc Q else Kc (a.put o.dst undef) (W.alloc (.cells #[.string t] 9)) := by
  refine Kd.R_append_step Kd.string (w0 := w0) w0.heap.size hw s x 67 9 (.string ⟨#[]⟩) 16 ho Tryd.underlying67 (by kernel_rfl) rfl (by decide) (by omega) v L t [.string t] ok (fun _ => False) hs hx rfl (fun _ h => h.elim) h.f h.r h.b h.b.size (by have := h.n; omega) ?_
  intro v1 w1 hR hb hg hat
  exact K v1 w1 ⟨hb, hR, fun j hj => h.f j (by have := hg.size; omega), by rw [List.length_append]; have := h.n; simp only [List.length_cons, List.length_nil]; omega⟩ (fun j hj hn => hg.block j hj (fun e => hn (h.r.1 j e.symm)))
/-- append(l, more...): more is a row that was made. -/
theorem LS.apps (h : LS w0 ok v L k W) (hgd : o.guard = none) (s x : Operand) (ho : o.op = .call { callee := .builtin .append, args := #[s, x], argTypes := #[67, 67] }) (M : List ByteArray) {A : Option Addr} {m c : Nat} (hs : a.eval s = v) (hx : a.eval x = .slice A m c) (hM : ReadsRow (Kd.string.K W) 1 W A m M) (hl : k ≤ 100000000) (hm : M.length ≤ 100000000)
    (K : ∀ v1 w1, LS w0 ok v1 (L ++ M) (k + M.length) w1 → (∀ j, j < W.heap.size → ¬ ok j → w1.heap[j]? = W.heap[j]?) → wpList Tryd.prog ops Q rest (a.put o.dst v1) w1) :
    wpList Tryd.prog ops Q (o :: rest) a W := by
  have e : M.length = m := hM.1
  refine Kd.R_append_rows Kd.string (w0 := w0) w0.heap.size hgd s x 67 9 (.string ⟨#[]⟩) 16 ho Tryd.underlying67 (by kernel_rfl) rfl (by decide) (by omega) v L M A m c ok (fun _ => False) hs hx h.r hM (fun _ _ h => h) (fun _ h => h.elim) h.f h.b h.b.size (by have := h.n; omega) ?_
  intro v1 w1 hR hb hg hat
  exact K v1 w1 ⟨hb, hR, fun j hj => h.f j (by have := hg.size; omega), by rw [List.length_append]; have := h.n; omega⟩ (fun j hj hn => hg.block j hj (fun e => hn (h.r.1 j e.symm)))
end
/-- Lines are handed out. -/
def OutL (w : World) (L : List ByteArray) (e : Ending) (w' : World) : Prop := ∃ v, e = .returned v ∧ Kd.R Kd.string 9 w' w.heap.size (fun _ => True) v L ∧ Below w.heap.size w w'
theorem LS.out {w W : World} {ok : Nat → Prop} {v : Value} {L : List ByteArray} {k : Nat} (h : LS w ok v L k W) : OutL w L (.returned v) W := ⟨v, rfl, Kd.R_mono h.r (fun _ _ => trivial), h.b⟩
theorem LS.outb {w w3 W : World} {ok : Nat → Prop} {v : Value} {L : List ByteArray} {k : Nat} (h : LS w3 ok v L k W) (hb : Below w.heap.size w w3) : OutL w L (.returned v) W :=
  ⟨v, rfl, Kd.R_lower (Kd.R_mono h.r (fun _ _ => trivial)) hb.size, hb.trans (h.b.mono hb.size)⟩
theorem LS.cell {w0 W : World} {ok : Nat → Prop} {v : Value} {L : List ByteArray} {k : Nat} (h : LS w0 ok v L k W) {p : Addr} {x : Value} (q : w0.cell? p = some x) : W.cell? p = some x := (h.b.cell (World.block_lt_of_cell? w0 _ q)).trans q
section
variable {P : Program} {ops : Array Oper} {rest : List Oper} {op : Oper} {a : Act} {w : World} {Q : Exit → Act → World → Prop}
theorem wpl_storeA (ty : TypeId) (x y : Operand) (ho : op.op = .store ty x y) (hgd : op.guard = none) {g : Nat} {t : TypeId} {cs old : Array Value} (hold : w.heap[g]? = some (.cells old t (0, 0))) (hs : old.size = cs.size) (hx : a.eval x = .pointer (some ⟨g, 0, none⟩)) (hy : a.eval y = .agg cs) (hi : (P.info? ty).map (·.size) = some cs.size) (h1 : cs.all (·.oneCell') = true)
    (h : ∀ w', w'.heap[g]? = some (.cells cs t (0, 0)) → (∀ k, k ≠ g → w'.heap[k]? = w.heap[k]?) → (∀ B w0, B ≤ g → Below B w0 w → Below B w0 w') → w'.heap.size = w.heap.size → wpList P ops Q rest (a.put op.dst undef) w') : wpList P ops Q (op :: rest) a w :=
  wpList_plain hgd fun _ hK => wp_store_row ty x y ho g _ hx hy t old hold hi hs h1
    (hK _ _ (h _ (setRow_heap w g old _ t _ hold) (fun k hk => setRow_other w g k _ hk) (fun B w0 hB hb => below_setRow hb hB _) (setRow_size _ _ _)))
end
end Go.Proofs.YtbmnifnahbehbaaDoor

/- The document's small functions: hex digits, decimal digits, names, lines put together. -/
set_option linter.unusedVariables false
namespace Go.Proofs.YtbmnifnahbehbaaDoor
open Go.RowKit Go.Lib Go.Shelf Go.Proofs.YtbmnifnahbehbaaDoorW.PrintWords Go.Proofs.YtbmnifnahbehbaaDoorW.PrintMore Go.Proofs.YtbmnifnahbehbaaDoorW.PrintLast
open PPr
theorem u64_small {x : Int} (h0 : 0 ≤ x) (h1 : x ≤ 18446744073709551615) : IntKind.u64.wrap x = x := by
  have h : x % 2 ^ 64 = x := by omega
  simp [IntKind.wrap, IntKind.signed, IntKind.bits]
  omega
theorem dig_is : ∀ d : Nat, d < 16 → (⟨#[48, 49, 50, 51, 52, 53, 54, 55, 56, 57, 97, 98, 99, 100, 101, 102]⟩ : ByteArray).extract d (d + 1) = ⟨[hexDigit d].toArray⟩ := by decide +kernel
theorem ba_append (a b : List UInt8) : (⟨a.toArray⟩ : ByteArray) ++ ⟨b.toArray⟩ = ⟨(a ++ b).toArray⟩ := by
  apply ByteArray.ext
  rw [ByteArray.data_append]
  simp
theorem hex_is : ∀ (n v : Nat), v < 16 ^ (n + 1) → n ≤ 15 → anvilref07_Hex.f (n + 1) (v : Int) = some ⟨(hexL v).toArray⟩
  | 0, v, h, _ => by
    have h16 : v < 16 := by simpa using h
    have e : hexL v = [hexDigit v] := by rw [hexL, dif_pos h16]
    rw [anvilref07_Hex.f, if_pos (by omega), if_pos (by omega), u64_small (by omega) (by omega), if_pos (by omega), if_pos (by omega), e]
    exact congrArg some (dig_is v h16)
  | n + 1, v, h, hn => by
    have hb : v < 18446744073709551616 := Nat.lt_of_lt_of_le h (by have := Nat.pow_le_pow_right (n := 16) (i := n + 1 + 1) (j := 16) (by omega) (by omega); simpa using this)
    by_cases h16 : v < 16
    · have e : hexL v = [hexDigit v] := by rw [hexL, dif_pos h16]
      rw [anvilref07_Hex.f, if_pos (by omega), if_pos (by omega), u64_small (by omega) (by omega), if_pos (by omega), if_pos (by omega), e]
      exact congrArg some (dig_is v h16)
    · have e : hexL v = hexL (v / 16) ++ [hexDigit (v % 16)] := by rw [hexL, dif_neg h16]
      have ih := hex_is n (v / 16) (by rw [Nat.pow_succ] at h; omega) (by omega)
      have hl := hexL_len 16 (v / 16) (by omega) (by omega)
      have e1 : Int.tdiv (v : Int) 16 = ((v / 16 : Nat) : Int) := by rw [Int.tdiv_eq_ediv_of_nonneg (by omega)]; omega
      have e2 : Int.tmod (v : Int) 16 = ((v % 16 : Nat) : Int) := by rw [Int.tmod_eq_emod_of_nonneg (by omega)]; omega
      have e3 : (⟨#[48, 49, 50, 51, 52, 53, 54, 55, 56, 57, 97, 98, 99, 100, 101, 102]⟩ : ByteArray).extract (v % 16) (v % 16 + 1) = ⟨[hexDigit (v % 16)].toArray⟩ := dig_is (v % 16) (by omega)
      rw [anvilref07_Hex.f, if_neg (by omega), e1, u64_small (by omega) (by omega), ih, Option.bind_some, e2, if_pos (by omega), u64_small (by omega) (by omega), if_pos (by omega), if_pos (by omega),
        show (((v % 16 : Nat) : Int) + 1).toNat = v % 16 + 1 by omega, Int.toNat_natCast, e3, if_pos (by
          have : (⟨(hexL (v / 16)).toArray⟩ : ByteArray).size = (hexL (v / 16)).length := by simp [ByteArray.size]
          have h1 : (⟨[hexDigit (v % 16)].toArray⟩ : ByteArray).size = 1 := rfl
          omega), ba_append, e]
theorem hex2_c {v : Int} (h : Ok64 v) (w : World) : Calls Tryd.prog 21 #[.int .u64 v] w fun e w' => e = .returned (.string (hexB v)) ∧ Below w.heap.size w w' := by
  refine anvilref14_hex.calls 16 v (hexB v) w ?_
  have hs := hexB_size h
  unfold hexB at hs
  rw [ByteArray.size_append] at hs
  have h2 : (⟨#[48, 120]⟩ : ByteArray).size = 2 := rfl
  obtain ⟨n, rfl⟩ := Int.eq_ofNat_of_zero_le h.1
  have hx := hex_is 15 n (by have := h.2; omega) (by omega)
  rw [Int.toNat_natCast] at hs
  unfold anvilref14_hex.f hexB
  rw [hx, Option.bind_some, if_pos (by omega), Int.toNat_natCast]
theorem byte48 {n : Nat} (h : n < 10) : ∀ (r : List UInt8), strOfNums [(wrap64 (48 + (n : Int))) % 256] = ⟨[UInt8.ofNat (48 + n)].toArray⟩ := by
  intro _
  have e : (wrap64 (48 + (n : Int))) % 256 = ((48 + n : Nat) : Int) := by unfold wrap64; omega
  rw [e]
  unfold strOfNums
  rw [List.map_cons, List.map_nil, Int.toNat_natCast]
theorem dec_is : ∀ (m n : Nat), n < 10 ^ (m + 1) → m ≤ 6 → anvilref07_Decimal.f (m + 1) (n : Int) = some ⟨(Lib.decDigits n).toArray⟩
  | 0, n, h, _ => by
    have h10 : n < 10 := by simpa using h
    rw [anvilref07_Decimal.f, if_pos (by omega), byte48 h10 [], Lib.decDigits, dif_pos h10]
  | m + 1, n, h, hm => by
    by_cases h10 : n < 10
    · rw [anvilref07_Decimal.f, if_pos (by omega), byte48 h10 [], Lib.decDigits, dif_pos h10]
    · have hlt : n < 100000000 := Nat.lt_of_lt_of_le h (by have := Nat.pow_le_pow_right (n := 10) (i := m + 1 + 1) (j := 8) (by omega) (by omega); simpa using this)
      have ih := dec_is m (n / 10) (by rw [Nat.pow_succ] at h; omega) (by omega)
      have e1 : Int.tdiv (n : Int) 10 = ((n / 10 : Nat) : Int) := by rw [Int.tdiv_eq_ediv_of_nonneg (by omega)]; omega
      have e2 : Int.tmod (n : Int) 10 = ((n % 10 : Nat) : Int) := by rw [Int.tmod_eq_emod_of_nonneg (by omega)]; omega
      have e3 : wrap64 ((n / 10 : Nat) : Int) = ((n / 10 : Nat) : Int) := by unfold wrap64; omega
      have hd := dec_len 7 (n / 10) (by omega)
      have hs := arr_size (Lib.decDigits (n / 10))
      have e : Lib.decDigits n = Lib.decDigits (n / 10) ++ [UInt8.ofNat (48 + n % 10)] := by rw [Lib.decDigits, dif_neg h10]
      rw [anvilref07_Decimal.f, if_neg (by omega), e1, e3, ih, Option.bind_some, Option.bind_some, e2, byte48 (Nat.mod_lt _ (by omega)) [], if_pos (by
        have : (⟨[UInt8.ofNat (48 + n % 10)].toArray⟩ : ByteArray).size = 1 := rfl
        omega), ba_append, e]
theorem itoaN (n : Nat) : itoaB (n : Int) = ⟨(Lib.decDigits n).toArray⟩ := by
  unfold itoaB
  rw [Lib.itoa_nonneg]
theorem dec2_c {n : Int} (h0 : 0 ≤ n) (h1 : n < 1000000) (w : World) : Calls Tryd.prog 20 #[.int .i64 n] w fun e w' => e = .returned (.string (itoaB n)) ∧ Below w.heap.size w w' := by
  obtain ⟨m, rfl⟩ := Int.eq_ofNat_of_zero_le h0
  refine anvilref07_Decimal.calls 7 (m : Int) (itoaB (m : Int)) w ?_
  rw [itoaN]
  exact dec_is 6 m (by omega) (by omega)
theorem reg2_ok : ∀ i : Fin 32, anvilref07_Reg.f ((i.val : Nat) : Int) = some (regB i.val) := by decide +kernel
theorem reg2_c {i : Nat} (h : i < 32) (w : World) (hG : Glob w) : Calls Tryd.prog 44 #[.int .i64 (i : Int)] w fun e w' => e = .returned (.string (regB i)) ∧ Below w.heap.size w w' := by
  refine (anvilref07_Reg.calls i (regB i) w hG (reg2_ok ⟨i, h⟩)).mono ?_
  rintro e w' ⟨he, nd, rfl⟩
  exact ⟨he, pw_below_drewN (Below.refl _ _) nd⟩
theorem csr2n_ok : ∀ i : Fin 12, anvilref07_Csr.f 40 (toldL.getD i.val 0) = some (csrB i.val) := by decide +kernel
theorem csr2n_c {i : Nat} (h : i < 12) (w : World) (hG : Glob w) : Calls Tryd.prog 46 #[.int .i64 (toldL.getD i 0)] w fun e w' => e = .returned (.string (csrB i)) ∧ Below w.heap.size w w' :=
  anvilref07_Csr.calls 40 _ (csrB i) w hG (csr2n_ok ⟨i, h⟩)
theorem two_ok : ∀ b : Fin 256, anvilref07_Digits.f 4 (b.val : Int) 2 = some ⟨(two (b.val : Int)).toArray⟩ := by decide +kernel
theorem digits_le {k : Nat} {b : Int} (h0 : 0 ≤ b) (h1 : b < 256) : anvilref07_Digits.f (k + 4) b 2 = some ⟨(two b).toArray⟩ := by
  obtain ⟨n, rfl⟩ := Int.eq_ofNat_of_zero_le h0
  have h := two_ok ⟨n, by omega⟩
  induction k with
  | zero => exact h
  | succ k ih => exact anvilref07_Digits.mono _ _ _ _ ih
theorem bd_all (l : List Int) (hb : BytesI l) (hl : l.length ≤ 1000) : ∀ (m : Nat) (acc : List UInt8) (i : Nat), i + m = l.length → acc.length ≤ 2 * i →
    anvilref14_bytesDigits.l0 (m + 5) l ⟨acc.toArray⟩ (i : Int) = some ⟨(acc ++ twos (l.drop i)).toArray⟩
  | 0, acc, i, hi, ha => by
    rw [anvilref14_bytesDigits.l0, if_neg (by omega), List.drop_of_length_le (by omega)]
    unfold twos
    simp
  | m + 1, acc, i, hi, ha => by
    have hi' : i < l.length := by omega
    have hrd : rd l (i : Int) = l[i] := by
      unfold rd
      rw [Int.toNat_natCast, List.getD_eq_getElem?_getD, List.getElem?_eq_getElem hi']
      rfl
    obtain ⟨h0, h1⟩ := hb _ (List.getElem_mem hi')
    have hw : wrap64 ((i : Int) + 1) = ((i + 1 : Nat) : Int) := by
      rw [show (i : Int) + 1 = ((i + 1 : Nat) : Int) by omega]
      unfold wrap64; omega
    have hd := digits_le (k := m + 1) h0 h1
    have hz : (⟨acc.toArray⟩ : ByteArray).size = acc.length := arr_size acc
    have hz2 : (⟨(two l[i]).toArray⟩ : ByteArray).size = 2 := arr_size (two l[i])
    rw [show m + 1 + 5 = (m + 1 + 4) + 1 by omega, anvilref14_bytesDigits.l0, if_pos (by omega), if_pos (by omega), hrd, u64_small h0 (by omega), hd, Option.bind_some, if_pos (by omega), hw, ba_append]
    have ih := bd_all l hb hl m (acc ++ two l[i]) (i + 1) (by omega) (by rw [List.length_append, two_len]; omega)
    rw [show m + 1 + 4 = m + 5 by omega, ih, List.drop_eq_getElem_cons hi']
    unfold twos
    rw [List.flatMap_cons, List.append_assoc]
theorem bd_c (l : List Int) (hb : BytesI l) (hl : l.length ≤ 1000) (A : Option Addr) (c : Nat) (w : World) (hC : Kd.C (Kd.int .u8) w A l.length l) (hc : l.length ≤ c) :
    Calls Tryd.prog 49 #[.slice A l.length c] w fun e w' => e = .returned (.string ⟨(twos l).toArray⟩) ∧ Below w.heap.size w w' := by
  refine anvilref14_bytesDigits.calls (l.length + 5) A c l _ w hC hc ?_
  have h := bd_all l hb hl l.length [] 0 (by omega) (by decide)
  rw [List.nil_append, List.drop_zero] at h
  exact h
/-- Lines as numbers. -/
def lnI (s : ByteArray) : List Int := bytesOf s ++ [10]
theorem nums_back (s : ByteArray) : (bytesOf s).map (fun n => UInt8.ofNat n.toNat) = s.data.toList := by
  unfold bytesOf
  rw [List.map_map]
  exact (List.map_congr_left (fun u _ => ofNat_toNat u)).trans (List.map_id _)
theorem str_lnI (l : List ByteArray) : strOfNums (l.flatMap lnI) = ⟨(txt l).toArray⟩ := by
  unfold strOfNums txt
  congr 2
  induction l with
  | nil => rfl
  | cons s r ih =>
    rw [List.flatMap_cons, List.map_append, ih, List.flatMap_cons]
    congr 1
    unfold lnI lnT
    rw [List.map_append, nums_back]
    rfl
theorem lnI_len (s : ByteArray) : (lnI s).length = s.size + 1 := by
  unfold lnI
  rw [List.length_append, bytesOf_length]
  rfl
theorem flat_lnI_len (l : List ByteArray) : (l.flatMap lnI).length = (txt l).length := by
  unfold txt
  induction l with
  | nil => rfl
  | cons s r ih =>
    rw [List.flatMap_cons, List.length_append, ih, List.flatMap_cons, List.length_append, lnI_len]
    unfold lnT
    rw [List.length_append, ← Lib.size_eq]
    rfl
theorem jo_all (l : List ByteArray) (hl : l.length ≤ 1000000000) (ht : (txt l).length ≤ 1000000000) : ∀ (m : Nat) (i : Nat), i + m = l.length →
    anvilref14_joined.l0 (m + 1) l ((l.take i).flatMap lnI) (i : Int) = some ⟨(txt l).toArray⟩
  | 0, i, hi => by
    rw [anvilref14_joined.l0, if_neg (by omega), List.take_of_length_le (by omega), str_lnI]
  | m + 1, i, hi => by
    have hi' : i < l.length := by omega
    have hrd : rdOf ByteArray.empty l (i : Int) = l[i] := by
      unfold rdOf
      rw [Int.toNat_natCast, List.getD_eq_getElem?_getD, List.getElem?_eq_getElem hi']
      rfl
    have hw : wrap64 ((i : Int) + 1) = ((i + 1 : Nat) : Int) := by
      rw [show (i : Int) + 1 = ((i + 1 : Nat) : Int) by omega]
      unfold wrap64; omega
    have e : l.take (i + 1) = l.take i ++ [l[i]] := by rw [List.take_add_one, List.getElem?_eq_getElem hi']; rfl
    have h1 : ((l.take (i + 1)).flatMap lnI).length ≤ (txt l).length := by
      rw [← flat_lnI_len]
      conv => rhs; rw [← List.take_append_drop (i + 1) l, List.flatMap_append, List.length_append]
      omega
    have h2 : (l.take (i + 1)).flatMap lnI = (l.take i).flatMap lnI ++ bytesOf l[i] ++ [10] := by
      rw [e, List.flatMap_append, List.append_assoc]
      congr 1
      simp [lnI]
    have h3 : ((l.take i).flatMap lnI).length + l[i].size + 1 ≤ (txt l).length := by
      rw [h2, List.length_append, List.length_append, bytesOf_length] at h1
      exact h1
    rw [anvilref14_joined.l0, if_pos (by omega), if_pos (by omega), hrd, if_pos (by omega), Option.bind_some, if_pos (by rw [List.length_append, bytesOf_length]; omega), hw, ← h2]
    exact jo_all l hl ht m (i + 1) (by omega)
theorem joined_c (l : List ByteArray) (hl : l.length ≤ 1000000000) (ht : (txt l).length ≤ 1000000000) (A : Option Addr) (c : Nat) (w : World) (hC : Kd.C Kd.string w A l.length l) (hc : l.length ≤ c) :
    Calls Tryd.prog 26 #[.slice A l.length c] w fun e w' => e = .returned (.string ⟨(txt l).toArray⟩) ∧ Below w.heap.size w w' := by
  refine anvilref14_joined.calls (l.length + 1) A c l _ w hC hc ?_
  exact jo_all l hl ht l.length 0 (by omega)
theorem seg_c (s : S46) (A B : Option Addr) (c d : Nat) (w : World) (hA : Kd.C (Kd.int .u8) w A s.f3.length s.f3) (hc : s.f3.length ≤ c) (hB : Kd.C (Kd.int .u8) w B s.f3.length s.f3) (hd : s.f3.length ≤ d) :
    Calls Tryd.prog 27 #[.agg #[.int .u64 s.f0, .int .u64 s.f1, .int .i64 s.f2, .slice A s.f3.length c], .agg #[.int .u64 s.f0, .int .u64 s.f1, .int .i64 s.f2, .slice B s.f3.length d]] w fun e w' => e = .returned (.bool true) ∧ Below w.heap.size w w' := by
  refine anvilref14_SameSeg.calls s.f0 s.f1 s.f2 A c s.f3 s.f0 s.f1 s.f2 B d s.f3 true w hA hc hB hd ?_
  unfold anvilref14_SameSeg.f
  rw [if_pos rfl, if_pos rfl, if_pos rfl, beq_self_eq_true]
end Go.Proofs.YtbmnifnahbehbaaDoor

/- anvilref14.Field: where each told CSR lies. -/
set_option linter.unusedVariables false
namespace Go.Proofs.YtbmnifnahbehbaaDoor
open Go.RowKit Go.Lib Go.Proofs.YtbmnifnahbehbaaDoorW.PrintWords Go.Proofs.YtbmnifnahbehbaaDoorW.PrintMore Go.Proofs.YtbmnifnahbehbaaDoorW.PrintLast
set_option maxHeartbeats 4000000 in
set_option maxRecDepth 100000 in
theorem field2_c (b k : Nat) (hk : k < 12) (w : World) : Calls Tryd.prog 45 #[.pointer (some ⟨b, 0, none⟩), .int .i64 (k : Int)] w fun e w' => e = .returned (.pointer (some ⟨b, 35 + k, none⟩)) ∧ w' = w := by
  obtain rfl | rfl | rfl | rfl | rfl | rfl | rfl | rfl | rfl | rfl | rfl | rfl : k = 0 ∨ k = 1 ∨ k = 2 ∨ k = 3 ∨ k = 4 ∨ k = 5 ∨ k = 6 ∨ k = 7 ∨ k = 8 ∨ k = 9 ∨ k = 10 ∨ k = 11 := by omega
  all_goals
    go_enter Tryd.func45, Tryd.ntmps45
    go_wp2
    go_ret
    exact ⟨rfl, rfl⟩
end Go.Proofs.YtbmnifnahbehbaaDoor
