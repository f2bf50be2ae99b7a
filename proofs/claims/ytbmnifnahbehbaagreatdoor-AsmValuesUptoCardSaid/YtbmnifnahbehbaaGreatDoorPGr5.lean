-- BY PROGRAM of this session (the kit's printer, turned by wip/tools/patch_print.py). Lean checks it.
import Derived.Test.YtbmnifnahbehbaaGreatDoorPGr2
import Derived.Test.YtbmnifnahbehbaaGreatDoorProg
import Derived.Below
import Derived.Deep.Draws
import Derived.Deep.AppendLies
import Derived.Maps.AppendAt
import Derived.OwnWalk
import Derived.Laws.BytesArg
import Derived.Laws.MakeOwn
import Derived.Laws.OwnMore
import Derived.Deep.OwnRows
import Derived.Tactics
import Derived.Lib.ConvBytes
import Derived.Laws.Slices
import Derived.WalkKit
import Derived.KernelRfl
import Derived.RowKit3
import Derived.Deep.LoopGhost
import Derived.Deep.QuietTactic
import Derived.BigQuiet
import Derived.WideLaws
import Derived.Deep.DeepCutAuto
import Derived.Deep.CutBlock
import Derived.Deep.RegionHeld3
import Derived.Laws.Rows
import Derived.Lib.AppendStr
import Derived.ArgAppend
import Derived.Laws.IdiomCopy
import Derived.OrdersHeld
import Derived.Laws.BitsLemmas
import Derived.RowKit
import Derived.Test.YtbmnifnahbehbaaGreatDoorPWds1
import Derived.Test.YtbmnifnahbehbaaGreatDoorPGr4
namespace Go.Proofs.YtbmnifnahbehbaaGreatDoor.PLx
open Go.RowKit Go.Proofs.YtbmnifnahbehbaaGreatDoorW.PrintWords Go.Proofs.YtbmnifnahbehbaaGreatDoorW.PrintLast Go.Proofs.YtbmnifnahbehbaaGreatDoorW.PrintMore
attribute [local go_sem] max2_int min2_int max_two min_two max_three min_three max_four min_four   -- for this text's walks alone
set_option linter.unusedVariables false
set_option linter.unusedSimpArgs false



def errW : Option Int → Value
  | none => .nilIface
  | some c => .iface 0 (.int .i64 c)
theorem errW_none : errW none = .nilIface := rfl
theorem errW_some (c : Int) : errW (some c) = .iface 0 (.int .i64 c) := rfl

theorem info5 : (Tryz.prog.info? 5).map (fun i => (i.zero, i.size, i.bytes)) = some (some (.int .u8 0), 1, 1) := by kernel_rfl
theorem info58 : (Tryz.prog.info? 58).map (fun i => (i.zero, i.size, i.bytes)) = some (some (.agg #[(.int .i64 0), (.int .i64 0), (.int .i64 0), (.string ⟨#[]⟩), (.string ⟨#[]⟩), (.int .u64 0), (.bool false)]), 7, 72) := by kernel_rfl
-- the values' own types
/-! #### struct type 58 -/
structure S58 where
  f0 : Int
  f1 : Int
  f2 : Int
  f3 : ByteArray
  f4 : ByteArray
  f5 : Int
  f6 : Bool
def z58 : S58 := ⟨(0 : Int), (0 : Int), (0 : Int), (⟨#[]⟩ : ByteArray), (⟨#[]⟩ : ByteArray), (0 : Int), false⟩
def k58 : Kd S58 := Kd.iso (Kd.pair (Kd.int .i64) (Kd.pair (Kd.int .i64) (Kd.pair (Kd.int .i64) (Kd.pair Kd.string (Kd.pair Kd.string (Kd.pair (Kd.int .u64) Kd.bool)))))) (fun x : S58 => (x.f0, x.f1, x.f2, x.f3, x.f4, x.f5, x.f6))
theorem k58_open {w : World} {x : S58} {cs : List Value} (h : k58.K w x cs) : cs = [.int .i64 x.f0, .int .i64 x.f1, .int .i64 x.f2, .string x.f3, .string x.f4, .int .u64 x.f5, .bool x.f6] := by
  obtain ⟨_, _, rfl, rfl, ⟨_, _, rfl, rfl, ⟨_, _, rfl, rfl, ⟨_, _, rfl, rfl, ⟨_, _, rfl, rfl, ⟨_, _, rfl, rfl, rfl⟩⟩⟩⟩⟩⟩ := h
  exact rfl
theorem k58_openM {w : World} {base : Nat} {ok : Nat → Prop} {x : S58} {cs : List Value} (h : k58.M w base ok x cs) : cs = [.int .i64 x.f0, .int .i64 x.f1, .int .i64 x.f2, .string x.f3, .string x.f4, .int .u64 x.f5, .bool x.f6] := by
  obtain ⟨_, _, rfl, rfl, ⟨_, _, rfl, rfl, ⟨_, _, rfl, rfl, ⟨_, _, rfl, rfl, ⟨_, _, rfl, rfl, ⟨_, _, rfl, rfl, rfl⟩⟩⟩⟩⟩⟩ := h
  exact rfl
theorem k58_mk (w : World) (x : S58)  : k58.K w x [.int .i64 x.f0, .int .i64 x.f1, .int .i64 x.f2, .string x.f3, .string x.f4, .int .u64 x.f5, .bool x.f6] := ⟨[.int .i64 x.f0], [.int .i64 x.f1, .int .i64 x.f2, .string x.f3, .string x.f4, .int .u64 x.f5, .bool x.f6], rfl, rfl, ⟨[.int .i64 x.f1], [.int .i64 x.f2, .string x.f3, .string x.f4, .int .u64 x.f5, .bool x.f6], rfl, rfl, ⟨[.int .i64 x.f2], [.string x.f3, .string x.f4, .int .u64 x.f5, .bool x.f6], rfl, rfl, ⟨[.string x.f3], [.string x.f4, .int .u64 x.f5, .bool x.f6], rfl, rfl, ⟨[.string x.f4], [.int .u64 x.f5, .bool x.f6], rfl, rfl, ⟨[.int .u64 x.f5], [.bool x.f6], rfl, rfl, rfl⟩⟩⟩⟩⟩⟩
theorem k58_mkM (w : World) (base : Nat) (ok : Nat → Prop) (x : S58)  : k58.M w base ok x [.int .i64 x.f0, .int .i64 x.f1, .int .i64 x.f2, .string x.f3, .string x.f4, .int .u64 x.f5, .bool x.f6] := ⟨[.int .i64 x.f0], [.int .i64 x.f1, .int .i64 x.f2, .string x.f3, .string x.f4, .int .u64 x.f5, .bool x.f6], rfl, rfl, ⟨[.int .i64 x.f1], [.int .i64 x.f2, .string x.f3, .string x.f4, .int .u64 x.f5, .bool x.f6], rfl, rfl, ⟨[.int .i64 x.f2], [.string x.f3, .string x.f4, .int .u64 x.f5, .bool x.f6], rfl, rfl, ⟨[.string x.f3], [.string x.f4, .int .u64 x.f5, .bool x.f6], rfl, rfl, ⟨[.string x.f4], [.int .u64 x.f5, .bool x.f6], rfl, rfl, ⟨[.int .u64 x.f5], [.bool x.f6], rfl, rfl, rfl⟩⟩⟩⟩⟩⟩
def rd_T58 (xs : List S58) (i : Int) : S58 := xs.getD i.toNat z58
theorem at_T58 {w : World} {A : Option Addr} {n : Nat} {xs : List S58} (h : Kd.C k58 w A n xs) (i : Int) (h0 : 0 ≤ i) (h1 : i < n) : ∃ ad , A = some ad ∧ w.cell? (ad.add (i.toNat * 7)) = some (.int .i64 (rd_T58 xs i).f0) ∧ w.cell? ⟨(ad.add (i.toNat * 7)).block, (ad.add (i.toNat * 7)).off + 1, none⟩ = some (.int .i64 (rd_T58 xs i).f1) ∧ w.cell? ⟨(ad.add (i.toNat * 7)).block, (ad.add (i.toNat * 7)).off + 2, none⟩ = some (.int .i64 (rd_T58 xs i).f2) ∧ w.cell? ⟨(ad.add (i.toNat * 7)).block, (ad.add (i.toNat * 7)).off + 3, none⟩ = some (.string (rd_T58 xs i).f3) ∧ w.cell? ⟨(ad.add (i.toNat * 7)).block, (ad.add (i.toNat * 7)).off + 4, none⟩ = some (.string (rd_T58 xs i).f4) ∧ w.cell? ⟨(ad.add (i.toNat * 7)).block, (ad.add (i.toNat * 7)).off + 5, none⟩ = some (.int .u64 (rd_T58 xs i).f5) ∧ w.cell? ⟨(ad.add (i.toNat * 7)).block, (ad.add (i.toNat * 7)).off + 6, none⟩ = some (.bool (rd_T58 xs i).f6) := by
  obtain ⟨ad, c, e, _, hK, hc0⟩ := Kd.C_get h z58 i h0 h1
  have hc : ∀ j u, c[j]? = some u → w.cell? (ad.add (i.toNat * 7 + j)) = some u := hc0
  obtain rfl := k58_open hK
  exact ⟨ad, e, hc 0 _ rfl, by rw [← add_field _ _ 1 (by omega)]; exact hc 1 _ rfl, by rw [← add_field _ _ 2 (by omega)]; exact hc 2 _ rfl, by rw [← add_field _ _ 3 (by omega)]; exact hc 3 _ rfl, by rw [← add_field _ _ 4 (by omega)]; exact hc 4 _ rfl, by rw [← add_field _ _ 5 (by omega)]; exact hc 5 _ rfl, by rw [← add_field _ _ 6 (by omega)]; exact hc 6 _ rfl⟩

end Go.Proofs.YtbmnifnahbehbaaGreatDoor.PLx

/- The document's parser in memory; Parser.is, Parser.bad. -/
set_option linter.unusedVariables false
set_option linter.unusedSimpArgs false
namespace Go.Proofs.YtbmnifnahbehbaaGreatDoor
open Go.RowKit Go.Lib Go.Proofs.YtbmnifnahbehbaaGreatDoorW.PrintWords Go.Proofs.YtbmnifnahbehbaaGreatDoorW.PrintMore Go.Proofs.YtbmnifnahbehbaaGreatDoorW.PrintLast
open AvP
abbrev DTk := PLx.S58
def kmap (k : Int) : Int := if k = 1 then 0 else if k = 2 then 1 else if k = 3 then 2 else if k = 0 then 9 else k
/-- A token of the document's as a token of asm's. -/
def ab (x : DTk) : Tok := ⟨kmap x.f0, x.f1, x.f2, x.f3, x.f5, x.f6⟩
theorem kmap_6 (k : Int) : kmap k = 6 ↔ k = 6 := by unfold kmap; repeat' split <;> omega
theorem kmap_5 (k : Int) : kmap k = 5 ↔ k = 5 := by unfold kmap; repeat' split <;> omega
def dtokL (x : DTk) : List Value := [.int .i64 x.f0, .int .i64 x.f1, .int .i64 x.f2, .string x.f3, .string x.f4, .int .u64 x.f5, .bool x.f6]
/-- A token of the row. -/
theorem dtok_at {w : World} {A : Option Addr} {n i : Nat} {l : List DTk} {x : DTk} (h : Kd.C PLx.k58 w A n l) (hx : l[i]? = some x) : ∃ ad, A = some ad ∧ i < n ∧ w.cell? (ad.add (i * 7)) = some (.int .i64 x.f0) ∧ w.cell? ⟨(ad.add (i * 7)).block, (ad.add (i * 7)).off + 1, none⟩ = some (.int .i64 x.f1) ∧ w.cell? ⟨(ad.add (i * 7)).block, (ad.add (i * 7)).off + 2, none⟩ = some (.int .i64 x.f2) ∧ w.cell? ⟨(ad.add (i * 7)).block, (ad.add (i * 7)).off + 3, none⟩ = some (.string x.f3) ∧ w.cell? ⟨(ad.add (i * 7)).block, (ad.add (i * 7)).off + 4, none⟩ = some (.string x.f4) ∧ w.cell? ⟨(ad.add (i * 7)).block, (ad.add (i * 7)).off + 5, none⟩ = some (.int .u64 x.f5) ∧ w.cell? ⟨(ad.add (i * 7)).block, (ad.add (i * 7)).off + 6, none⟩ = some (.bool x.f6) := by
  have hil : i < l.length := (List.getElem?_eq_some_iff.1 hx).1
  have hn : l.length = n := h.1
  obtain ⟨ad, c, e, _, hK, hc0⟩ := Kd.C_get h PLx.z58 (i : Int) (by omega) (by omega)
  rw [Int.toNat_natCast] at hK hc0
  have hg : l.getD i PLx.z58 = x := by rw [List.getD_eq_getElem?_getD, hx]; rfl
  rw [hg] at hK
  have hc : ∀ j u, c[j]? = some u → w.cell? (ad.add (i * 7 + j)) = some u := hc0
  obtain rfl := PLx.k58_open hK
  exact ⟨ad, e, by omega, hc 0 _ rfl, by rw [← add_field _ _ 1 (by omega)]; exact hc 1 _ rfl, by rw [← add_field _ _ 2 (by omega)]; exact hc 2 _ rfl, by rw [← add_field _ _ 3 (by omega)]; exact hc 3 _ rfl, by rw [← add_field _ _ 4 (by omega)]; exact hc 4 _ rfl, by rw [← add_field _ _ 5 (by omega)]; exact hc 5 _ rfl, by rw [← add_field _ _ 6 (by omega)]; exact hc 6 _ rfl⟩
/-- The place behind the last token. -/
def behind (l : List DTk) : Int := match l.getLast? with | some t => t.f2 | none => 0
/-- The parser's box. -/
structure PD (w : World) (g : Nat) (A : Option Addr) (n cp : Nat) (bh : Int) (i d : Int) (fa fy : Int) (W : World) : Prop where
  b : Below w.heap.size w W
  x : W.heap[g]? = some (.cells #[.slice A n cp, .int .i64 i, .int .i64 bh, .int .i64 d, .int .i64 fa, .int .i64 fy] 94 (0, 0))
  g0 : w.heap.size ≤ g
section
variable {w W W' : World} {g n cp : Nat} {A : Option Addr} {i d bh fa fy : Int}
theorem PD.c0 (h : PD w g A n cp bh i d fa fy W) : W.cell? ⟨g, 0, none⟩ = some (.slice A n cp) := blk_cell h.x 0
theorem PD.c1 (h : PD w g A n cp bh i d fa fy W) : W.cell? ⟨g, 1, none⟩ = some (.int .i64 i) := blk_cell h.x 1
theorem PD.c2 (h : PD w g A n cp bh i d fa fy W) : W.cell? ⟨g, 2, none⟩ = some (.int .i64 bh) := blk_cell h.x 2
theorem PD.c3 (h : PD w g A n cp bh i d fa fy W) : W.cell? ⟨g, 3, none⟩ = some (.int .i64 d) := blk_cell h.x 3
theorem PD.c4 (h : PD w g A n cp bh i d fa fy W) : W.cell? ⟨g, 4, none⟩ = some (.int .i64 fa) := blk_cell h.x 4
theorem PD.c5 (h : PD w g A n cp bh i d fa fy W) : W.cell? ⟨g, 5, none⟩ = some (.int .i64 fy) := blk_cell h.x 5
theorem PD.below (h : PD w g A n cp bh i d fa fy W) (hb : Below W.heap.size W W') : PD w g A n cp bh i d fa fy W' := ⟨h.b.trans (hb.mono h.b.size), blk_below h.x hb, h.g0⟩
theorem PD.set1 (h : PD w g A n cp bh i d fa fy W) (j : Int) : PD w g A n cp bh j d fa fy (W.setCell ⟨g, 1, none⟩ (.int .i64 j)) := ⟨Below.setCell h.b (p := ⟨g, 1, none⟩) h.g0 _, blk_put h.x 1 _ rfl, h.g0⟩
theorem PD.set3 (h : PD w g A n cp bh i d fa fy W) (j : Int) : PD w g A n cp bh i j fa fy (W.setCell ⟨g, 3, none⟩ (.int .i64 j)) := ⟨Below.setCell h.b (p := ⟨g, 3, none⟩) h.g0 _, blk_put h.x 3 _ rfl, h.g0⟩
end
/-- Is the token i this mark? -/
def isAt (l : List DTk) (i : Nat) (m : ByteArray) : Bool := match l[i]? with | some x => isM (ab x) m | none => false
set_option maxHeartbeats 4000000 in
set_option maxRecDepth 100000 in
theorem dis_c {w W : World} {g n cp i : Nat} {A : Option Addr} {d bh fa fy : Int} {l : List DTk} (h : PD w g A n cp bh i d fa fy W) (hl : Kd.C PLx.k58 w A n l) (hn : n ≤ 1000000000) (hi : i ≤ 1000000000) (m : ByteArray) :
    Calls Tryz.prog 54 #[.pointer (some ⟨g, 0, none⟩), .string m] W fun e w' => e = .returned (.bool (isAt l i m)) ∧ Below W.heap.size W w' := by
  have c0 := h.c0
  have c1 := h.c1
  have hC := Kd.C_below hl h.b
  have hln := hl.1
  clear h hl
  by_cases h1 : i < n
  · obtain ⟨t, ht⟩ : ∃ t, l[i]? = some t := ⟨_, List.getElem?_eq_getElem (by omega)⟩
    obtain ⟨ad, rfl, _, k0, k1, k2, k3, k4, k5, k6⟩ := dtok_at hC ht
    have e1 : isAt l i m = isM (ab t) m := by unfold isAt; rw [ht]
    rw [e1]
    unfold isM ab
    dsimp only
    have q1 : decide ((i : Int) < (n : Int)) = true := by simp [h1]
    have q2 : (0 : Int) ≤ (i : Int) := by omega
    have q3 : (i : Int) < (n : Int) := by omega
    have HL := Lib.hid (And.intro hC (And.intro ht hln))
    clear hC ht hln e1 k1 k2 k4 k5 k6
    by_cases hk : t.f0 = 6
    · have x0 : (t.f0 == 6) = true := by simp [hk]
      rw [decide_eq_true ((kmap_6 _).2 hk), Bool.true_and]
      have E2 : (t.f3.toList == m.toList) = decide (t.f3 = m) := beq_dec _ _
      clear hk
      cases hb : decide (t.f3 = m)
      all_goals
        rw [hb] at E2
        clear hb
        go_enter Tryz.func54, Tryz.ntmps54
        go_wp2
        go_quiet (fail)
        have hB := pw_below_drewN (Below.refl W.heap.size W) nq
        go_wp2
        go_ret
        exact ⟨rfl, hB⟩
    · have x0 : (t.f0 == 6) = false := by simp [hk]
      rw [decide_eq_false (fun h => hk ((kmap_6 _).1 h)), Bool.false_and]
      clear hk
      go_enter Tryz.func54, Tryz.ntmps54
      go_wp2
      go_quiet (fail)
      have hB := pw_below_drewN (Below.refl W.heap.size W) nq
      go_wp2
      go_ret
      exact ⟨rfl, hB⟩
  · have q1 : decide ((i : Int) < (n : Int)) = false := by simp; omega
    have e1 : isAt l i m = false := by unfold isAt; rw [List.getElem?_eq_none (by omega)]
    rw [e1]
    clear hC hln e1
    go_enter Tryz.func54, Tryz.ntmps54
    go_wp2
    go_quiet (fail)
    have hB := pw_below_drewN (Below.refl W.heap.size W) nq
    go_wp2
    go_ret
    exact ⟨rfl, hB⟩
/-- The place of a fault of form. -/
def hereD (l : List DTk) (bh : Int) (i : Nat) : Int := match l[i]? with | some t => t.f1 | none => bh
theorem here_eq (l : List DTk) (i : Nat) : here (l.map ab) i = hereD l (behind l) i := by
  unfold here hereD behind
  rw [List.getElem?_map, List.getLast?_map]
  cases l[i]? with
  | some t => rfl
  | none => cases l.getLast? <;> rfl
theorem PD.setF {w W : World} {g n cp : Nat} {A : Option Addr} {i d bh fa fy : Int} (h : PD w g A n cp bh i d fa fy W) (a y : Int) : PD w g A n cp bh i d a y ((W.setCell ⟨g, 4, none⟩ (.int .i64 a)).setCell ⟨g, 5, none⟩ (.int .i64 y)) :=
  ⟨Below.setCell (Below.setCell h.b (p := ⟨g, 4, none⟩) h.g0 _) (p := ⟨g, 5, none⟩) h.g0 _, blk_put (blk_put h.x 4 _ rfl) 5 _ rfl, h.g0⟩
theorem KG.setF {W W1 : World} {g : Nat} (h : KG g W W1) (a y : Int) : KG g W ((W1.setCell ⟨g, 4, none⟩ (.int .i64 a)).setCell ⟨g, 5, none⟩ (.int .i64 y)) := (h.set 4 _).set 5 _
set_option maxHeartbeats 4000000 in
set_option maxRecDepth 100000 in
theorem bad_c {w W : World} {g n cp i : Nat} {A : Option Addr} {d bh fa : Int} {l : List DTk} (h : PD w g A n cp bh i d fa 0 W) (hl : Kd.C PLx.k58 w A n l) (hn : n ≤ 1000000000) (hi : i ≤ 1000000000) (y : Int) :
    Calls Tryz.prog 29 #[.pointer (some ⟨g, 0, none⟩), .int .i64 y] W fun e w' => e = .returned (.tuple #[]) ∧ PD w g A n cp bh i d (hereD l bh i) y w' ∧ KG g W w' := by
  have c0 := h.c0
  have c1 := h.c1
  have c2 := h.c2
  have c5 := h.c5
  have hC := Kd.C_below hl h.b
  have hln := hl.1
  have HX := Lib.hid h
  clear h hl
  by_cases h1 : i < n
  · obtain ⟨t, ht⟩ : ∃ t, l[i]? = some t := ⟨_, List.getElem?_eq_getElem (by omega)⟩
    obtain ⟨ad, rfl, _, k0, k1, k2, k3, k4, k5, k6⟩ := dtok_at hC ht
    have e1 : hereD l bh i = t.f1 := by unfold hereD; rw [ht]
    rw [e1]
    have q1 : decide ((i : Int) < (n : Int)) = true := by simp [h1]
    have q2 : (0 : Int) ≤ (i : Int) := by omega
    have q3 : (i : Int) < (n : Int) := by omega
    clear hC ht hln e1 k0 k2 k3 k4 k5 k6
    go_enter Tryz.func29, Tryz.ntmps29
    go_wp2
    go_quiet (fail)
    have hB := pw_below_drewN (Below.refl W.heap.size W) nq
    obtain ⟨W1, hW1⟩ : ∃ x, W.drewN nq = x := ⟨_, rfl⟩
    rw [hW1] at hB ⊢
    have K1 := Lib.hid (hB.cell (World.block_lt_of_cell? _ _ k1) |>.trans k1)
    clear c0 c1 c2 c5 hW1 k1
    have X1 := Lib.hid (HX.out.below hB)
    have HB := Lib.hid (KG.of_below (g := g) hB)
    clear HX hB
    have c0 := X1.out.c0
    have c1 := X1.out.c1
    have c2 := X1.out.c2
    have k1 := K1.out
    go_wp2
    go_quiet (fail)
    have hB := pw_below_drewN (Below.refl W1.heap.size W1) nq
    obtain ⟨W2, hW2⟩ : ∃ x, W1.drewN nq = x := ⟨_, rfl⟩
    rw [hW2] at hB ⊢
    clear c0 c1 c2 k1 hW2 K1
    have X2 := X1.out.below hB
    have HB2 := Lib.hid (And.intro X2 (HB.out.trans (KG.of_below hB)))
    have c4 := X2.c4
    have c5 := X2.c5
    have f4 : W2.frozen? ⟨g, 4, none⟩ = false := blk_frozen X2.x 4
    have f5 : W2.frozen? ⟨g, 5, none⟩ = false := blk_frozen X2.x 5
    clear X1 X2 hB HB
    go_wp2
    go_end0
    exact ⟨rfl, HB2.out.1.setF _ _, HB2.out.2.setF _ _⟩
  · have q1 : decide ((i : Int) < (n : Int)) = false := by simp; omega
    have e1 : hereD l bh i = bh := by unfold hereD; rw [List.getElem?_eq_none (by omega)]
    rw [e1]
    clear hC hln e1
    go_enter Tryz.func29, Tryz.ntmps29
    go_wp2
    go_quiet (fail)
    have hB := pw_below_drewN (Below.refl W.heap.size W) nq
    obtain ⟨W2, hW2⟩ : ∃ x, W.drewN nq = x := ⟨_, rfl⟩
    rw [hW2] at hB ⊢
    clear c0 c1 c2 c5 hW2
    have X2 := HX.out.below hB
    have HB2 := Lib.hid (And.intro X2 (KG.of_below (g := g) hB))
    have c4 := X2.c4
    have c5 := X2.c5
    have f4 : W2.frozen? ⟨g, 4, none⟩ = false := blk_frozen X2.x 4
    have f5 : W2.frozen? ⟨g, 5, none⟩ = false := blk_frozen X2.x 5
    clear X2 hB HX
    go_wp2
    go_end0
    exact ⟨rfl, HB2.out.1.setF _ _, HB2.out.2.setF _ _⟩
end Go.Proofs.YtbmnifnahbehbaaGreatDoor

/- The document's Parser.signed, if it and level do with less fuel as pD says. -/
set_option linter.unusedVariables false
set_option linter.unusedSimpArgs false
namespace Go.Proofs.YtbmnifnahbehbaaGreatDoor
open Go.RowKit Go.Lib Go.Proofs.YtbmnifnahbehbaaGreatDoorW.PrintWords Go.Proofs.YtbmnifnahbehbaaGreatDoorW.PrintMore Go.Proofs.YtbmnifnahbehbaaGreatDoorW.PrintLast
open AvP
def dnode (x : DTk) (l r : Value) : Array Value := (dtokL x ++ [l, r]).toArray
/-- v points to the document's tree of an expression; none of its blocks is g. -/
def DTree (W : World) (g : Nat) : Ex → Value → Prop
  | .leaf t, v => ∃ x b, ab x = t ∧ v = .pointer (some ⟨b, 0, none⟩) ∧ b ≠ g ∧ W.heap[b]? = some (.cells (dnode x (.pointer none) (.pointer none)) 98 (0, 0))
  | .un t e, v => ∃ x b ev, ab x = t ∧ v = .pointer (some ⟨b, 0, none⟩) ∧ b ≠ g ∧ W.heap[b]? = some (.cells (dnode x (.pointer none) ev) 98 (0, 0)) ∧ DTree W g e ev
  | .bin t l r, v => ∃ x b lv rv, ab x = t ∧ v = .pointer (some ⟨b, 0, none⟩) ∧ b ≠ g ∧ W.heap[b]? = some (.cells (dnode x lv rv) 98 (0, 0)) ∧ DTree W g l lv ∧ DTree W g r rv
theorem DTree.kg {W W' : World} {g : Nat} (hk : KG g W W') : ∀ {e : Ex} {v : Value}, DTree W g e v → DTree W' g e v
  | .leaf t, v, ⟨x, b, e0, e1, h1, h2⟩ => ⟨x, b, e0, e1, h1, (hk.k b (blk_lt h2) h1).trans h2⟩
  | .un t e, v, ⟨x, b, ev, e0, e1, h1, h2, h3⟩ => ⟨x, b, ev, e0, e1, h1, (hk.k b (blk_lt h2) h1).trans h2, DTree.kg hk h3⟩
  | .bin t l r, v, ⟨x, b, lv, rv, e0, e1, h1, h2, h3, h4⟩ => ⟨x, b, lv, rv, e0, e1, h1, (hk.k b (blk_lt h2) h1).trans h2, DTree.kg hk h3, DTree.kg hk h4⟩
def DBox (w : World) (g : Nat) (x : DTk) : Prop := w.heap[g]? = some (.cells (dtokL x).toArray 58 (0, 0))
theorem db_cells {w : World} {g : Nat} {x : DTk} (h : DBox w g x) : w.cell? ⟨g, 0, none⟩ = some (.int .i64 x.f0) ∧ w.cell? ⟨g, 1, none⟩ = some (.int .i64 x.f1) ∧ w.cell? ⟨g, 2, none⟩ = some (.int .i64 x.f2) ∧ w.cell? ⟨g, 3, none⟩ = some (.string x.f3) ∧ w.cell? ⟨g, 4, none⟩ = some (.string x.f4) ∧ w.cell? ⟨g, 5, none⟩ = some (.int .u64 x.f5) ∧ w.cell? ⟨g, 6, none⟩ = some (.bool x.f6) :=
  ⟨blk_cell h 0, blk_cell h 1, blk_cell h 2, blk_cell h 3, blk_cell h 4, blk_cell h 5, blk_cell h 6⟩
/-- What a walk reads of the parser's box and of the token at i. -/
def RdD (g n cp i : Nat) (ad : Addr) (x : DTk) (W : World) : Prop :=
  W.cell? ⟨g, 0, none⟩ = some (.slice (some ad) n cp) ∧ W.cell? ⟨g, 1, none⟩ = some (.int .i64 (i : Int)) ∧ W.cell? (ad.add (i * 7)) = some (.int .i64 x.f0) ∧ W.cell? ⟨(ad.add (i * 7)).block, (ad.add (i * 7)).off + 1, none⟩ = some (.int .i64 x.f1) ∧ W.cell? ⟨(ad.add (i * 7)).block, (ad.add (i * 7)).off + 2, none⟩ = some (.int .i64 x.f2) ∧ W.cell? ⟨(ad.add (i * 7)).block, (ad.add (i * 7)).off + 3, none⟩ = some (.string x.f3) ∧ W.cell? ⟨(ad.add (i * 7)).block, (ad.add (i * 7)).off + 4, none⟩ = some (.string x.f4) ∧ W.cell? ⟨(ad.add (i * 7)).block, (ad.add (i * 7)).off + 5, none⟩ = some (.int .u64 x.f5) ∧ W.cell? ⟨(ad.add (i * 7)).block, (ad.add (i * 7)).off + 6, none⟩ = some (.bool x.f6)
theorem rdD_of {w W W' : World} {g n cp i : Nat} {d : Int} {A : Option Addr} {bh fa fy : Int} {l : List DTk} {x : DTk} (h : PD w g A n cp bh i d fa fy W) (hl : Kd.C PLx.k58 w A n l) (ht : l[i]? = some x) (hb : Below W.heap.size W W') : ∃ ad, A = some ad ∧ RdD g n cp i ad x W' := by
  have h2 := h.below hb
  obtain ⟨ad, rfl, _, k⟩ := dtok_at (Kd.C_below hl h2.b) ht
  exact ⟨ad, rfl, h2.c0, h2.c1, k⟩
/-- What an answer means. -/
def AnsD (w W : World) (g n cp : Nat) (d : Nat) (A : Option Addr) (bh : Int) : Res → Ending → World → Prop
  | .ok (e, j), E, w' => ∃ p fa, E = .returned (.pointer p) ∧ DTree w' g e (.pointer p) ∧ PD w g A n cp bh (j : Int) (d : Int) fa 0 w' ∧ KG g W w' ∧ j ≤ n
  | .error (a, y), E, w' => ∃ p j d', E = .returned (.pointer p) ∧ y ≠ 0 ∧ PD w g A n cp bh j d' a y w' ∧ KG g W w'
/-- signed and level do as pD says with fuel f. -/
def DoesD (w : World) (g n cp : Nat) (A : Option Addr) (l : List DTk) (f : Nat) : Prop :=
  ∀ (i d : Nat) (fa : Int) (W : World) (r : Res), PD w g A n cp (behind l) (i : Int) (d : Int) fa 0 W → d ≤ 30 → i ≤ n →
    (pD (l.map ab) f (.op i d) = some r → Calls Tryz.prog 53 #[.pointer (some ⟨g, 0, none⟩)] W (AnsD w W g n cp d A (behind l) r)) ∧
    (∀ k, k ≤ 6 → pD (l.map ab) f (.lv k i d) = some r → Calls Tryz.prog 28 #[.pointer (some ⟨g, 0, none⟩), .int .i64 (k : Int)] W (AnsD w W g n cp d A (behind l) r))
theorem isAt_some {l : List DTk} {i : Nat} {x : DTk} (h : l[i]? = some x) (m : ByteArray) : isAt l i m = isM (ab x) m := by unfold isAt; rw [h]
theorem isAt_none {l : List DTk} {i : Nat} (h : l[i]? = none) (m : ByteArray) : isAt l i m = false := by unfold isAt; rw [h]
set_option maxHeartbeats 4000000 in
set_option maxRecDepth 100000 in
theorem sgn_c {w W : World} {g n cp i d f : Nat} {A : Option Addr} {fa : Int} {l : List DTk} {r : Res} {x : DTk} (hl : Kd.C PLx.k58 w A n l) (hn : n ≤ 1000000000) (hD : DoesD w g n cp A l f)
    (h : PD w g A n cp (behind l) (i : Int) (d : Int) fa 0 W) (hd : d ≤ 30) (hi : i ≤ n) (ht : l[i]? = some x) (hs : sign (ab x) = true) (hr : pD (l.map ab) (f + 1) (.op i d) = some r) :
    Calls Tryz.prog 53 #[.pointer (some ⟨g, 0, none⟩)] W (AnsD w W g n cp d A (behind l) r) := by
  obtain ⟨bh, hbh⟩ : ∃ q, behind l = q := ⟨_, rfl⟩
  have hil : i < n := by rw [← hl.1]; exact (List.getElem?_eq_some_iff.1 ht).1
  obtain ⟨ad, rfl, _⟩ := dtok_at (Kd.C_below hl h.b) ht
  have hrd : ∀ W', Below W.heap.size W W' → RdD g n cp i ad x W' := fun W' hb => by obtain ⟨ad', e1, h1⟩ := rdD_of h hl ht hb; cases e1; exact h1
  have HG := Lib.hid hrd
  have his : ∀ (m : ByteArray) (W' : World), Below W.heap.size W W' → Calls Tryz.prog 54 #[.pointer (some ⟨g, 0, none⟩), .string m] W' fun e w' => e = .returned (.bool (isM (ab x) m)) ∧ Below W'.heap.size W' w' := fun m W' hb => by
    rw [← isAt_some ht m]
    exact dis_c (h.below hb) hl hn (by omega) m
  have HI := Lib.hid his
  rw [pD, List.getElem?_map, ht] at hr
  dsimp only [Option.map_some] at hr
  rw [if_pos hs] at hr
  have hsg : isM (ab x) ⟨#[43]⟩ = true ∨ isM (ab x) ⟨#[43]⟩ = false ∧ isM (ab x) ⟨#[45]⟩ = true ∨ isM (ab x) ⟨#[43]⟩ = false ∧ isM (ab x) ⟨#[45]⟩ = false ∧ isM (ab x) ⟨#[126]⟩ = true := by
    unfold sign at hs
    cases hh : isM (ab x) ⟨#[45]⟩ <;> cases hh2 : isM (ab x) ⟨#[43]⟩ <;> cases hh3 : isM (ab x) ⟨#[126]⟩ <;> simp_all
  cases hq : pD (l.map ab) f (.op (i + 1) d) with
  | none => rw [hq] at hr; cases hr
  | some r2 =>
    rw [hq] at hr
    have hc := fun (W6 : World) (P6 : PD w g (some ad) n cp bh ((i + 1 : Nat) : Int) (d : Int) fa 0 W6) => ((hD (i + 1) d fa W6 r2 (hbh ▸ P6) hd (by omega)).1 hq)
    rw [hbh] at h hc ⊢
    have hz : ∀ gb W6 E w7, gb ≠ g → KG g W W6 → DBox W6 gb x → AnsD w W6 g n cp d (some ad) bh r2 E w7 → ∃ p2, E = .returned (.pointer p2) ∧ DBox w7 gb x ∧ ∀ w8, w8.heap[w7.heap.size]? = some (.cells (dnode x (.pointer none) (.pointer p2)) 98 (0, 0)) → Below w7.heap.size w7 w8 → AnsD w W g n cp d (some ad) bh r (.returned (.pointer (some ⟨w7.heap.size, 0, none⟩))) w8 := by
      intro gb W6 E w7 hgg G6 X6 hA
      match r2, hA, hr with
      | .ok (er, j), ⟨p2, fa2, a1, a2, a3, a4, a5⟩, hr =>
        obtain rfl := (Option.some.inj hr).symm
        refine ⟨p2, a1, (a4.k gb (blk_lt X6) hgg).trans X6, fun w8 h8 hb8 => ⟨_, fa2, rfl, ⟨x, _, _, rfl, rfl, ?_, h8, DTree.kg (KG.of_below hb8) a2⟩, a3.below hb8, (G6.trans a4).trans (KG.of_below hb8), a5⟩⟩
        have := blk_lt a3.x
        omega
      | .error (a, y), ⟨p2, j, d', a1, a0, a2, a3⟩, hr =>
        obtain rfl := (Option.some.inj hr).symm
        exact ⟨p2, a1, (a3.k gb (blk_lt X6) hgg).trans X6, fun w8 h8 hb8 => ⟨_, j, d', rfl, a0, a2.below hb8, (G6.trans a3).trans (KG.of_below hb8)⟩⟩
    have HC := Lib.hid hc
    have HZ := Lib.hid hz
    have HP := Lib.hid h
    have HB := Lib.hid (Below.refl W.heap.size W)
    have e1 : IntKind.i64.wrap ((i : Int) + 1) = (i : Int) + 1 := by rw [IntKind.wrap_i64]; omega
    have q3 : (0 : Int) ≤ (i : Int) := by omega
    have q4 : (i : Int) < (n : Int) := by omega
    clear hr hq hc hz h hl hn hD hd hi ht hs hil hrd his hbh
    rcases hsg with hs1 | ⟨hs1, hs2⟩ | ⟨hs1, hs2, hs3⟩
    all_goals
      go_enter Tryz.func53, Tryz.ntmps53
      go_upto_region 2 with (first
        | (go_at_call 54; refine (HI.out _ _ HB.out).mono ?_; rintro E wi ⟨rfl, hd⟩; have hb := HB.out.trans (hd.mono HB.out.size); clear HB hd; have HB := Lib.hid hb; clear hb))
      have hO := blk_new wi (Obj.cells #[.int .i64 0, .int .i64 0, .int .i64 0, .string ⟨#[]⟩, .string ⟨#[]⟩, .int .u64 0, .bool false] 58)
      have hB1 := below_drew HB.out
      have hB2 := HB.out.alloc HB.out.size (Obj.cells #[.int .i64 0, .int .i64 0, .int .i64 0, .string ⟨#[]⟩, .string ⟨#[]⟩, .int .u64 0, .bool false] 58)
      have hB3 := below_drew hB2
      obtain ⟨a0, a1, a2, a3, a4, a5, a6, a7, a8⟩ := HG.out _ HB.out
      obtain ⟨b0, b1, b2, b3, b4, b5, b6, b7, b8⟩ := HG.out _ hB1
      obtain ⟨d0, d1, d2, d3, d4, d5, d6, d7, d8⟩ := HG.out _ hB2
      obtain ⟨e0, e1, e2, e3, e4, e5, e6, e7, e8⟩ := HG.out _ hB3
      have z0 : (wi.alloc (Obj.cells #[.int .i64 0, .int .i64 0, .int .i64 0, .string ⟨#[]⟩, .string ⟨#[]⟩, .int .u64 0, .bool false] 58)).cell? ⟨wi.heap.size, 0, none⟩ = some (.int .i64 0) := blk_cell hO 0
      have z1 : (wi.alloc (Obj.cells #[.int .i64 0, .int .i64 0, .int .i64 0, .string ⟨#[]⟩, .string ⟨#[]⟩, .int .u64 0, .bool false] 58)).cell? ⟨wi.heap.size, 1, none⟩ = some (.int .i64 0) := blk_cell hO 1
      have z2 : (wi.alloc (Obj.cells #[.int .i64 0, .int .i64 0, .int .i64 0, .string ⟨#[]⟩, .string ⟨#[]⟩, .int .u64 0, .bool false] 58)).cell? ⟨wi.heap.size, 2, none⟩ = some (.int .i64 0) := blk_cell hO 2
      have z3 : (wi.alloc (Obj.cells #[.int .i64 0, .int .i64 0, .int .i64 0, .string ⟨#[]⟩, .string ⟨#[]⟩, .int .u64 0, .bool false] 58)).cell? ⟨wi.heap.size, 3, none⟩ = some (.string ⟨#[]⟩) := blk_cell hO 3
      have z4 : (wi.alloc (Obj.cells #[.int .i64 0, .int .i64 0, .int .i64 0, .string ⟨#[]⟩, .string ⟨#[]⟩, .int .u64 0, .bool false] 58)).cell? ⟨wi.heap.size, 4, none⟩ = some (.string ⟨#[]⟩) := blk_cell hO 4
      have z5 : (wi.alloc (Obj.cells #[.int .i64 0, .int .i64 0, .int .i64 0, .string ⟨#[]⟩, .string ⟨#[]⟩, .int .u64 0, .bool false] 58)).cell? ⟨wi.heap.size, 5, none⟩ = some (.int .u64 0) := blk_cell hO 5
      have z6 : (wi.alloc (Obj.cells #[.int .i64 0, .int .i64 0, .int .i64 0, .string ⟨#[]⟩, .string ⟨#[]⟩, .int .u64 0, .bool false] 58)).cell? ⟨wi.heap.size, 6, none⟩ = some (.bool false) := blk_cell hO 6
      have fr : ∀ j, (wi.alloc (Obj.cells #[.int .i64 0, .int .i64 0, .int .i64 0, .string ⟨#[]⟩, .string ⟨#[]⟩, .int .u64 0, .bool false] 58)).frozen? ⟨wi.heap.size, j, none⟩ = false := fun j => blk_frozen hO j
      go_region
      obtain ⟨w2, hw2⟩ : ∃ q, (wi.alloc (Obj.cells #[.int .i64 x.f0, .int .i64 x.f1, .int .i64 x.f2, .string x.f3, .string x.f4, .int .u64 x.f5, .bool x.f6] 58)).drew = q := ⟨_, rfl⟩
      have hX : DBox w2 wi.heap.size x := by rw [← hw2]; exact blk_drew (blk_new wi _)
      have hB4 := below_drew (HB.out.alloc HB.out.size (Obj.cells #[.int .i64 x.f0, .int .i64 x.f1, .int .i64 x.f2, .string x.f3, .string x.f4, .int .u64 x.f5, .bool x.f6] 58))
      have hge := HB.out.size
      rw [hw2] at hB4
      rw [hw2]
      obtain ⟨gb, hgb⟩ : ∃ q, wi.heap.size = q := ⟨_, rfl⟩
      rw [hgb] at hX hge ⊢
      have HX := Lib.hid (And.intro hX (And.intro hB4 hge))
      clear hw2 hgb hX hB4 hge z0 z1 z2 z3 z4 z5 z6 fr hO hB1 hB2 hB3 a0 a1 a2 a3 a4 a5 a6 a7 a8 b0 b1 b2 b3 b4 b5 b6 b7 b8 d0 d1 d2 d3 d4 d5 d6 d7 d8 e0 e1 e2 e3 e4 e5 e6 e7 e8
      have P5 := HP.out.below HX.out.2.1
      have hgg : gb ≠ g := by have := blk_lt HP.out.x; have := HX.out.2.2; omega
      have p1 := P5.c1
      have f1 : w2.frozen? ⟨g, 1, none⟩ = false := blk_frozen P5.x 1
      have P6 : PD w g (some ad) n cp bh ((i + 1 : Nat) : Int) (d : Int) fa 0 (w2.setCell ⟨g, 1, none⟩ (.int .i64 ((i : Int) + 1))) := P5.set1 _
      have G6 := (KG.of_below (g := g) HX.out.2.1).set 1 (.int .i64 ((i : Int) + 1))
      have K6 : KG g w2 (w2.setCell ⟨g, 1, none⟩ (.int .i64 ((i : Int) + 1))) := (KG.refl g w2).set 1 _
      have X6 : DBox (w2.setCell ⟨g, 1, none⟩ (.int .i64 ((i : Int) + 1))) gb x := (K6.k gb (blk_lt HX.out.1) hgg).trans HX.out.1
      have HQ := Lib.hid (And.intro P6 (And.intro G6 (And.intro X6 hgg)))
      clear P5 P6 G6 K6 X6 HX hgg
      go_upto_region 5 with (first
        | (go_at_call 53; refine (HC.out _ HQ.out.1).mono ?_; rintro E w7 hA; obtain ⟨p2, rfl, hx7, hz7⟩ := HZ.out gb _ _ _ HQ.out.2.2.2 HQ.out.2.1 HQ.out.2.2.1 hA; have HX7 := Lib.hid hx7; have HZ7 := Lib.hid hz7; clear hA hx7 hz7))
      clear p1 f1
      obtain ⟨y0, y1, y2, y3, y4, y5, y6⟩ := db_cells HX7.out
      go_wp2
      go_ret
      exact HZ7.out _ (blk_new w7 _) ((Below.refl _ w7).alloc (Nat.le_refl _) _)
end Go.Proofs.YtbmnifnahbehbaaGreatDoor

/- The document's Parser.operand, and signed whole, if they and level do with less fuel as pD says. -/
set_option linter.unusedVariables false
set_option linter.unusedSimpArgs false
namespace Go.Proofs.YtbmnifnahbehbaaGreatDoor
open Go.RowKit Go.Lib Go.Proofs.YtbmnifnahbehbaaGreatDoorW.PrintWords Go.Proofs.YtbmnifnahbehbaaGreatDoorW.PrintMore Go.Proofs.YtbmnifnahbehbaaGreatDoorW.PrintLast
open AvP
theorem ansD_shape {w W : World} {g n cp d : Nat} {A : Option Addr} {bh : Int} {r : Res} {E : Ending} {w' : World} (h : AnsD w W g n cp d A bh r E w') : ∃ p, E = .returned (.pointer p) ∧ AnsD w W g n cp d A bh r (.returned (.pointer p)) w' := by
  match r, h with
  | .ok (e, j), ⟨p, fa, e1, h1⟩ => exact ⟨p, e1, p, fa, rfl, h1⟩
  | .error (a, y), ⟨p, j, d', e1, h1⟩ => exact ⟨p, e1, p, j, d', rfl, h1⟩
theorem closes_eq (l : List DTk) (j : Nat) : closes (l.map ab) j = isAt l j ⟨#[41]⟩ := by
  unfold closes isAt
  rw [List.getElem?_map]
  cases l[j]? <;> rfl
set_option maxHeartbeats 4000000 in
set_option maxRecDepth 100000 in
/-- Behind the last token. -/
theorem opd_end {w W : World} {g n cp i : Nat} {A : Option Addr} {d fa bh : Int} {l : List DTk} (hl : Kd.C PLx.k58 w A n l) (hn : n ≤ 1000000000) 
    (h : PD w g A n cp bh (i : Int) d fa 0 W) (hi : i ≤ n) (hin : ¬ i < n) :
    Calls Tryz.prog 69 #[.pointer (some ⟨g, 0, none⟩)] W fun E w' => E = .returned (.pointer none) ∧ PD w g A n cp bh (i : Int) d (hereD l bh i) 83 w' ∧ KG g W w' := by
  have c0 := h.c0
  have c1 := h.c1
  have q1 : decide ((i : Int) ≥ (n : Int)) = true := by simp; omega
  have q6 : (n ≤ i) = True := eq_true (by omega)
  have HP := Lib.hid h
  have HH := Lib.hid (And.intro hl (And.intro hn hi))
  clear h hl hn hi hin
  go_enter Tryz.func69, Tryz.ntmps69
  go_wp2
  go_quiet (fail)
  have hB := pw_below_drewN (Below.refl W.heap.size W) nq
  have HB := Lib.hid hB
  clear hB c0 c1
  go_wp2_with (first
    | (go_at_call 29; refine (bad_c (HP.out.below HB.out) HH.out.1 HH.out.2.1 (by have := HH.out; omega) 83).mono ?_; rintro E wf ⟨rfl, hp, hk⟩; have HF := Lib.hid (And.intro hp hk); clear hp hk))
  go_ret
  exact ⟨rfl, HF.out.1, (KG.of_below HB.out).trans HF.out.2⟩
set_option maxHeartbeats 4000000 in
set_option maxRecDepth 100000 in
theorem opd_in {w W : World} {g n cp i d f : Nat} {A : Option Addr} {fa : Int} {l : List DTk} {r : Res} {x : DTk} (hl : Kd.C PLx.k58 w A n l) (hn : n ≤ 1000000000) (hD : DoesD w g n cp A l f)
    (h : PD w g A n cp (behind l) (i : Int) (d : Int) fa 0 W) (hd : d ≤ 30) (hi : i ≤ n) (ht : l[i]? = some x) (hs : sign (ab x) = false) (hr : pD (l.map ab) (f + 1) (.op i d) = some r) :
    Calls Tryz.prog 69 #[.pointer (some ⟨g, 0, none⟩)] W (AnsD w W g n cp d A (behind l) r) := by
  obtain ⟨bh, hbh⟩ : ∃ q, behind l = q := ⟨_, rfl⟩
  have hil : i < n := by rw [← hl.1]; exact (List.getElem?_eq_some_iff.1 ht).1
  obtain ⟨ad, rfl, _⟩ := dtok_at (Kd.C_below hl h.b) ht
  have hrd : ∀ W', Below W.heap.size W W' → RdD g n cp i ad x W' := fun W' hb => by obtain ⟨ad', e1, h1⟩ := rdD_of h hl ht hb; cases e1; exact h1
  have HG := Lib.hid hrd
  have his : ∀ (m : ByteArray) (W' : World), Below W.heap.size W W' → Calls Tryz.prog 54 #[.pointer (some ⟨g, 0, none⟩), .string m] W' fun e w' => e = .returned (.bool (isM (ab x) m)) ∧ Below W'.heap.size W' w' := fun m W' hb => by
    rw [← isAt_some ht m]
    exact dis_c (h.below hb) hl hn (by omega) m
  have HI := Lib.hid his
  have hhd : hereD l bh i = x.f1 := by unfold hereD; rw [ht]
  rw [pD, List.getElem?_map, ht] at hr
  dsimp only [Option.map_some] at hr
  rw [if_neg (by rw [hs]; decide)] at hr
  have hbad : ∀ (y : Int) (W' : World), Below W.heap.size W W' → Calls Tryz.prog 29 #[.pointer (some ⟨g, 0, none⟩), .int .i64 y] W' fun e w' => e = .returned (.tuple #[]) ∧ PD w g (some ad) n cp bh (i : Int) (d : Int) x.f1 y w' ∧ KG g W w' := fun y W' hb => by
    rw [← hhd]
    exact (bad_c ((hbh ▸ h).below hb) hl hn (by omega) y).mono fun e w' ⟨h1, h2, h3⟩ => ⟨h1, h2, (KG.of_below hb).trans h3⟩
  have HBD := Lib.hid hbad
  rw [hbh] at h ⊢
  have HP := Lib.hid h
  have HR := Lib.hid hr
  have HH := Lib.hid (And.intro hl (And.intro hn (And.intro hD (And.intro hd (And.intro hil hbh)))))
  have q1 : decide ((i : Int) ≥ (n : Int)) = false := by simp; omega
  have q2 : (n ≤ i) = False := eq_false (by omega)
  have q3 : (0 : Int) ≤ (i : Int) := by omega
  have q4 : (i : Int) < (n : Int) := by omega
  have e1 : IntKind.i64.wrap ((i : Int) + 1) = (i : Int) + 1 := by rw [IntKind.wrap_i64]; omega
  have e0 : IntKind.i64.wrap ((d : Int) + 1) = (d : Int) + 1 := by rw [IntKind.wrap_i64]; omega
  have c0 := h.c0
  have c1 := h.c1
  have hlx : l[i]? = some x := ht
  have HX0 := Lib.hid hlx
  clear hr h hl hn hD hd hi ht hs hil hrd his hbh hhd hbad hlx
  go_enter Tryz.func69, Tryz.ntmps69
  go_wp2
  go_quiet (fail)
  have hB := pw_below_drewN (Below.refl W.heap.size W) nq
  obtain ⟨wi, hwi⟩ : ∃ q, W.drewN nq = q := ⟨_, rfl⟩
  rw [hwi] at hB ⊢
  have HB := Lib.hid hB
  clear hB hwi c0 c1
  go_wp2
  have hO := blk_new wi (Obj.cells #[.int .i64 0, .int .i64 0, .int .i64 0, .string ⟨#[]⟩, .string ⟨#[]⟩, .int .u64 0, .bool false] 58)
  have hB1 := below_drew HB.out
  have hB2 := HB.out.alloc HB.out.size (Obj.cells #[.int .i64 0, .int .i64 0, .int .i64 0, .string ⟨#[]⟩, .string ⟨#[]⟩, .int .u64 0, .bool false] 58)
  have hB3 := below_drew hB2
  obtain ⟨a0, a1, a2, a3, a4, a5, a6, a7, a8⟩ := HG.out _ HB.out
  obtain ⟨b0, b1, b2, b3, b4, b5, b6, b7, b8⟩ := HG.out _ hB1
  obtain ⟨d0, d1, d2, d3, d4, d5, d6, d7, d8⟩ := HG.out _ hB2
  obtain ⟨e0, e1, e2, e3, e4, e5, e6, e7, e8⟩ := HG.out _ hB3
  have z0 : (wi.alloc (Obj.cells #[.int .i64 0, .int .i64 0, .int .i64 0, .string ⟨#[]⟩, .string ⟨#[]⟩, .int .u64 0, .bool false] 58)).cell? ⟨wi.heap.size, 0, none⟩ = some (.int .i64 0) := blk_cell hO 0
  have z1 : (wi.alloc (Obj.cells #[.int .i64 0, .int .i64 0, .int .i64 0, .string ⟨#[]⟩, .string ⟨#[]⟩, .int .u64 0, .bool false] 58)).cell? ⟨wi.heap.size, 1, none⟩ = some (.int .i64 0) := blk_cell hO 1
  have z2 : (wi.alloc (Obj.cells #[.int .i64 0, .int .i64 0, .int .i64 0, .string ⟨#[]⟩, .string ⟨#[]⟩, .int .u64 0, .bool false] 58)).cell? ⟨wi.heap.size, 2, none⟩ = some (.int .i64 0) := blk_cell hO 2
  have z3 : (wi.alloc (Obj.cells #[.int .i64 0, .int .i64 0, .int .i64 0, .string ⟨#[]⟩, .string ⟨#[]⟩, .int .u64 0, .bool false] 58)).cell? ⟨wi.heap.size, 3, none⟩ = some (.string ⟨#[]⟩) := blk_cell hO 3
  have z4 : (wi.alloc (Obj.cells #[.int .i64 0, .int .i64 0, .int .i64 0, .string ⟨#[]⟩, .string ⟨#[]⟩, .int .u64 0, .bool false] 58)).cell? ⟨wi.heap.size, 4, none⟩ = some (.string ⟨#[]⟩) := blk_cell hO 4
  have z5 : (wi.alloc (Obj.cells #[.int .i64 0, .int .i64 0, .int .i64 0, .string ⟨#[]⟩, .string ⟨#[]⟩, .int .u64 0, .bool false] 58)).cell? ⟨wi.heap.size, 5, none⟩ = some (.int .u64 0) := blk_cell hO 5
  have z6 : (wi.alloc (Obj.cells #[.int .i64 0, .int .i64 0, .int .i64 0, .string ⟨#[]⟩, .string ⟨#[]⟩, .int .u64 0, .bool false] 58)).cell? ⟨wi.heap.size, 6, none⟩ = some (.bool false) := blk_cell hO 6
  have fr : ∀ j, (wi.alloc (Obj.cells #[.int .i64 0, .int .i64 0, .int .i64 0, .string ⟨#[]⟩, .string ⟨#[]⟩, .int .u64 0, .bool false] 58)).frozen? ⟨wi.heap.size, j, none⟩ = false := fun j => blk_frozen hO j
  go_region
  obtain ⟨w2, hw2⟩ : ∃ q, (wi.alloc (Obj.cells #[.int .i64 x.f0, .int .i64 x.f1, .int .i64 x.f2, .string x.f3, .string x.f4, .int .u64 x.f5, .bool x.f6] 58)).drew = q := ⟨_, rfl⟩
  have hX : DBox w2 wi.heap.size x := by rw [← hw2]; exact blk_drew (blk_new wi _)
  have hB4 := below_drew (HB.out.alloc HB.out.size (Obj.cells #[.int .i64 x.f0, .int .i64 x.f1, .int .i64 x.f2, .string x.f3, .string x.f4, .int .u64 x.f5, .bool x.f6] 58))
  have hge := HB.out.size
  rw [hw2] at hB4
  rw [hw2]
  obtain ⟨gb, hgb⟩ : ∃ q, wi.heap.size = q := ⟨_, rfl⟩
  rw [hgb] at hX hge ⊢
  have HX := Lib.hid (And.intro hX (And.intro hB4 hge))
  clear hw2 hgb hX hB4 hge z0 z1 z2 z3 z4 z5 z6 fr hO hB1 hB2 hB3 a0 a1 a2 a3 a4 a5 a6 a7 a8 b0 b1 b2 b3 b4 b5 b6 b7 b8 d0 d1 d2 d3 d4 d5 d6 d7 d8 e0 e1 e2 e3 e4 e5 e6 e7 e8
  have HB := Lib.hid HX.out.2.1
  have hgg : gb ≠ g := by have := blk_lt HP.out.x; have := HX.out.2.2; omega
  have HT := Lib.hid HX.out.1
  have HGG := Lib.hid hgg
  clear hgg HX
  obtain ⟨y0, y1, y2, y3, y4, y5, y6⟩ := db_cells HT.out
  have hr := HR.out
  by_cases ho : isM (ab x) ⟨#[40]⟩ = true
  · rw [if_pos ho] at hr
    obtain ⟨hl, hn, hD, hd, hil, hbh⟩ := HH.out
    by_cases hd30 : 30 ≤ d
    · rw [if_pos hd30] at hr
      obtain rfl : d = 30 := by omega
      have HZ := Lib.hid (Option.some.inj hr).symm
      have p3 : ∀ w3, Below w2.heap.size w2 w3 → w3.cell? ⟨g, 3, none⟩ = some (.int .i64 30) := fun w3 hb => (HP.out.below (HB.out.trans (hb.mono HB.out.size))).c3
      have H3 := Lib.hid p3
      clear hr hl hn hD hd hil hbh hd30 HR p3 q1 q2 q3 q4 e1 e0
      go_wp2_with (first
        | (go_at_call 54; refine (HI.out _ _ HB.out).mono ?_; rintro E w3 ⟨rfl, hd⟩; have d3 := H3.out _ hd; have hb := HB.out.trans (hd.mono HB.out.size); clear hd; have HB3 := Lib.hid hb; clear hb)
        | (go_at_call 29; refine (HBD.out 6 _ HB3.out).mono ?_; rintro E wf ⟨rfl, hp, hk⟩; have HF := Lib.hid (And.intro hp hk); clear hp hk))
      go_ret
      obtain rfl := HZ.out
      exact ⟨none, _, _, rfl, by decide, HF.out.1, HF.out.2⟩
    · rw [if_neg hd30] at hr
      have hd9 : ((d : Int) == 30) = false := by rw [beq_eq_false_iff_ne]; omega
      go_upto_region 6 with (first
        | (go_at_call 54; refine (HI.out _ _ HB.out).mono ?_; rintro E w3 ⟨rfl, hd⟩; have hb := HB.out.trans (hd.mono HB.out.size); have hT := blk_below HT.out hd; clear hd HB HT; have HB := Lib.hid hb; have HT := Lib.hid hT; clear hb hT))
      have P5 := HP.out.below HB.out
      have p3 := P5.c3
      have f3 : w3.frozen? ⟨g, 3, none⟩ = false := blk_frozen P5.x 3
      have P6 : PD w g (some ad) n cp bh (i : Int) ((d + 1 : Nat) : Int) fa 0 (w3.setCell ⟨g, 3, none⟩ (.int .i64 ((d : Int) + 1))) := P5.set3 _
      have G6 := (KG.of_below (g := g) HB.out).set 3 (.int .i64 ((d : Int) + 1))
      have z1 : (w3.setCell ⟨g, 3, none⟩ (.int .i64 ((d : Int) + 1))).cell? ⟨g, 1, none⟩ = some (.int .i64 (i : Int)) := P6.c1
      have g1 : (w3.setCell ⟨g, 3, none⟩ (.int .i64 ((d : Int) + 1))).frozen? ⟨g, 1, none⟩ = false := blk_frozen P6.x 1
      have P7 : PD w g (some ad) n cp bh ((i + 1 : Nat) : Int) ((d + 1 : Nat) : Int) fa 0 ((w3.setCell ⟨g, 3, none⟩ (.int .i64 ((d : Int) + 1))).setCell ⟨g, 1, none⟩ (.int .i64 ((i : Int) + 1))) := P6.set1 _
      have G7 := G6.set 1 (.int .i64 ((i : Int) + 1))
      cases hq : pD (l.map ab) f (.lv 0 (i + 1) (d + 1)) with
      | none => rw [hq] at hr; cases hr
      | some r2 =>
        rw [hq] at hr
        have hc : Calls Tryz.prog 28 #[.pointer (some ⟨g, 0, none⟩), .int .i64 0] ((w3.setCell ⟨g, 3, none⟩ (.int .i64 ((d : Int) + 1))).setCell ⟨g, 1, none⟩ (.int .i64 ((i : Int) + 1))) (AnsD w ((w3.setCell ⟨g, 3, none⟩ (.int .i64 ((d : Int) + 1))).setCell ⟨g, 1, none⟩ (.int .i64 ((i : Int) + 1))) g n cp (d + 1) (some ad) bh r2) := hbh ▸ ((hD (i + 1) (d + 1) fa _ r2 (hbh.symm ▸ P7) (by omega) (by omega)).2 0 (by omega) hq)
        have HC := Lib.hid hc
        have HZ := Lib.hid (And.intro hr G7)
        have hd30' : d < 30 := by omega
        have HD := Lib.hid hd30'
        clear hc hr G7 P7 P6 G6 P5 hq hd hd30 hd30' HR hl hn hD hil hbh y0 y1 y2 y3 y4 y5 y6
        go_upto_region 12 with (first
          | (go_at_call 28; refine HC.out.mono ?_; rintro E w7 hA; obtain ⟨p2, rfl, hA⟩ := ansD_shape hA; have HA := Lib.hid hA; clear hA))
        clear z1 g1 p3 f3 q1 q2 q3 q4 hd9
        match r2, HA, HZ with
        | .error (a, y), HA, HZ =>
          obtain ⟨p', I, D, ee, hy, P8, K8⟩ := HA.out
          cases ee
          have c5 := P8.c5
          have c1 := P8.c1
          have c3 := P8.c3
          have x1 : w7.frozen? ⟨g, 1, none⟩ = false := blk_frozen P8.x 1
          have P9 := P8.set1 (IntKind.i64.wrap (I + 1))
          have c3 : (w7.setCell ⟨g, 1, none⟩ (.int .i64 (IntKind.i64.wrap (I + 1)))).cell? ⟨g, 3, none⟩ = some (.int .i64 D) := P9.c3
          have x3 : (w7.setCell ⟨g, 1, none⟩ (.int .i64 (IntKind.i64.wrap (I + 1)))).frozen? ⟨g, 3, none⟩ = false := blk_frozen P9.x 3
          have PA := P9.set3 (IntKind.i64.wrap (D - 1))
          have KA := (K8.set 1 (.int .i64 (IntKind.i64.wrap (I + 1)))).set 3 (.int .i64 (IntKind.i64.wrap (D - 1)))
          have y9 : (y == 0) = false := by rw [beq_eq_false_iff_ne]; exact hy
          have HY := Lib.hid (And.intro hy (And.intro PA (HZ.out.2.trans KA)))
          have HE := Lib.hid (Option.some.inj HZ.out.1).symm
          obtain ⟨X1, hX1⟩ : ∃ X1, IntKind.i64.wrap (I + 1) = X1 := ⟨_, rfl⟩
          obtain ⟨X3, hX3⟩ : ∃ X3, IntKind.i64.wrap (D - 1) = X3 := ⟨_, rfl⟩
          rw [hX1] at c3 x3
          simp only [hX1, hX3] at HY
          clear P8 K8 P9 PA KA hy HA HZ HC
          go_wp2
          go_ret
          obtain rfl := HE.out
          exact ⟨_, _, _, rfl, HY.out⟩
        | .ok (e, j), HA, HZ =>
          obtain ⟨p', fa2, ee, T8, P8, K8, hj⟩ := HA.out
          cases ee
          have hr := HZ.out.1
          have G8 := HZ.out.2.trans K8
          dsimp only [bindR] at hr
          rw [closes_eq] at hr
          have c5 := P8.c5
          obtain ⟨hl, hn, _⟩ := HH.out
          have his := fun m => dis_c P8 hl hn (by omega : j ≤ 1000000000) m
          have HIS := Lib.hid his
          have hbd := fun W' (hb : Below w7.heap.size w7 W') => bad_c (P8.below hb) hl hn (by omega : j ≤ 1000000000) 83
          have HBd := Lib.hid hbd
          have e5 : IntKind.i64.wrap ((j : Int) + 1) = ((j + 1 : Nat) : Int) := by rw [IntKind.wrap_i64]; omega
          have e6 : IntKind.i64.wrap (((d + 1 : Nat) : Int) - 1) = (d : Int) := by rw [IntKind.wrap_i64]; have := HD.out; omega
          have hhe : here (l.map ab) j = hereD l bh j := by rw [here_eq, HH.out.2.2.2.2.2]
          obtain ⟨D1, hD1⟩ : ∃ q : Int, ((d + 1 : Nat) : Int) = q := ⟨_, rfl⟩
          obtain ⟨J1, hJ1⟩ : ∃ q : Int, ((j + 1 : Nat) : Int) = q := ⟨_, rfl⟩
          rw [hD1] at e6
          rw [hJ1] at e5
          have HY := Lib.hid (And.intro T8 (And.intro P8 (And.intro G8 (And.intro hj (And.intro hD1 hJ1)))))
          clear T8 P8 G8 K8 hj hl hn his hbd hD1 hJ1 HA HZ HC
          cases hbo : isAt l j ⟨#[41]⟩ with
          | true =>
            rw [hbo, if_pos rfl] at hr
            have hlen : ∀ (x2 : DTk), l[j]? = some x2 → j < n := fun x2 h => by rw [← HH.out.1.1]; exact (List.getElem?_eq_some_iff.1 h).1
            have hjn : j + 1 ≤ n := by
              unfold isAt at hbo
              cases h2 : l[j]? with
              | none => rw [h2] at hbo; cases hbo
              | some x2 => exact hlen x2 h2
            have HJ := Lib.hid hjn
            have HE := Lib.hid (Option.some.inj hr).symm
            have HO := Lib.hid hbo
            clear hr hlen hjn hbo hhe
            go_upto_region 14 with (first
              | (go_at_call 54; refine (HIS.out _).mono ?_; rintro E w8 ⟨rfl, hd⟩; rw [HO.out]; have HB8 := Lib.hid hd; clear hd))
            have P9 := HY.out.2.1.below HB8.out
            rw [HY.out.2.2.2.2.1] at P9
            have c1 := P9.c1
            have x1 : w8.frozen? ⟨g, 1, none⟩ = false := blk_frozen P9.x 1
            have PA := P9.set1 J1
            have c3 : (w8.setCell ⟨g, 1, none⟩ (.int .i64 J1)).cell? ⟨g, 3, none⟩ = some (.int .i64 D1) := PA.c3
            have x3 : (w8.setCell ⟨g, 1, none⟩ (.int .i64 J1)).frozen? ⟨g, 3, none⟩ = false := blk_frozen PA.x 3
            have PB := PA.set3 (d : Int)
            have K9 : KG g w7 ((w8.setCell ⟨g, 1, none⟩ (.int .i64 J1)).setCell ⟨g, 3, none⟩ (.int .i64 (d : Int))) := ((KG.of_below HB8.out).set 1 _).set 3 _
            have HW := Lib.hid (And.intro (HY.out.1.kg K9) (And.intro PB (HY.out.2.2.1.trans K9)))
            clear P9 PA PB K9 c5
            go_wp2
            go_ret
            obtain ⟨T9, P9, G9⟩ := HW.out
            obtain rfl := HE.out
            exact ⟨_, fa2, rfl, T9, by rw [HY.out.2.2.2.2.2]; exact P9, G9, HJ.out⟩
          | false =>
            rw [hbo, if_neg (by decide)] at hr
            have HE := Lib.hid (Option.some.inj hr).symm
            have HO := Lib.hid hbo
            have HHE := Lib.hid hhe
            clear hr hbo hhe
            go_upto_region 14 with (first
              | (go_at_call 54; refine (HIS.out _).mono ?_; rintro E w8 ⟨rfl, hd⟩; rw [HO.out]; have HB8 := Lib.hid hd; clear hd)
              | (go_at_call 29; refine (HBd.out _ HB8.out).mono ?_; rintro E wf ⟨rfl, hp, hk⟩; have HF := Lib.hid (And.intro hp hk); clear hp hk))
            have P9 := HF.out.1
            rw [HY.out.2.2.2.2.1] at P9
            have c1 := P9.c1
            have x1 : wf.frozen? ⟨g, 1, none⟩ = false := blk_frozen P9.x 1
            have PA := P9.set1 J1
            have c3 : (wf.setCell ⟨g, 1, none⟩ (.int .i64 J1)).cell? ⟨g, 3, none⟩ = some (.int .i64 D1) := PA.c3
            have x3 : (wf.setCell ⟨g, 1, none⟩ (.int .i64 J1)).frozen? ⟨g, 3, none⟩ = false := blk_frozen PA.x 3
            have PB := PA.set3 (d : Int)
            have K9 : KG g w7 ((wf.setCell ⟨g, 1, none⟩ (.int .i64 J1)).setCell ⟨g, 3, none⟩ (.int .i64 (d : Int))) := (((KG.of_below HB8.out).trans HF.out.2).set 1 _).set 3 _
            have HW := Lib.hid (And.intro PB (HY.out.2.2.1.trans K9))
            clear P9 PA PB K9 c5
            go_wp2
            go_ret
            obtain ⟨P9, G9⟩ := HW.out
            obtain rfl := HE.out
            rw [HHE.out]
            exact ⟨_, _, _, rfl, by decide, P9, G9⟩
  · rw [if_neg ho] at hr
    have ho' : isM (ab x) ⟨#[40]⟩ = false := by cases h : isM (ab x) ⟨#[40]⟩ <;> simp_all
    have HO := Lib.hid ho'
    clear ho ho' HR
    by_cases hk : (ab x).k = 6 ∨ (ab x).k = 5
    · rw [if_pos hk] at hr
      have HE := Lib.hid (Option.some.inj hr).symm
      have hc : (x.f0 == 6) = true ∨ (x.f0 == 6) = false ∧ (x.f0 == 5) = true := by
        rcases hk with h | h
        · exact .inl (by simp [(kmap_6 _).1 h])
        · have := (kmap_5 _).1 h
          exact .inr ⟨by simp [this], by simp [this]⟩
      clear hr hk q1 q2 q3 q4 e1 e0
      rcases hc with h6 | ⟨h6, h5⟩
      all_goals
        go_wp2_with (first
          | (go_at_call 54; refine (HI.out _ _ HB.out).mono ?_; rintro E w3 ⟨rfl, hd⟩; rw [HO.out]; have hb := HB.out.trans (hd.mono HB.out.size); have hT := blk_below HT.out hd; clear hd y0 y1 y2 y3 y4 y5 y6; obtain ⟨y0, y1, y2, y3, y4, y5, y6⟩ := db_cells hT; have HB3 := Lib.hid hb; clear hb hT)
          | (go_at_call 29; refine (HBD.out 83 _ HB3.out).mono ?_; rintro E wf ⟨rfl, hp, hk⟩; have HF := Lib.hid (And.intro hp hk); clear hp hk))
        go_ret
        obtain rfl := HE.out
        exact ⟨none, _, _, rfl, by decide, HF.out.1, HF.out.2⟩
    · rw [if_neg hk] at hr
      have HE := Lib.hid (Option.some.inj hr).symm
      have h6 : (x.f0 == 6) = false := by rw [beq_eq_false_iff_ne]; exact fun h => hk (.inl ((kmap_6 _).2 h))
      have h5 : (x.f0 == 5) = false := by rw [beq_eq_false_iff_ne]; exact fun h => hk (.inr ((kmap_5 _).2 h))
      clear hr hk q1 q2 q3 q4 e0
      go_upto_region 20 with (first
        | (go_at_call 54; refine (HI.out _ _ HB.out).mono ?_; rintro E w3 ⟨rfl, hd⟩; rw [HO.out]; have hb := HB.out.trans (hd.mono HB.out.size); have hT := blk_below HT.out hd; clear hd y0 y1 y2 y3 y4 y5 y6; obtain ⟨y0, y1, y2, y3, y4, y5, y6⟩ := db_cells hT; have HB3 := Lib.hid hb; have HT3 := Lib.hid hT; clear hb hT))
      have P5 := HP.out.below HB3.out
      have p1 := P5.c1
      have f1 : w3.frozen? ⟨g, 1, none⟩ = false := blk_frozen P5.x 1
      have P6 : PD w g (some ad) n cp bh ((i + 1 : Nat) : Int) (d : Int) fa 0 (w3.setCell ⟨g, 1, none⟩ (.int .i64 ((i : Int) + 1))) := P5.set1 _
      have G6 := (KG.of_below (g := g) HB3.out).set 1 (.int .i64 ((i : Int) + 1))
      have K6 : KG g w3 (w3.setCell ⟨g, 1, none⟩ (.int .i64 ((i : Int) + 1))) := (KG.refl g w3).set 1 _
      have X6 : DBox (w3.setCell ⟨g, 1, none⟩ (.int .i64 ((i : Int) + 1))) gb x := (K6.k gb (blk_lt HT3.out) HGG.out).trans HT3.out
      clear y0 y1 y2 y3 y4 y5 y6
      obtain ⟨y0, y1, y2, y3, y4, y5, y6⟩ := db_cells X6
      obtain ⟨W6, hW6⟩ : ∃ q, (w3.setCell ⟨g, 1, none⟩ (.int .i64 ((i : Int) + 1))) = q := ⟨_, rfl⟩
      rw [hW6] at P6 G6
      have HQ := Lib.hid (And.intro P6 (And.intro G6 hW6))
      clear P5 P6 G6 K6 X6 hW6
      go_wp2
      go_ret
      obtain ⟨P6, G6, rfl⟩ := HQ.out
      obtain rfl := HE.out
      have hb := (Below.refl (w3.setCell ⟨g, 1, none⟩ (.int .i64 ((i : Int) + 1))).heap.size (w3.setCell ⟨g, 1, none⟩ (.int .i64 ((i : Int) + 1)))).alloc (Nat.le_refl _) (.cells (dnode x (.pointer none) (.pointer none)) 98)
      have hlt := blk_lt P6.x
      have hsz : (w3.setCell ⟨g, 1, none⟩ (.int .i64 ((i : Int) + 1))).heap.size = w3.heap.size := by simp
      have hnw := blk_new (w3.setCell ⟨g, 1, none⟩ (.int .i64 ((i : Int) + 1))) (.cells (dnode x (.pointer none) (.pointer none)) 98)
      rw [hsz] at hlt hnw
      exact ⟨_, fa, rfl, ⟨x, w3.heap.size, rfl, rfl, Nat.ne_of_gt hlt, hnw⟩, P6.below hb, G6.trans (KG.of_below hb), HH.out.2.2.2.2.1⟩
end Go.Proofs.YtbmnifnahbehbaaGreatDoor

/- The document's signed whole, levels, Parser.level. -/
set_option linter.unusedVariables false
set_option linter.unusedSimpArgs false
namespace Go.Proofs.YtbmnifnahbehbaaGreatDoor
open Go.RowKit Go.Lib Go.Proofs.YtbmnifnahbehbaaGreatDoorW.PrintWords Go.Proofs.YtbmnifnahbehbaaGreatDoorW.PrintMore Go.Proofs.YtbmnifnahbehbaaGreatDoorW.PrintLast
open AvP
set_option maxHeartbeats 4000000 in
set_option maxRecDepth 100000 in
/-- Where no sign stands, signed is operand. -/
theorem plain_c {W : World} {g : Nat} {Post : World → Ending → World → Prop} (hi : ∀ (m : ByteArray) (W' : World), Below W.heap.size W W' → (m = ⟨#[43]⟩ ∨ m = ⟨#[45]⟩ ∨ m = ⟨#[126]⟩) → Calls Tryz.prog 54 #[.pointer (some ⟨g, 0, none⟩), .string m] W' fun e w' => e = .returned (.bool false) ∧ Below W'.heap.size W' w')
    (ho : ∀ W', Below W.heap.size W W' → Calls Tryz.prog 69 #[.pointer (some ⟨g, 0, none⟩)] W' (Post W')) (hp : ∀ W' E w', Below W.heap.size W W' → Post W' E w' → ∃ p, E = .returned (.pointer p) ∧ Post W (.returned (.pointer p)) w') :
    Calls Tryz.prog 53 #[.pointer (some ⟨g, 0, none⟩)] W (Post W) := by
  have HI := Lib.hid hi
  have HO := Lib.hid ho
  have HP := Lib.hid hp
  have HB := Lib.hid (Below.refl W.heap.size W)
  clear hi ho hp
  go_enter Tryz.func53, Tryz.ntmps53
  go_wp2_with (first
    | (go_at_call 54; refine (HI.out _ _ HB.out (by first | exact .inl rfl | exact .inr (.inl rfl) | exact .inr (.inr rfl))).mono ?_; rintro E wi ⟨rfl, hd⟩; have hb := HB.out.trans (hd.mono HB.out.size); clear HB hd; have HB := Lib.hid hb; clear hb)
    | (go_at_call 69; refine (HO.out _ HB.out).mono ?_; rintro E w7 hA; obtain ⟨p2, rfl, hA2⟩ := HP.out _ _ _ HB.out hA; have HA := Lib.hid hA2; clear hA hA2))
  exact HA.out
theorem AnsD.of_below {w W W' : World} {g n cp d : Nat} {A : Option Addr} {bh : Int} {r : Res} {E : Ending} {w' : World} (hb : Below W.heap.size W W') (h : AnsD w W' g n cp d A bh r E w') : AnsD w W g n cp d A bh r E w' := by
  match r, h with
  | .ok (e, j), ⟨p, fa, e1, h1, h2, h3, h4⟩ => exact ⟨p, fa, e1, h1, h2, (KG.of_below hb).trans h3, h4⟩
  | .error (a, y), ⟨p, j, d', e1, h0, h1, h2⟩ => exact ⟨p, j, d', e1, h0, h1, (KG.of_below hb).trans h2⟩
theorem sg_c {w W : World} {g n cp i d f : Nat} {A : Option Addr} {fa : Int} {l : List DTk} {r : Res} (hl : Kd.C PLx.k58 w A n l) (hn : n ≤ 1000000000) (hD : DoesD w g n cp A l f)
    (h : PD w g A n cp (behind l) (i : Int) (d : Int) fa 0 W) (hd : d ≤ 30) (hi : i ≤ n) (hr : pD (l.map ab) (f + 1) (.op i d) = some r) :
    Calls Tryz.prog 53 #[.pointer (some ⟨g, 0, none⟩)] W (AnsD w W g n cp d A (behind l) r) := by
  by_cases hin : i < n
  · obtain ⟨x, hx⟩ : ∃ x, l[i]? = some x := ⟨_, List.getElem?_eq_getElem (by rw [hl.1]; exact hin)⟩
    cases hs : sign (ab x) with
    | true => exact sgn_c hl hn hD h hd hi hx hs hr
    | false =>
      have h3 : isM (ab x) ⟨#[43]⟩ = false ∧ isM (ab x) ⟨#[45]⟩ = false ∧ isM (ab x) ⟨#[126]⟩ = false := by
        unfold sign at hs
        cases hh : isM (ab x) ⟨#[45]⟩ <;> cases hh2 : isM (ab x) ⟨#[43]⟩ <;> cases hh3 : isM (ab x) ⟨#[126]⟩ <;> simp_all
      refine plain_c (Post := fun W' => AnsD w W' g n cp d A (behind l) r) (fun m W' hb hm => ?_) (fun W' hb => opd_in hl hn hD (h.below hb) hd hi hx hs hr) (fun W' E w' hb hA => ?_)
      · have e : isAt l i m = false := by rw [isAt_some hx]; rcases hm with rfl | rfl | rfl <;> simp [h3]
        rw [← e]
        exact dis_c (h.below hb) hl hn (by omega) m
      · obtain ⟨p, e1, h1⟩ := ansD_shape hA
        exact ⟨p, e1, h1.of_below hb⟩
  · have hx : l[i]? = none := List.getElem?_eq_none (by rw [hl.1]; omega)
    rw [pD, List.getElem?_map, hx] at hr
    obtain rfl := (Option.some.inj hr).symm
    refine plain_c (Post := fun W' => AnsD w W' g n cp d A (behind l) (.error (here (l.map ab) i, 83))) (fun m W' hb hm => ?_) (fun W' hb => ?_) (fun W' E w' hb hA => ?_)
    · rw [← isAt_none hx m]
      exact dis_c (h.below hb) hl hn (by omega) m
    · refine (opd_end hl hn (h.below hb) hi hin).mono fun E w' ⟨h1, h2, h3⟩ => ?_
      exact ⟨none, _, _, h1, by decide, by rw [here_eq]; exact h2, h3⟩
    · obtain ⟨p, e1, h1⟩ := ansD_shape hA
      exact ⟨p, e1, h1.of_below hb⟩
/-- The marks of a level. -/
def lvlS : Nat → List ByteArray
  | 0 => [⟨#[124]⟩]
  | 1 => [⟨#[94]⟩]
  | 2 => [⟨#[38]⟩]
  | 3 => [⟨#[60, 60]⟩, ⟨#[62, 62]⟩]
  | 4 => [⟨#[43]⟩, ⟨#[45]⟩]
  | 5 => [⟨#[42]⟩, ⟨#[47]⟩, ⟨#[37]⟩]
  | _ => []
theorem lvl_str (t : Tok) (k : Nat) (hk : k < 6) : (lvlS k).any (isM t) = decide (str t = k + 1) := by
  unfold isM str
  by_cases h6 : t.k = 6
  · simp only [h6, decide_true, Bool.true_and, if_true]
    by_cases h0 : t.t = ⟨#[124]⟩
    · rw [h0]; (have : k = 0 ∨ k = 1 ∨ k = 2 ∨ k = 3 ∨ k = 4 ∨ k = 5 := by omega); rcases this with rfl | rfl | rfl | rfl | rfl | rfl <;> decide
    by_cases h1 : t.t = ⟨#[94]⟩
    · rw [h1]; (have : k = 0 ∨ k = 1 ∨ k = 2 ∨ k = 3 ∨ k = 4 ∨ k = 5 := by omega); rcases this with rfl | rfl | rfl | rfl | rfl | rfl <;> decide
    by_cases h2 : t.t = ⟨#[38]⟩
    · rw [h2]; (have : k = 0 ∨ k = 1 ∨ k = 2 ∨ k = 3 ∨ k = 4 ∨ k = 5 := by omega); rcases this with rfl | rfl | rfl | rfl | rfl | rfl <;> decide
    by_cases h3 : t.t = ⟨#[60, 60]⟩
    · rw [h3]; (have : k = 0 ∨ k = 1 ∨ k = 2 ∨ k = 3 ∨ k = 4 ∨ k = 5 := by omega); rcases this with rfl | rfl | rfl | rfl | rfl | rfl <;> decide
    by_cases h4 : t.t = ⟨#[62, 62]⟩
    · rw [h4]; (have : k = 0 ∨ k = 1 ∨ k = 2 ∨ k = 3 ∨ k = 4 ∨ k = 5 := by omega); rcases this with rfl | rfl | rfl | rfl | rfl | rfl <;> decide
    by_cases h5 : t.t = ⟨#[43]⟩
    · rw [h5]; (have : k = 0 ∨ k = 1 ∨ k = 2 ∨ k = 3 ∨ k = 4 ∨ k = 5 := by omega); rcases this with rfl | rfl | rfl | rfl | rfl | rfl <;> decide
    by_cases h7 : t.t = ⟨#[45]⟩
    · rw [h7]; (have : k = 0 ∨ k = 1 ∨ k = 2 ∨ k = 3 ∨ k = 4 ∨ k = 5 := by omega); rcases this with rfl | rfl | rfl | rfl | rfl | rfl <;> decide
    by_cases h8 : t.t = ⟨#[42]⟩
    · rw [h8]; (have : k = 0 ∨ k = 1 ∨ k = 2 ∨ k = 3 ∨ k = 4 ∨ k = 5 := by omega); rcases this with rfl | rfl | rfl | rfl | rfl | rfl <;> decide
    by_cases h9 : t.t = ⟨#[47]⟩
    · rw [h9]; (have : k = 0 ∨ k = 1 ∨ k = 2 ∨ k = 3 ∨ k = 4 ∨ k = 5 := by omega); rcases this with rfl | rfl | rfl | rfl | rfl | rfl <;> decide
    by_cases ha : t.t = ⟨#[37]⟩
    · rw [ha]; (have : k = 0 ∨ k = 1 ∨ k = 2 ∨ k = 3 ∨ k = 4 ∨ k = 5 := by omega); rcases this with rfl | rfl | rfl | rfl | rfl | rfl <;> decide
    simp only [h0, h1, h2, h3, h4, h5, h7, h8, h9, ha, or_self, if_false]
    rw [decide_eq_false (by omega)]
    (have : k = 0 ∨ k = 1 ∨ k = 2 ∨ k = 3 ∨ k = 4 ∨ k = 5 := by omega)
    rcases this with rfl | rfl | rfl | rfl | rfl | rfl <;> simp [lvlS, h0, h1, h2, h3, h4, h5, h7, h8, h9, ha]
  · simp only [h6, decide_false, Bool.false_and, if_false]
    rw [decide_eq_false (by omega)]
    simp
/-- The levels in memory. -/
def Lv (B : Nat) (W : World) : Prop := ∀ k, k < 6 → W.cell? ⟨B + 6, k, none⟩ = some (.slice (some ⟨B + k, 0, none⟩) (lvlS k).length (lvlS k).length) ∧ ∀ j s, (lvlS k)[j]? = some s → W.cell? ⟨B + k, j, none⟩ = some (.string s)
theorem at_size {w : World} {n : Nat} (h : w.heap.size = n) (o : Obj) : (w.alloc o).heap[n]? = some o ∧ (w.alloc o).heap.size = n + 1 := by
  subst h
  exact ⟨blk_new w o, by simp⟩
theorem lv_all (w : World) (B : Nat) (hB : w.heap.size = B) : Lv B (((((((w.alloc (Obj.cells #[.string ⟨#[124]⟩] 9)).alloc (Obj.cells #[.string ⟨#[94]⟩] 9)).alloc (Obj.cells #[.string ⟨#[38]⟩] 9)).alloc (Obj.cells #[.string ⟨#[60, 60]⟩, .string ⟨#[62, 62]⟩] 9)).alloc (Obj.cells #[.string ⟨#[43]⟩, .string ⟨#[45]⟩] 9)).alloc (Obj.cells #[.string ⟨#[42]⟩, .string ⟨#[47]⟩, .string ⟨#[37]⟩] 9)).alloc (Obj.cells #[.slice (some ⟨B, 0, none⟩) 1 1, .slice (some ⟨B + 1, 0, none⟩) 1 1, .slice (some ⟨B + 2, 0, none⟩) 1 1, .slice (some ⟨B + 3, 0, none⟩) 2 2, .slice (some ⟨B + 4, 0, none⟩) 2 2, .slice (some ⟨B + 5, 0, none⟩) 3 3] 134)) := by
  obtain ⟨a0, s0⟩ := at_size hB (Obj.cells #[.string ⟨#[124]⟩] 9)
  obtain ⟨a1, s1⟩ := at_size s0 (Obj.cells #[.string ⟨#[94]⟩] 9)
  replace a0 := blk_alloc a0 (Obj.cells #[.string ⟨#[94]⟩] 9)
  obtain ⟨a2, s2⟩ := at_size s1 (Obj.cells #[.string ⟨#[38]⟩] 9)
  replace a0 := blk_alloc a0 (Obj.cells #[.string ⟨#[38]⟩] 9)
  replace a1 := blk_alloc a1 (Obj.cells #[.string ⟨#[38]⟩] 9)
  obtain ⟨a3, s3⟩ := at_size s2 (Obj.cells #[.string ⟨#[60, 60]⟩, .string ⟨#[62, 62]⟩] 9)
  replace a0 := blk_alloc a0 (Obj.cells #[.string ⟨#[60, 60]⟩, .string ⟨#[62, 62]⟩] 9)
  replace a1 := blk_alloc a1 (Obj.cells #[.string ⟨#[60, 60]⟩, .string ⟨#[62, 62]⟩] 9)
  replace a2 := blk_alloc a2 (Obj.cells #[.string ⟨#[60, 60]⟩, .string ⟨#[62, 62]⟩] 9)
  obtain ⟨a4, s4⟩ := at_size s3 (Obj.cells #[.string ⟨#[43]⟩, .string ⟨#[45]⟩] 9)
  replace a0 := blk_alloc a0 (Obj.cells #[.string ⟨#[43]⟩, .string ⟨#[45]⟩] 9)
  replace a1 := blk_alloc a1 (Obj.cells #[.string ⟨#[43]⟩, .string ⟨#[45]⟩] 9)
  replace a2 := blk_alloc a2 (Obj.cells #[.string ⟨#[43]⟩, .string ⟨#[45]⟩] 9)
  replace a3 := blk_alloc a3 (Obj.cells #[.string ⟨#[43]⟩, .string ⟨#[45]⟩] 9)
  obtain ⟨a5, s5⟩ := at_size s4 (Obj.cells #[.string ⟨#[42]⟩, .string ⟨#[47]⟩, .string ⟨#[37]⟩] 9)
  replace a0 := blk_alloc a0 (Obj.cells #[.string ⟨#[42]⟩, .string ⟨#[47]⟩, .string ⟨#[37]⟩] 9)
  replace a1 := blk_alloc a1 (Obj.cells #[.string ⟨#[42]⟩, .string ⟨#[47]⟩, .string ⟨#[37]⟩] 9)
  replace a2 := blk_alloc a2 (Obj.cells #[.string ⟨#[42]⟩, .string ⟨#[47]⟩, .string ⟨#[37]⟩] 9)
  replace a3 := blk_alloc a3 (Obj.cells #[.string ⟨#[42]⟩, .string ⟨#[47]⟩, .string ⟨#[37]⟩] 9)
  replace a4 := blk_alloc a4 (Obj.cells #[.string ⟨#[42]⟩, .string ⟨#[47]⟩, .string ⟨#[37]⟩] 9)
  obtain ⟨a6, s6⟩ := at_size s5 (Obj.cells #[.slice (some ⟨B, 0, none⟩) 1 1, .slice (some ⟨B + 1, 0, none⟩) 1 1, .slice (some ⟨B + 2, 0, none⟩) 1 1, .slice (some ⟨B + 3, 0, none⟩) 2 2, .slice (some ⟨B + 4, 0, none⟩) 2 2, .slice (some ⟨B + 5, 0, none⟩) 3 3] 134)
  replace a0 := blk_alloc a0 (Obj.cells #[.slice (some ⟨B, 0, none⟩) 1 1, .slice (some ⟨B + 1, 0, none⟩) 1 1, .slice (some ⟨B + 2, 0, none⟩) 1 1, .slice (some ⟨B + 3, 0, none⟩) 2 2, .slice (some ⟨B + 4, 0, none⟩) 2 2, .slice (some ⟨B + 5, 0, none⟩) 3 3] 134)
  replace a1 := blk_alloc a1 (Obj.cells #[.slice (some ⟨B, 0, none⟩) 1 1, .slice (some ⟨B + 1, 0, none⟩) 1 1, .slice (some ⟨B + 2, 0, none⟩) 1 1, .slice (some ⟨B + 3, 0, none⟩) 2 2, .slice (some ⟨B + 4, 0, none⟩) 2 2, .slice (some ⟨B + 5, 0, none⟩) 3 3] 134)
  replace a2 := blk_alloc a2 (Obj.cells #[.slice (some ⟨B, 0, none⟩) 1 1, .slice (some ⟨B + 1, 0, none⟩) 1 1, .slice (some ⟨B + 2, 0, none⟩) 1 1, .slice (some ⟨B + 3, 0, none⟩) 2 2, .slice (some ⟨B + 4, 0, none⟩) 2 2, .slice (some ⟨B + 5, 0, none⟩) 3 3] 134)
  replace a3 := blk_alloc a3 (Obj.cells #[.slice (some ⟨B, 0, none⟩) 1 1, .slice (some ⟨B + 1, 0, none⟩) 1 1, .slice (some ⟨B + 2, 0, none⟩) 1 1, .slice (some ⟨B + 3, 0, none⟩) 2 2, .slice (some ⟨B + 4, 0, none⟩) 2 2, .slice (some ⟨B + 5, 0, none⟩) 3 3] 134)
  replace a4 := blk_alloc a4 (Obj.cells #[.slice (some ⟨B, 0, none⟩) 1 1, .slice (some ⟨B + 1, 0, none⟩) 1 1, .slice (some ⟨B + 2, 0, none⟩) 1 1, .slice (some ⟨B + 3, 0, none⟩) 2 2, .slice (some ⟨B + 4, 0, none⟩) 2 2, .slice (some ⟨B + 5, 0, none⟩) 3 3] 134)
  replace a5 := blk_alloc a5 (Obj.cells #[.slice (some ⟨B, 0, none⟩) 1 1, .slice (some ⟨B + 1, 0, none⟩) 1 1, .slice (some ⟨B + 2, 0, none⟩) 1 1, .slice (some ⟨B + 3, 0, none⟩) 2 2, .slice (some ⟨B + 4, 0, none⟩) 2 2, .slice (some ⟨B + 5, 0, none⟩) 3 3] 134)
  intro k hk
  have hc : k = 0 ∨ k = 1 ∨ k = 2 ∨ k = 3 ∨ k = 4 ∨ k = 5 := by omega
  rcases hc with rfl | rfl | rfl | rfl | rfl | rfl
  · refine ⟨blk_cell a6 0, fun j s hj => ?_⟩
    have hl : j < 1 := (List.getElem?_eq_some_iff.1 hj).1
    have hjc : j = 0 := by omega
    rcases hjc with rfl <;> (cases hj; exact blk_cell a0 _)
  · refine ⟨blk_cell a6 1, fun j s hj => ?_⟩
    have hl : j < 1 := (List.getElem?_eq_some_iff.1 hj).1
    have hjc : j = 0 := by omega
    rcases hjc with rfl <;> (cases hj; exact blk_cell a1 _)
  · refine ⟨blk_cell a6 2, fun j s hj => ?_⟩
    have hl : j < 1 := (List.getElem?_eq_some_iff.1 hj).1
    have hjc : j = 0 := by omega
    rcases hjc with rfl <;> (cases hj; exact blk_cell a2 _)
  · refine ⟨blk_cell a6 3, fun j s hj => ?_⟩
    have hl : j < 2 := (List.getElem?_eq_some_iff.1 hj).1
    have hjc : j = 0 ∨ j = 1 := by omega
    rcases hjc with rfl | rfl <;> (cases hj; exact blk_cell a3 _)
  · refine ⟨blk_cell a6 4, fun j s hj => ?_⟩
    have hl : j < 2 := (List.getElem?_eq_some_iff.1 hj).1
    have hjc : j = 0 ∨ j = 1 := by omega
    rcases hjc with rfl | rfl <;> (cases hj; exact blk_cell a4 _)
  · refine ⟨blk_cell a6 5, fun j s hj => ?_⟩
    have hl : j < 3 := (List.getElem?_eq_some_iff.1 hj).1
    have hjc : j = 0 ∨ j = 1 ∨ j = 2 := by omega
    rcases hjc with rfl | rfl | rfl <;> (cases hj; exact blk_cell a5 _)
set_option maxHeartbeats 4000000 in
set_option maxRecDepth 100000 in
theorem levels_c (w : World) : Calls Tryz.prog 52 #[] w fun e w' => e = .returned (.slice (some ⟨w.heap.size + 6, 0, none⟩) 6 6) ∧ Lv w.heap.size w' ∧ Below w.heap.size w w' := by
  go_enter Tryz.func52, Tryz.ntmps52
  go_wp2
  go_ret
  refine ⟨rfl, ?_, ?_⟩
  · exact lv_all w _ rfl
  · repeat (first | exact Below.refl _ _ | refine Below.alloc ?_ ?_ _)
    all_goals simp
    all_goals omega
end Go.Proofs.YtbmnifnahbehbaaGreatDoor

/- The document's Parser.level. -/
set_option linter.unusedVariables false
set_option linter.unusedSimpArgs false
namespace Go.Proofs.YtbmnifnahbehbaaGreatDoor
open Go.RowKit Go.Lib Go.Proofs.YtbmnifnahbehbaaGreatDoorW.PrintWords Go.Proofs.YtbmnifnahbehbaaGreatDoorW.PrintMore Go.Proofs.YtbmnifnahbehbaaGreatDoorW.PrintLast
open AvP
theorem Lv.kg {B g : Nat} {W W' : World} (h : Lv B W) (hB : g < B) (hk : KG g W W') : Lv B W' := fun k hk6 => by
  have hh : ∀ b o v, b ≠ g → W.cell? ⟨b, o, none⟩ = some v → W'.cell? ⟨b, o, none⟩ = some v := fun b o v hb hv => by
    have hlt := World.block_lt_of_cell? _ _ hv
    have e := hk.k b hlt hb
    unfold World.cell? at hv ⊢
    rw [e]
    exact hv
  exact ⟨hh _ _ _ (by omega) (h k hk6).1, fun j s hs => hh _ _ _ (by omega) ((h k hk6).2 j s hs)⟩
/-- The loop's state. -/
def LooD (w W1 : World) (g n cp d : Nat) (A : Option Addr) (bh : Int) (l : List DTk) (k : Nat) (r : Res) (f : Nat) (u : Value) (wx : World) : Prop :=
  (∃ e i fa, DTree wx g e u ∧ PD w g A n cp bh ((i : Nat) : Int) (d : Int) fa 0 wx ∧ KG g W1 wx ∧ i ≤ n ∧ pD (l.map ab) f (.lp k e i d) = some r) ∨
  (∃ a y j d', r = .error (a, y) ∧ y ≠ 0 ∧ PD w g A n cp bh j d' a y wx ∧ KG g W1 wx)
theorem any_take {α : Type} (p : α → Bool) (l : List α) (j : Nat) (x : α) (h : l[j]? = some x) : (l.take (j + 1)).any p = ((l.take j).any p || p x) := by
  rw [List.take_add_one, h, List.any_append]
  simp
theorem lvl_len : ∀ k, (lvlS k).length ≤ 3
  | 0 | 1 | 2 | 3 | 4 | 5 => by decide
  | k + 6 => by show (0 : Nat) ≤ 3; omega
set_option maxHeartbeats 8000000 in
set_option maxRecDepth 100000 in
theorem lev_c {w W : World} {g n cp i d k f : Nat} {A : Option Addr} {fa : Int} {l : List DTk} {r : Res} (hl : Kd.C PLx.k58 w A n l) (hn : n ≤ 1000000000) (hD : ∀ m, m ≤ f → DoesD w g n cp A l m)
    (h : PD w g A n cp (behind l) (i : Int) (d : Int) fa 0 W) (hd : d ≤ 30) (hi : i ≤ n) (hk : k ≤ 6) (hr : pD (l.map ab) (f + 1) (.lv k i d) = some r) :
    Calls Tryz.prog 28 #[.pointer (some ⟨g, 0, none⟩), .int .i64 (k : Int)] W (AnsD w W g n cp d A (behind l) r) := by
  have hgW := blk_lt h.x
  have hlv := levels_c W
  have HLV := Lib.hid hlv
  obtain ⟨B, hB⟩ : ∃ q, W.heap.size = q := ⟨_, rfl⟩
  clear hlv
  rw [pD] at hr
  by_cases hk6 : k = 6
  · rw [if_pos hk6] at hr
    subst hk6
    have hc := fun W' (hb : Below W.heap.size W W') => ((hD f (Nat.le_refl _)) i d fa W' r (h.below hb) hd hi).1 hr
    have HC := Lib.hid hc
    clear hc hr hl hn hD h hd hi hk hgW hB
    go_enter Tryz.func28, Tryz.ntmps28
    go_wp2_with (first
      | (go_at_call 52; refine HLV.out.mono ?_; rintro E w1 ⟨rfl, hv, hb⟩; have HB1 := Lib.hid hb; clear hv hb)
      | (go_at_call 53; refine (HC.out _ HB1.out).mono ?_; rintro E w7 hA; obtain ⟨p2, rfl, hA2⟩ := ansD_shape hA; have HA := Lib.hid (hA2.of_below HB1.out); clear hA hA2))
    go_ret
    exact HA.out
  · rw [if_neg hk6] at hr
    have hk5 : k < 6 := by omega
    have ek : IntKind.i64.wrap ((k : Int) + 1) = ((k + 1 : Nat) : Int) := by rw [IntKind.wrap_i64]; omega
    have k9 : ((k : Int) == 6) = false := by rw [beq_eq_false_iff_ne]; omega
    have kz : (0 : Int) ≤ (k : Int) := by omega
    have kz6 : (k : Int) < 6 := by omega
    cases hq : pD (l.map ab) f (.lv (k + 1) i d) with
    | none => rw [hq] at hr; cases hr
    | some r1 =>
      rw [hq] at hr
      obtain ⟨bh, hbh⟩ : ∃ q, behind l = q := ⟨_, rfl⟩
      have hc := fun W' (hb : Below W.heap.size W W') => ((hD f (Nat.le_refl _)) i d fa W' r1 (h.below hb) hd hi).2 (k + 1) (by omega) hq
      rw [hbh] at hc h ⊢
      have h0 : ∀ W1 E w', Below W.heap.size W W1 → AnsD w W1 g n cp d A bh r1 E w' → ∃ p, E = .returned (.pointer p) ∧ LooD w W1 g n cp d A bh l k r f (.pointer p) w' ∧ KG g W1 w' := by
        intro W1 E w' hb hA
        match r1, hA, hr with
        | .ok (e, j), ⟨p, fa2, e1, t1, p1, k1, j1⟩, hr => exact ⟨p, e1, .inl ⟨e, j, fa2, t1, p1, k1, j1, hr⟩, k1⟩
        | .error (a, y), ⟨p, j, d', e1, hy, p1, k1⟩, hr => exact ⟨p, e1, .inr ⟨a, y, j, d', (Option.some.inj hr).symm, hy, p1, k1⟩, k1⟩
      have HC := Lib.hid hc
      have H0 := Lib.hid h0
      have HH := Lib.hid (And.intro hl (And.intro hn (And.intro hD (And.intro hd (And.intro hk5 (And.intro hbh hgW))))))
      obtain ⟨K1, hK1⟩ : ∃ q : Int, ((k + 1 : Nat) : Int) = q := ⟨_, rfl⟩
      rw [hK1] at ek
      simp only [hK1] at HC
      have HK1 := Lib.hid hK1
      obtain ⟨m, hm⟩ : ∃ q, (lvlS k).length = q := ⟨_, rfl⟩
      have HM := Lib.hid hm
      clear hc h0 hr hl hn hD h hd hi hk hq hgW hK1 hm hk6 hbh
      go_enter Tryz.func28, Tryz.ntmps28
      go_wp2_with (first
        | (go_at_call 52; refine HLV.out.mono ?_; rintro E w1 ⟨rfl, hv, hb⟩; rw [hB] at hv ⊢; have HB1 := Lib.hid (And.intro hb hv); clear hv hb)
        | (go_at_call 28; refine (HC.out _ HB1.out.1).mono ?_; rintro E w2 hA; obtain ⟨p2, rfl, hL, hG⟩ := H0.out _ _ _ HB1.out.1 hA; have HL0 := Lib.hid (And.intro hL hG); clear hA hL hG))
      have hB1 : g < B := by rw [← hB]; exact HH.out.2.2.2.2.2.2
      clear hB
      go_loopg [6] f (fun gm v6 wx => ∃ (p : Option Addr), .pointer p = v6 ∧ gm ≤ f ∧ Hid (LooD w w1 g n cp d A bh l k r gm (.pointer p) wx))
      case atStart => exact ⟨_, rfl, Nat.le_refl _, Lib.hid HL0.out.1⟩
      case round =>
        obtain ⟨u, rfl, hgf, HL⟩ := hrel
        rcases HL.out with ⟨e, i', fa', T, P, G, hi', hr⟩ | ⟨a, y, j, d', rfl, hy, P, G⟩
        · have hv := HB1.out.2.kg hB1 G
          have c5 := P.c5
          have HT := Lib.hid (And.intro T (And.intro P (And.intro G (And.intro hi' hr))))
          have q0 := (hv k HH.out.2.2.2.2.1).1
          rw [HM.out] at q0
          have HV := Lib.hid hv
          have his := fun W' (hb : Below wr.heap.size wr W') mk => dis_c (P.below hb) HH.out.1 HH.out.2.1 (by have := HH.out.2.1; omega : i' ≤ 1000000000) mk
          have HI := Lib.hid his
          clear T P G hr hv his HL
          obtain ⟨gm, hgm⟩ : ∃ q, q = gk := ⟨_, rfl⟩
          subst hgm
          obtain ⟨wo, hwo⟩ : ∃ q, q = wr := ⟨_, rfl⟩
          subst hwo
          have HGM := Lib.hid (And.intro hgf hi')
          clear hgf hi'
          go_wp2
          go_loopg [7, 8] m (fun gn v7 v8 wx => ∃ j : Nat, .bool (((lvlS k).take j).any (isAt l i')) = v7 ∧ .int .i64 (j : Int) = v8 ∧ j ≤ m ∧ Hid (gn + j = m) ∧ Hid (Below wo.heap.size wo wx))
          case atStart => exact ⟨0, rfl, rfl, Nat.zero_le _, Lib.hid rfl, Lib.hid (Below.refl _ _)⟩
          case round =>
            obtain ⟨j, rfl, rfl, hj, HJ, HBI⟩ := hrel
            have q0 : wr.cell? ⟨B + 6, k, none⟩ = some (.slice (some ⟨B + k, 0, none⟩) m m) := (HBI.out.cell (World.block_lt_of_cell? _ _ q0)).trans q0
            by_cases hjm : j < m
            · obtain ⟨s, hs⟩ : ∃ s, (lvlS k)[j]? = some s := ⟨_, List.getElem?_eq_getElem (by rw [HM.out]; exact hjm)⟩
              have q9 : wr.cell? ⟨B + k, j, none⟩ = some (.string s) := (HBI.out.cell (World.block_lt_of_cell? _ _ ((HV.out k HH.out.2.2.2.2.1).2 j s hs))).trans ((HV.out k HH.out.2.2.2.2.1).2 j s hs)
              have hta := any_take (isAt l i') (lvlS k) j s hs
              have hm3 : m ≤ 3 := by rw [← HM.out]; exact lvl_len k
              have ej : IntKind.i64.wrap ((j : Int) + 1) = (j : Int) + 1 := by rw [IntKind.wrap_i64]; omega
              have j0 : (0 : Int) ≤ (j : Int) := by omega
              have jm : (j : Int) < (m : Int) := by omega
              have HTA := Lib.hid hta
              obtain ⟨gn, rfl⟩ : ∃ q, gk = q + 1 := ⟨gk - 1, by have := HJ.out; omega⟩
              clear hs hta
              cases hb1 : ((lvlS k).take j).any (isAt l i') with
              | true =>
                rw [hb1] at HTA
                have HT1 := Lib.hid HTA.out
                clear HTA hb1
                go_wp2
                go_roundg gn
                case measure => omega
                case rel => exact ⟨j + 1, by rw [HT1.out]; rfl, by go_num, by omega, Lib.hid (by have := HJ.out; omega), HBI⟩
              | false =>
                rw [hb1] at HTA
                have HT1 := Lib.hid HTA.out
                clear HTA hb1
                go_wp2_with (first
                  | (go_at_call 54; refine (HI.out _ HBI.out _).mono ?_; rintro E wj ⟨rfl, hd⟩; have HBJ := Lib.hid (HBI.out.trans (hd.mono HBI.out.size)); clear hd))
                go_roundg gn
                case measure => omega
                case rel => exact ⟨j + 1, by rw [HT1.out]; rfl, by go_num, by omega, Lib.hid (by have := HJ.out; omega), HBJ⟩
            · have hjm2 : j = m := by omega
              have jn : ((j : Int) < (m : Int)) = False := eq_false (by omega)
              have hfull : ((lvlS k).take j).any (isAt l i') = (lvlS k).any (isAt l i') := by rw [List.take_of_length_le (by rw [HM.out]; omega)]
              rw [hfull]
              obtain ⟨T, P, G, hi', hr⟩ := HT.out
              obtain ⟨hgf, _⟩ := HGM.out
              have P2 := P.below HBI.out
              have T2 := T.kg (KG.of_below (g := g) HBI.out)
              have G2 := G.trans (KG.of_below HBI.out)
              clear hfull hj hjm hjm2
              cases hx : l[i']? with
              | none =>
                have hf : (lvlS k).any (isAt l i') = false := by
                  rw [List.any_eq_false]
                  intro s _
                  rw [isAt_none hx]
                  decide
                rw [hf]
                have hr2 : r = .ok (e, i') := by
                  cases gm with
                  | zero => rw [pD] at hr; cases hr
                  | succ q => rw [pD, List.getElem?_map, hx] at hr; exact (Option.some.inj hr).symm
                have HZ := Lib.hid (And.intro T2 (And.intro P2 (And.intro G2 (And.intro hi' hr2))))
                clear T P G hi' hr T2 P2 G2 hx hf hr2 hgf
                go_wp2
                go_ret
                obtain ⟨T2, P2, G2, hi', rfl⟩ := HZ.out
                exact ⟨_, _, rfl, T2, P2, (KG.of_below HB1.out.1).trans G2, hi'⟩
              | some x =>
                have hf : (lvlS k).any (isAt l i') = decide (str (ab x) = k + 1) := by
                  rw [← lvl_str (ab x) k HH.out.2.2.2.2.1]
                  have : isAt l i' = isM (ab x) := funext (isAt_some hx)
                  rw [this]
                rw [hf]
                cases gm with
                | zero => rw [pD] at hr; cases hr
                | succ gq =>
                  rw [pD, List.getElem?_map, hx] at hr
                  dsimp only [Option.map_some] at hr
                  by_cases hst : str (ab x) = k + 1
                  · rw [if_pos hst] at hr
                    rw [decide_eq_true hst]
                    obtain ⟨hl, hn, hD, hd, _, hbh, hgW⟩ := HH.out
                    have hil : i' < n := by rw [← hl.1]; exact (List.getElem?_eq_some_iff.1 hx).1
                    obtain ⟨ad, rfl, _⟩ := dtok_at (Kd.C_below hl P.b) hx
                    have hrd : ∀ W', Below wo.heap.size wo W' → RdD g n cp i' ad x W' := fun W' hb => by obtain ⟨ad', e1, h1⟩ := rdD_of P hl hx hb; cases e1; exact h1
                    have HG := Lib.hid hrd
                    cases hq : pD (l.map ab) gq (.lv (k + 1) (i' + 1) d) with
                    | none => rw [hq] at hr; cases hr
                    | some r2 =>
                      rw [hq] at hr
                      have hc := fun (W6 : World) (P6 : PD w g (some ad) n cp bh ((i' + 1 : Nat) : Int) (d : Int) fa' 0 W6) => ((hD gq (by omega)) (i' + 1) d fa' W6 r2 (hbh ▸ P6) hd (by omega)).2 (k + 1) (by omega) hq
                      rw [hbh] at hc
                      simp only [HK1.out] at hc
                      have hz : ∀ gb W6 E w7, gb ≠ g → KG g wo W6 → DBox W6 gb x → AnsD w W6 g n cp d (some ad) bh r2 E w7 → ∃ p2, E = .returned (.pointer p2) ∧ DBox w7 gb x ∧ ∀ w8, w8.heap[w7.heap.size]? = some (.cells (dnode x (.pointer u) (.pointer p2)) 98 (0, 0)) → Below w7.heap.size w7 w8 → LooD w w1 g n cp d (some ad) bh l k r gq (.pointer (some ⟨w7.heap.size, 0, none⟩)) w8 := by
                        intro gb W6 E w7 hgg G6 X6 hA
                        match r2, hA, hr with
                        | .ok (er, j2), ⟨p2, fa2, a1, a2, a3, a4, a5⟩, hr =>
                          refine ⟨p2, a1, (a4.k gb (blk_lt X6) hgg).trans X6, fun w8 h8 hb8 => .inl ⟨.bin (ab x) e er, j2, fa2, ⟨x, _, _, _, rfl, rfl, ?_, h8, T.kg ((G6.trans a4).trans (KG.of_below hb8)), a2.kg (KG.of_below hb8)⟩, a3.below hb8, G.trans ((G6.trans a4).trans (KG.of_below hb8)), a5, hr⟩⟩
                          have := blk_lt a3.x
                          omega
                        | .error (a, y), ⟨p2, j2, d', a1, a0, a2, a3⟩, hr =>
                          exact ⟨p2, a1, (a3.k gb (blk_lt X6) hgg).trans X6, fun w8 h8 hb8 => .inr ⟨a, y, j2, d', (Option.some.inj hr).symm, a0, a2.below hb8, G.trans ((G6.trans a3).trans (KG.of_below hb8))⟩⟩
                      have HC2 := Lib.hid hc
                      have HZ := Lib.hid hz
                      have HP := Lib.hid P
                      have HB := HBI
                      have e1 : IntKind.i64.wrap ((i' : Int) + 1) = (i' : Int) + 1 := by rw [IntKind.wrap_i64]; omega
                      have r3 : (0 : Int) ≤ (i' : Int) := by omega
                      have r4 : (i' : Int) < (n : Int) := by omega
                      clear hr hq hc hz hl hn hD hd hx hst hil hrd hbh hgW T P G hi' hgf T2 P2 G2 hf c5
                      go_upto_region 12 with (fail)
                      go_wp2
                      have hO := blk_new wr (Obj.cells #[.int .i64 0, .int .i64 0, .int .i64 0, .string ⟨#[]⟩, .string ⟨#[]⟩, .int .u64 0, .bool false] 58)
                      have hB1 := below_drew HB.out
                      have hB2 := HB.out.alloc HB.out.size (Obj.cells #[.int .i64 0, .int .i64 0, .int .i64 0, .string ⟨#[]⟩, .string ⟨#[]⟩, .int .u64 0, .bool false] 58)
                      have hB3 := below_drew hB2
                      obtain ⟨a0, a1, a2, a3, a4, a5, a6, a7, a8⟩ := HG.out _ HB.out
                      obtain ⟨b0, b1, b2, b3, b4, b5, b6, b7, b8⟩ := HG.out _ hB1
                      obtain ⟨d0, d1, d2, d3, d4, d5, d6, d7, d8⟩ := HG.out _ hB2
                      obtain ⟨e0, e1, e2, e3, e4, e5, e6, e7, e8⟩ := HG.out _ hB3
                      have z0 : (wr.alloc (Obj.cells #[.int .i64 0, .int .i64 0, .int .i64 0, .string ⟨#[]⟩, .string ⟨#[]⟩, .int .u64 0, .bool false] 58)).cell? ⟨wr.heap.size, 0, none⟩ = some (.int .i64 0) := blk_cell hO 0
                      have z1 : (wr.alloc (Obj.cells #[.int .i64 0, .int .i64 0, .int .i64 0, .string ⟨#[]⟩, .string ⟨#[]⟩, .int .u64 0, .bool false] 58)).cell? ⟨wr.heap.size, 1, none⟩ = some (.int .i64 0) := blk_cell hO 1
                      have z2 : (wr.alloc (Obj.cells #[.int .i64 0, .int .i64 0, .int .i64 0, .string ⟨#[]⟩, .string ⟨#[]⟩, .int .u64 0, .bool false] 58)).cell? ⟨wr.heap.size, 2, none⟩ = some (.int .i64 0) := blk_cell hO 2
                      have z3 : (wr.alloc (Obj.cells #[.int .i64 0, .int .i64 0, .int .i64 0, .string ⟨#[]⟩, .string ⟨#[]⟩, .int .u64 0, .bool false] 58)).cell? ⟨wr.heap.size, 3, none⟩ = some (.string ⟨#[]⟩) := blk_cell hO 3
                      have z4 : (wr.alloc (Obj.cells #[.int .i64 0, .int .i64 0, .int .i64 0, .string ⟨#[]⟩, .string ⟨#[]⟩, .int .u64 0, .bool false] 58)).cell? ⟨wr.heap.size, 4, none⟩ = some (.string ⟨#[]⟩) := blk_cell hO 4
                      have z5 : (wr.alloc (Obj.cells #[.int .i64 0, .int .i64 0, .int .i64 0, .string ⟨#[]⟩, .string ⟨#[]⟩, .int .u64 0, .bool false] 58)).cell? ⟨wr.heap.size, 5, none⟩ = some (.int .u64 0) := blk_cell hO 5
                      have z6 : (wr.alloc (Obj.cells #[.int .i64 0, .int .i64 0, .int .i64 0, .string ⟨#[]⟩, .string ⟨#[]⟩, .int .u64 0, .bool false] 58)).cell? ⟨wr.heap.size, 6, none⟩ = some (.bool false) := blk_cell hO 6
                      have fr : ∀ j, (wr.alloc (Obj.cells #[.int .i64 0, .int .i64 0, .int .i64 0, .string ⟨#[]⟩, .string ⟨#[]⟩, .int .u64 0, .bool false] 58)).frozen? ⟨wr.heap.size, j, none⟩ = false := fun j => blk_frozen hO j
                      go_region
                      obtain ⟨w2, hw2⟩ : ∃ q, (wr.alloc (Obj.cells #[.int .i64 x.f0, .int .i64 x.f1, .int .i64 x.f2, .string x.f3, .string x.f4, .int .u64 x.f5, .bool x.f6] 58)).drew = q := ⟨_, rfl⟩
                      have hX : DBox w2 wr.heap.size x := by rw [← hw2]; exact blk_drew (blk_new wr _)
                      have hB4 := below_drew (HB.out.alloc HB.out.size (Obj.cells #[.int .i64 x.f0, .int .i64 x.f1, .int .i64 x.f2, .string x.f3, .string x.f4, .int .u64 x.f5, .bool x.f6] 58))
                      have hge := HB.out.size
                      rw [hw2] at hB4
                      rw [hw2]
                      obtain ⟨gb, hgb⟩ : ∃ q, wr.heap.size = q := ⟨_, rfl⟩
                      rw [hgb] at hX hge ⊢
                      have HX := Lib.hid (And.intro hX (And.intro hB4 hge))
                      clear hw2 hgb hX hB4 hge z0 z1 z2 z3 z4 z5 z6 fr hO hB1 hB2 hB3 a0 a1 a2 a3 a4 a5 a6 a7 a8 b0 b1 b2 b3 b4 b5 b6 b7 b8 d0 d1 d2 d3 d4 d5 d6 d7 d8 e0 e1 e2 e3 e4 e5 e6 e7 e8
                      have P5 := HP.out.below HX.out.2.1
                      have hgg : gb ≠ g := by have := blk_lt HP.out.x; have := HX.out.2.2; omega
                      have p1 := P5.c1
                      have f1 : w2.frozen? ⟨g, 1, none⟩ = false := blk_frozen P5.x 1
                      have P6 : PD w g (some ad) n cp bh ((i' + 1 : Nat) : Int) (d : Int) fa' 0 (w2.setCell ⟨g, 1, none⟩ (.int .i64 ((i' : Int) + 1))) := P5.set1 _
                      have G6 := (KG.of_below (g := g) HX.out.2.1).set 1 (.int .i64 ((i' : Int) + 1))
                      have K6 : KG g w2 (w2.setCell ⟨g, 1, none⟩ (.int .i64 ((i' : Int) + 1))) := (KG.refl g w2).set 1 _
                      have X6 : DBox (w2.setCell ⟨g, 1, none⟩ (.int .i64 ((i' : Int) + 1))) gb x := (K6.k gb (blk_lt HX.out.1) hgg).trans HX.out.1
                      have HQ := Lib.hid (And.intro P6 (And.intro G6 (And.intro X6 hgg)))
                      clear P5 P6 G6 K6 X6 HX hgg
                      go_upto_region 15 with (first
                        | (go_at_call 28; refine (HC2.out _ HQ.out.1).mono ?_; rintro E w7 hA; obtain ⟨p2, rfl, hx7, hz7⟩ := HZ.out gb _ _ _ HQ.out.2.2.2 HQ.out.2.1 HQ.out.2.2.1 hA; have HX7 := Lib.hid hx7; have HZ7 := Lib.hid hz7; clear hA hx7 hz7))
                      clear p1 f1 r3 r4 e1
                      obtain ⟨y0, y1, y2, y3, y4, y5, y6⟩ := db_cells HX7.out
                      go_wp2
                      go_roundg gq
                      case measure => omega
                      case rel => exact ⟨_, rfl, by have := HGM.out.1; omega, Lib.hid (HZ7.out _ (blk_new w7 _) ((Below.refl _ w7).alloc (Nat.le_refl _) _))⟩
                  · rw [if_neg hst] at hr
                    rw [decide_eq_false hst]
                    have HZ := Lib.hid (And.intro T2 (And.intro P2 (And.intro G2 (And.intro hi' (Option.some.inj hr).symm))))
                    clear T P G hi' hr T2 P2 G2 hx hf hst hgf
                    go_wp2
                    go_ret
                    obtain ⟨T2, P2, G2, hi', rfl⟩ := HZ.out
                    exact ⟨_, _, rfl, T2, P2, (KG.of_below HB1.out.1).trans G2, hi'⟩
        · have c5 := P.c5
          have y9 : (y == 0) = false := by rw [beq_eq_false_iff_ne]; exact hy
          have HZ := Lib.hid (And.intro hy (And.intro P G))
          clear P G hy HL
          go_wp2
          go_ret
          obtain ⟨hy, P, G⟩ := HZ.out
          exact ⟨_, _, _, rfl, hy, P, (KG.of_below HB1.out.1).trans G⟩
end Go.Proofs.YtbmnifnahbehbaaGreatDoor

/- The document's parse. -/
set_option linter.unusedVariables false
set_option linter.unusedSimpArgs false
namespace Go.Proofs.YtbmnifnahbehbaaGreatDoor
open Go.RowKit Go.Lib Go.Proofs.YtbmnifnahbehbaaGreatDoorW.PrintWords Go.Proofs.YtbmnifnahbehbaaGreatDoorW.PrintMore Go.Proofs.YtbmnifnahbehbaaGreatDoorW.PrintLast
open AvP
theorem doesD_all {w : World} {g n cp : Nat} {A : Option Addr} {l : List DTk} (hl : Kd.C PLx.k58 w A n l) (hn : n ≤ 1000000000) : ∀ f m, m ≤ f → DoesD w g n cp A l m
  | 0, m, hm, i, d, fa, W, r, h, hd, hi => by
    obtain rfl : m = 0 := by omega
    exact ⟨fun hr => (by cases hr), fun k hk hr => (by cases hr)⟩
  | f + 1, m, hm, i, d, fa, W, r, h, hd, hi => by
    by_cases hmf : m ≤ f
    · exact doesD_all hl hn f m hmf i d fa W r h hd hi
    · obtain rfl : m = f + 1 := by omega
      exact ⟨fun hr => sg_c hl hn (doesD_all hl hn f f (Nat.le_refl _)) h hd hi hr, fun k hk hr => lev_c hl hn (doesD_all hl hn f) h hd hi hk hr⟩
/-- What the document's parse answers. -/
def DAns (w : World) (g n : Nat) (l : List DTk) : Res → Ending → World → Prop
  | .ok (e, j), E, w' => Below w.heap.size w w' ∧ (j < n ∧ (∃ p, E = .returned (.tuple #[.pointer p, .agg #[.int .i64 (hereD l (behind l) j), .int .i64 83]])) ∨ ¬ j < n ∧ ∃ p fa, E = .returned (.tuple #[.pointer p, .agg #[.int .i64 fa, .int .i64 0]]) ∧ DTree w' g e (.pointer p))
  | .error (a, y), E, w' => Below w.heap.size w w' ∧ y ≠ 0 ∧ ∃ p, E = .returned (.tuple #[.pointer p, .agg #[.int .i64 a, .int .i64 y]])
theorem DTree.other {W : World} {g b5 : Nat} {cs : Array Value} (h5 : W.heap[b5]? = some (.cells cs 53 (0, 0))) : ∀ {e : Ex} {v : Value}, DTree W g e v → DTree W b5 e v
  | .leaf t, v, ⟨x, b, e0, e1, h1, h2⟩ => ⟨x, b, e0, e1, fun e => by subst e; rw [h5] at h2; injection h2 with h2; injection h2 with _ h3; exact absurd h3 (by decide), h2⟩
  | .un t e, v, ⟨x, b, ev, e0, e1, h1, h2, h3⟩ => ⟨x, b, ev, e0, e1, fun e => by subst e; rw [h5] at h2; injection h2 with h2; injection h2 with _ h3; exact absurd h3 (by decide), h2, DTree.other h5 h3⟩
  | .bin t l r, v, ⟨x, b, lv, rv, e0, e1, h1, h2, h3, h4⟩ => ⟨x, b, lv, rv, e0, e1, fun e => by subst e; rw [h5] at h2; injection h2 with h2; injection h2 with _ h3; exact absurd h3 (by decide), h2, DTree.other h5 h3, DTree.other h5 h4⟩
set_option maxHeartbeats 4000000 in
set_option maxRecDepth 100000 in
theorem parseD_c {w : World} {n cp f : Nat} {A : Option Addr} {l : List DTk} {r : Res} (hl : Kd.C PLx.k58 w A n l) (hn : n ≤ 1000000000) (hr : pD (l.map ab) f (.lv 0 0 0) = some r) :
    Calls Tryz.prog 15 #[.slice A n cp, .int .i64 (behind l)] w (DAns w w.heap.size n l r) := by
  obtain ⟨bh, hbh⟩ : ∃ q, behind l = q := ⟨_, rfl⟩
  obtain ⟨W1, hW⟩ : ∃ W1, (w.alloc (.cells #[.int .i64 0, .int .i64 0] 53)).alloc (.cells #[.slice A n cp, .int .i64 0, .int .i64 bh, .int .i64 0, .int .i64 0, .int .i64 0] 94) = W1 := ⟨_, rfl⟩
  have hs1 : (w.alloc (.cells #[.int .i64 0, .int .i64 0] 53)).heap.size = w.heap.size + 1 := by simp
  have P : PD w (w.heap.size + 1) A n cp bh ((0 : Nat) : Int) ((0 : Nat) : Int) 0 0 W1 := by
    rw [← hW]
    refine ⟨((Below.refl _ w).alloc (Nat.le_refl _) _).alloc (by rw [hs1]; omega) _, ?_, by omega⟩
    rw [← hs1]
    exact blk_new _ _
  have h5 : W1.heap[w.heap.size]? = some (.cells #[.int .i64 0, .int .i64 0] 53 (0, 0)) := by
    rw [← hW]
    exact blk_alloc (blk_new w _) _
  have hc : Calls Tryz.prog 28 #[.pointer (some ⟨w.heap.size + 1, 0, none⟩), .int .i64 0] W1 (AnsD w W1 (w.heap.size + 1) n cp 0 A bh r) := hbh ▸ ((doesD_all hl hn f f (Nat.le_refl _) 0 0 0 W1 r (hbh.symm ▸ P) (by omega) (by omega)).2 0 (by omega) hr)
  rw [← hW] at hc
  have HC := Lib.hid hc
  have HH := Lib.hid (And.intro hl (And.intro hn (And.intro hW (And.intro h5 hbh))))
  rw [hbh]
  obtain ⟨g, hg⟩ : ∃ g, w.heap.size + 1 = g := ⟨_, rfl⟩
  have HGE := Lib.hid hg
  rw [hg] at HC
  clear hc P hl hn hr hW h5 hbh hs1
  go_enter Tryz.func15, Tryz.ntmps15
  go_upto_region 3 with (first
    | (go_at_call 28; refine HC.out.mono ?_; rintro E w7 hA; obtain ⟨p2, rfl, hA⟩ := ansD_shape hA; have HA := Lib.hid hA; clear hA))
  obtain ⟨hl, hn, hW, h5, hbh⟩ := HH.out
  have h57 : KG g W1 w7 → w7.heap[w.heap.size]? = some (.cells #[.int .i64 0, .int .i64 0] 53 (0, 0)) := fun hk => (hk.k _ (blk_lt h5) (by have := HGE.out; omega)).trans h5
  rw [hW] at HA
  clear hg hW h5
  have hgb : (w.heap.size == g) = false := by rw [beq_eq_false_iff_ne]; have := HGE.out; omega
  have hgn : w.heap.size ≠ g := by have := HGE.out; omega
  match r, HA with
  | .error (a, y), HA =>
    obtain ⟨p', I, D, ee, hy, P8, K8⟩ := HA.out
    cases ee
    have b5 := h57 K8
    have y9 : (y == 0) = false := by rw [beq_eq_false_iff_ne]; exact hy
    have c4 := P8.c4
    have c5 := P8.c5
    have b50 : w7.cell? ⟨w.heap.size, 0, none⟩ = some (.int .i64 0) := blk_cell b5 0
    have b51 : w7.cell? ⟨w.heap.size, 1, none⟩ = some (.int .i64 0) := blk_cell b5 1
    have z0 : w7.frozen? ⟨w.heap.size, 0, none⟩ = false := blk_frozen b5 0
    have z1 : w7.frozen? ⟨w.heap.size, 1, none⟩ = false := blk_frozen b5 1
    have HY := Lib.hid (And.intro hy (And.intro P8 b5))
    clear P8 K8 hl hn hbh b5 h57 hy HA
    go_upto_region 5 with (fail)
    go_wp2
    go_region_held2 (fun w' => w'.cell? ⟨g, 4, none⟩ = some (.int .i64 a) ∧ w'.cell? ⟨g, 5, none⟩ = some (.int .i64 y)) (first | exact ⟨c4, c5⟩ | go_keep) (fail)
    go_wp2
    obtain ⟨hy, P8, b5⟩ := HY.out
    refine bodyPost_ret (results_tc rfl _ _ w.heap.size 53 #[.int .i64 a, .int .i64 y] (0, 0) _ rfl (blk_drew (blk_put (blk_put b5 0 _ rfl) 1 _ rfl)) Tryz.underlying53 rfl (by kernel_rfl)) rfl ?_
    exact ⟨below_drew (Below.setCell (Below.setCell P8.b (p := ⟨w.heap.size, 0, none⟩) (Nat.le_refl _) _) (p := ⟨w.heap.size, 1, none⟩) (Nat.le_refl _) _), hy, _, rfl⟩
  | .ok (e, j), HA =>
    obtain ⟨p', fa, ee, T8, P8, K8, hj⟩ := HA.out
    cases ee
    have b5 := h57 K8
    have c1 := P8.c1
    have c5 := P8.c5
    by_cases hjn : j < n
    · have q1 : ((j : Int) < (n : Int)) = True := eq_true (by omega)
      have hbd := bad_c P8 hl hn (by omega : j ≤ 1000000000) 83
      have HBd := Lib.hid hbd
      have HY := Lib.hid (And.intro P8 (And.intro b5 hjn))
      clear T8 P8 K8 hl hn hbh b5 h57 HA hj hjn hbd
      go_upto_region 5 with (first
        | (go_at_call 29; refine HBd.out.mono ?_; rintro E wf ⟨rfl, hp, hk⟩; have HF := Lib.hid (And.intro hp hk); clear hp hk))
      have P9 := HF.out.1
      have b5 : wf.heap[w.heap.size]? = some (.cells #[.int .i64 0, .int .i64 0] 53 (0, 0)) := (HF.out.2.k _ (blk_lt HY.out.2.1) hgn).trans HY.out.2.1
      obtain ⟨a, ha⟩ : ∃ a, hereD l bh j = a := ⟨_, rfl⟩
      rw [ha] at P9
      have c4 := P9.c4
      have d5 := P9.c5
      have b50 : wf.cell? ⟨w.heap.size, 0, none⟩ = some (.int .i64 0) := blk_cell b5 0
      have b51 : wf.cell? ⟨w.heap.size, 1, none⟩ = some (.int .i64 0) := blk_cell b5 1
      have z0 : wf.frozen? ⟨w.heap.size, 0, none⟩ = false := blk_frozen b5 0
      have z1 : wf.frozen? ⟨w.heap.size, 1, none⟩ = false := blk_frozen b5 1
      have HZ := Lib.hid (And.intro P9 (And.intro b5 ha))
      clear c1 c5 P9 b5 ha q1
      go_wp2
      go_region_held2 (fun w' => w'.cell? ⟨g, 4, none⟩ = some (.int .i64 a) ∧ w'.cell? ⟨g, 5, none⟩ = some (.int .i64 83)) (first | exact ⟨c4, d5⟩ | go_keep) (fail)
      go_wp2
      obtain ⟨P9, b5, ha⟩ := HZ.out
      refine bodyPost_ret (results_tc rfl _ _ w.heap.size 53 #[.int .i64 a, .int .i64 83] (0, 0) _ rfl (blk_drew (blk_put (blk_put b5 0 _ rfl) 1 _ rfl)) Tryz.underlying53 rfl (by kernel_rfl)) rfl ?_
      exact ⟨below_drew (Below.setCell (Below.setCell P9.b (p := ⟨w.heap.size, 0, none⟩) (Nat.le_refl _) _) (p := ⟨w.heap.size, 1, none⟩) (Nat.le_refl _) _), .inl ⟨HY.out.2.2, _, by rw [HH.out.2.2.2.2, ha]; rfl⟩⟩
    · have q1 : ((j : Int) < (n : Int)) = False := eq_false (by omega)
      have c4 := P8.c4
      have b50 : w7.cell? ⟨w.heap.size, 0, none⟩ = some (.int .i64 0) := blk_cell b5 0
      have b51 : w7.cell? ⟨w.heap.size, 1, none⟩ = some (.int .i64 0) := blk_cell b5 1
      have z0 : w7.frozen? ⟨w.heap.size, 0, none⟩ = false := blk_frozen b5 0
      have z1 : w7.frozen? ⟨w.heap.size, 1, none⟩ = false := blk_frozen b5 1
      have HY := Lib.hid (And.intro P8 (And.intro b5 (And.intro hjn T8)))
      clear T8 P8 K8 hl hn hbh b5 h57 HA hj hjn
      go_upto_region 5 with (fail)
      go_wp2
      go_region_held2 (fun w' => w'.cell? ⟨g, 4, none⟩ = some (.int .i64 fa) ∧ w'.cell? ⟨g, 5, none⟩ = some (.int .i64 0)) (first | exact ⟨c4, c5⟩ | go_keep) (fail)
      go_wp2
      obtain ⟨P8, b5, hjn, T8⟩ := HY.out
      refine bodyPost_ret (results_tc rfl _ _ w.heap.size 53 #[.int .i64 fa, .int .i64 0] (0, 0) _ rfl (blk_drew (blk_put (blk_put b5 0 _ rfl) 1 _ rfl)) Tryz.underlying53 rfl (by kernel_rfl)) rfl ?_
      exact ⟨below_drew (Below.setCell (Below.setCell P8.b (p := ⟨w.heap.size, 0, none⟩) (Nat.le_refl _) _) (p := ⟨w.heap.size, 1, none⟩) (Nat.le_refl _) _), .inr ⟨hjn, _, fa, rfl, (T8.other b5).kg (((((KG.refl _ w7).set 0 _).set 1 _)).trans (KG.of_below (below_drew (Below.refl _ _))))⟩⟩
end Go.Proofs.YtbmnifnahbehbaaGreatDoor

/- The document's shift, Scope.value. -/
set_option linter.unusedVariables false
set_option linter.unusedSimpArgs false
namespace Go.Proofs.YtbmnifnahbehbaaGreatDoor
open Go.RowKit Go.Lib Go.Proofs.YtbmnifnahbehbaaGreatDoorW.PrintWords Go.Proofs.YtbmnifnahbehbaaGreatDoorW.PrintMore Go.Proofs.YtbmnifnahbehbaaGreatDoorW.PrintLast
open AvP
def shU (v : Int) (i : Nat) : Int := IntKind.u64.wrap (v * 2 ^ min i 64)
def shD (v : Int) (i : Nat) : Int := v / 2 ^ min i 64
theorem shU_z (v : Int) (i : Nat) (h : shU v i = 0) (j : Nat) (hj : i ≤ j) : shU v j = 0 := by
  unfold shU at h ⊢
  rw [IntKind.wrap_u64] at h ⊢
  by_cases h64 : 64 ≤ i
  · rw [show min j 64 = min i 64 by omega]; exact h
  · obtain ⟨k, hk⟩ : ∃ k, min j 64 = min i 64 + k := ⟨min j 64 - min i 64, by omega⟩
    rw [hk, Int.pow_add, ← Int.mul_assoc, Int.mul_emod, h, Int.zero_mul]
    rfl
theorem shU_s (v : Int) (i : Nat) (hi : i < 64) : shU v (i + 1) = IntKind.u64.wrap (shU v i * 2) := by
  unfold shU
  rw [IntKind.wrap_u64, IntKind.wrap_u64, IntKind.wrap_u64, show min (i + 1) 64 = min i 64 + 1 by omega, Int.pow_succ, ← Int.mul_assoc]
  conv => rhs; rw [Int.mul_emod, Int.emod_emod_of_dvd _ (Int.dvd_refl _), ← Int.mul_emod]
theorem shU_64 (v : Int) : shU v 64 = 0 := by
  unfold shU
  rw [IntKind.wrap_u64, show (2 : Int) ^ min 64 64 = 18446744073709551616 by decide]
  exact Int.mul_emod_left _ _
theorem shD_z (v : Int) (i : Nat) (h0 : 0 ≤ v) (h : shD v i = 0) (j : Nat) (hj : i ≤ j) : shD v j = 0 := by
  unfold shD at h ⊢
  obtain ⟨k, hk⟩ : ∃ k, min j 64 = min i 64 + k := ⟨min j 64 - min i 64, by omega⟩
  rw [hk, Int.pow_add, ← Int.ediv_ediv_of_nonneg (Int.le_of_lt (Int.pow_pos (by decide))), h]
  exact Int.zero_ediv _
theorem shD_s (v : Int) (i : Nat) (h0 : 0 ≤ v) (hi : i < 64) : shD v (i + 1) = shD v i / 2 := by
  unfold shD
  rw [show min (i + 1) 64 = min i 64 + 1 by omega, Int.pow_succ, Int.ediv_ediv_of_nonneg (Int.le_of_lt (Int.pow_pos (by decide)))]
theorem shD_64 (v : Int) (h0 : 0 ≤ v) (h1 : v < 18446744073709551616) : shD v 64 = 0 := by
  unfold shD
  rw [show (2 : Int) ^ min 64 64 = 18446744073709551616 by decide]
  exact Int.ediv_eq_zero_of_lt h0 h1
theorem shU_r (v : Int) (i : Nat) : 0 ≤ shU v i ∧ shU v i < 18446744073709551616 := by unfold shU; rw [IntKind.wrap_u64]; omega
theorem shD_r (v : Int) (i : Nat) (h0 : 0 ≤ v) (h1 : v < 18446744073709551616) : 0 ≤ shD v i ∧ shD v i < 18446744073709551616 := by
  unfold shD
  have h2 : (1 : Int) ≤ 2 ^ min i 64 := by exact_mod_cast Nat.one_le_two_pow
  exact ⟨Int.ediv_nonneg h0 (by omega), Int.lt_of_le_of_lt (Int.ediv_le_self _ h0) h1⟩
set_option maxHeartbeats 4000000 in
set_option maxRecDepth 100000 in
theorem shift_c (v n : Int) (up : Bool) (w : World) (h0 : 0 ≤ v) (h1 : v < 18446744073709551616) (k0 : 0 ≤ n) (k1 : n < 18446744073709551616) :
    Calls Tryz.prog 31 #[.int .u64 v, .int .u64 n, .bool up] w fun e w' => e = .returned (.int .u64 (if up = true then shU v n.toNat else shD v n.toNat)) ∧ w' = w := by
  obtain ⟨N, rfl⟩ : ∃ N : Nat, n = (N : Int) := ⟨n.toNat, by omega⟩
  rw [Int.toNat_natCast]
  have H := Lib.hid (And.intro h0 h1)
  cases up with
  | true =>
    rw [if_pos rfl]
    have e0 : shU v 0 = v := by unfold shU; rw [IntKind.wrap_u64]; simp; omega
    go_enter Tryz.func31, Tryz.ntmps31
    go_wp2
    go_loopg [0, 7] 65 (fun gm v0 v7 wx => ∃ i : Nat, .int .u64 (shU v i) = v0 ∧ .int .u64 (i : Int) = v7 ∧ i ≤ 64 ∧ i ≤ N ∧ wx = w ∧ Hid (gm + i = 65))
    case atStart => exact ⟨0, by rw [e0], rfl, by omega, by omega, rfl, Lib.hid rfl⟩
    case round =>
      obtain ⟨i, rfl, rfl, hi, hiN, rfl, HI⟩ := hrel
      clear e0 h0 h1
      by_cases hz : shU v i = 0
      · have q1 : (shU v i != 0) = false := by rw [bne_eq_false_iff_eq]; exact hz
        have hr : shU v i = shU v N := by rw [hz, shU_z v i hz N hiN]
        have HR := Lib.hid hr
        clear hz hr
        obtain h2 | h2 : i < N ∨ i = N := by omega
        · have q2 : (i : Int) < (N : Int) := by omega
          go_wp2
          go_ret
          exact ⟨by first | (rw [← HR.out]; done) | (rw [← HR.out]; rfl), rfl⟩
        · have q2 : ((i : Int) < (N : Int)) = False := eq_false (by omega)
          have q3 : (i < N) = False := eq_false (by omega)
          go_wp2
          go_ret
          exact ⟨by first | (rw [← HR.out]; done) | (rw [← HR.out]; rfl), rfl⟩
      · have hi64 : i < 64 := by
          rcases Nat.lt_or_ge i 64 with h | h
          · exact h
          · obtain rfl : i = 64 := by omega
            exact absurd (shU_64 v) hz
        have q1 : (shU v i != 0) = true := by rw [bne_iff_ne]; exact hz
        by_cases h2 : i < N
        · have q2 : (i : Int) < (N : Int) := by omega
          have e1 : IntKind.u64.wrap ((i : Int) + 1) = (i : Int) + 1 := by rw [IntKind.wrap_u64]; omega
          have hs := Lib.hid (shU_s v i hi64)
          obtain ⟨gm, rfl⟩ : ∃ q, gk = q + 1 := ⟨gk - 1, by have := HI.out; omega⟩
          clear hz
          go_wp2
          go_roundg gm
          case measure => omega
          case rel => exact ⟨i + 1, by rw [hs.out], by go_num, by omega, by omega, rfl, Lib.hid (by have := HI.out; omega)⟩
        · obtain rfl : i = N := by omega
          have q2 : ((i : Int) < (i : Int)) = False := eq_false (by omega)
          clear hz h2
          go_wp2
          go_ret
          exact ⟨rfl, rfl⟩
  | false =>
    rw [if_neg (by decide)]
    have e0 : shD v 0 = v := by unfold shD; simp
    go_enter Tryz.func31, Tryz.ntmps31
    go_wp2
    go_loopg [0, 7] 65 (fun gm v0 v7 wx => ∃ i : Nat, .int .u64 (shD v i) = v0 ∧ .int .u64 (i : Int) = v7 ∧ i ≤ 64 ∧ i ≤ N ∧ wx = w ∧ Hid (gm + i = 65))
    case atStart => exact ⟨0, by rw [e0], rfl, by omega, by omega, rfl, Lib.hid rfl⟩
    case round =>
      obtain ⟨i, rfl, rfl, hi, hiN, rfl, HI⟩ := hrel
      have hsr := shD_r v i H.out.1 H.out.2
      clear e0 h0 h1
      by_cases hz : shD v i = 0
      · have q1 : (shD v i != 0) = false := by rw [bne_eq_false_iff_eq]; exact hz
        have hr : shD v i = shD v N := by rw [hz, shD_z v i H.out.1 hz N hiN]
        have HR := Lib.hid hr
        clear hz hr
        obtain h2 | h2 : i < N ∨ i = N := by omega
        · have q2 : (i : Int) < (N : Int) := by omega
          go_wp2
          go_ret
          exact ⟨by first | (rw [← HR.out]; done) | (rw [← HR.out]; rfl), rfl⟩
        · have q2 : ((i : Int) < (N : Int)) = False := eq_false (by omega)
          have q3 : (i < N) = False := eq_false (by omega)
          go_wp2
          go_ret
          exact ⟨by first | (rw [← HR.out]; done) | (rw [← HR.out]; rfl), rfl⟩
      · have hi64 : i < 64 := by
          rcases Nat.lt_or_ge i 64 with h | h
          · exact h
          · obtain rfl : i = 64 := by omega
            exact absurd (shD_64 v H.out.1 H.out.2) hz
        have q1 : (shD v i != 0) = true := by rw [bne_iff_ne]; exact hz
        by_cases h2 : i < N
        · have q2 : (i : Int) < (N : Int) := by omega
          have e1 : IntKind.u64.wrap ((i : Int) + 1) = (i : Int) + 1 := by rw [IntKind.wrap_u64]; omega
          have hs := Lib.hid (shD_s v i H.out.1 hi64)
          obtain ⟨gm, rfl⟩ : ∃ q, gk = q + 1 := ⟨gk - 1, by have := HI.out; omega⟩
          obtain ⟨D, hD⟩ : ∃ D, shD v i = D := ⟨_, rfl⟩
          rw [hD] at q1 hsr hs ⊢
          have wd : IntKind.u64.wrap (D.tdiv 2) = D / 2 := by rw [Int.tdiv_eq_ediv_of_nonneg hsr.1, IntKind.wrap_u64]; omega
          clear hz hD
          go_wp2
          go_roundg gm
          case measure => omega
          case rel => exact ⟨i + 1, by rw [hs.out], by go_num, by omega, by omega, rfl, Lib.hid (by have := HI.out; omega)⟩
        · obtain rfl : i = N := by omega
          have q2 : ((i : Int) < (i : Int)) = False := eq_false (by omega)
          clear hz h2
          go_wp2
          go_ret
          exact ⟨rfl, rfl⟩
end Go.Proofs.YtbmnifnahbehbaaGreatDoor

/- The document's Scope.value. -/
set_option linter.unusedVariables false
set_option linter.unusedSimpArgs false
namespace Go.Proofs.YtbmnifnahbehbaaGreatDoor
open Go.RowKit Go.Lib Go.Proofs.YtbmnifnahbehbaaGreatDoorW.PrintWords Go.Proofs.YtbmnifnahbehbaaGreatDoorW.PrintMore Go.Proofs.YtbmnifnahbehbaaGreatDoorW.PrintLast
open AvP
/-- What an answer of the document's means. -/
def EvD (W : World) (r : EvR) (E : Ending) (w' : World) : Prop :=
  match r with
  | .ok x => E = .returned (.tuple #[.int .u64 x, .agg #[.int .i64 0, .int .i64 0]]) ∧ Below W.heap.size W w'
  | .error (a, y) => E = .returned (.tuple #[.int .u64 0, .agg #[.int .i64 a, .int .i64 y]]) ∧ y ≠ 0 ∧ Below W.heap.size W w'
abbrev zF : Obj := .cells #[.int .i64 0, .int .i64 0] 53
/-- Behind a call: the result's box and the answer's. -/
structure FS (W w1 wA : World) (fa fy : Int) : Prop where
  a : wA.heap[W.heap.size]? = some (.cells #[.int .i64 0, .int .i64 0] 53 (0, 0))
  b : Below W.heap.size W wA
  c : wA.heap[w1.heap.size]? = some (.cells #[.int .i64 fa, .int .i64 fy] 53 (0, 0))
  n : W.heap.size ≠ w1.heap.size
theorem FS.of {W w1 : World} (h : Below (W.alloc zF).heap.size (W.alloc zF) w1) (fa fy : Int) : FS W w1 (w1.alloc (.cells #[.int .i64 fa, .int .i64 fy] 53)) fa fy := by
  have h0 := (Below.refl W.heap.size W).alloc (Nat.le_refl _) zF
  have hs : (W.alloc zF).heap.size = W.heap.size + 1 := by simp
  have h1 := h0.trans (h.mono h0.size)
  refine ⟨blk_alloc (blk_below (blk_new W zF) h) _, h1.alloc h1.size _, blk_new _ _, ?_⟩
  have := h.size
  omega
theorem FS.fin {W w1 wA : World} {fa fy : Int} (h : FS W w1 wA fa fy) (x y : Int) : Below W.heap.size W ((wA.setCell ⟨W.heap.size, 0, none⟩ (.int .i64 x)).setCell ⟨W.heap.size, 1, none⟩ (.int .i64 y)).drew :=
  below_drew (Below.setCell (Below.setCell h.b (p := ⟨W.heap.size, 0, none⟩) (Nat.le_refl _) _) (p := ⟨W.heap.size, 1, none⟩) (Nat.le_refl _) _)
theorem xor_comm64 (x y : Int) : bits .xor .u64 x y = bits .xor .u64 y x := by unfold bits; simp only [BitVec.xor_comm]
theorem btw_shl (x y : Int) : btw ⟨#[60, 60]⟩ x y = shU x y.toNat := rfl
theorem btw_shr (x y : Int) : btw ⟨#[62, 62]⟩ x y = shD x y.toNat := rfl
set_option maxHeartbeats 4000000 in
set_option maxRecDepth 100000 in
theorem unD_c {W : World} {sc : Value} {b : Nat} {x : DTk} {ra : Addr} (nm : Tok → Option Int) {e : Ex} (hb : W.heap[b]? = some (.cells (dnode x (.pointer none) (.pointer (some ra))) 98 (0, 0))) (hs : sign (ab x) = true) (hr : ∀ v, ev nm e = .ok v → 0 ≤ v ∧ v < 18446744073709551616)
    (hc : ∀ w1, Below W.heap.size W w1 → Calls Tryz.prog 16 #[sc, .pointer (some ra)] w1 (EvD w1 (ev nm e))) :
    Calls Tryz.prog 16 #[sc, .pointer (some ⟨b, 0, none⟩)] W (EvD W (ev nm (.un (ab x) e))) := by
  have hB : ∀ w', Below W.heap.size W w' → w'.cell? ⟨b, 3, none⟩ = some (.string x.f3) ∧ w'.cell? ⟨b, 7, none⟩ = some (.pointer none) ∧ w'.cell? ⟨b, 8, none⟩ = some (.pointer (some ra)) := fun w' h => ⟨blk_cell (blk_below hb h) 3, blk_cell (blk_below hb h) 7, blk_cell (blk_below hb h) 8⟩
  have HB := Lib.hid hB
  have HC := Lib.hid hc
  have hA : Below W.heap.size W (W.alloc zF) := (Below.refl _ W).alloc (Nat.le_refl _) _
  obtain ⟨a3, a7, a8⟩ := hB _ hA
  have HA := Lib.hid hA
  clear hB hc hb hA
  rw [ev]
  cases hv : ev nm e with
  | error f =>
    obtain ⟨fa, fy⟩ := f
    rw [hv] at HC
    clear hr hv
    go_enter Tryz.func16, Tryz.ntmps16
    go_upto_region 11 with (first | (go_at_call 16; refine (HC.out _ HA.out).mono ?_; rintro E w1 ⟨rfl, hy, hb1⟩; have y9 : (fy != 0) = true := by rw [bne_iff_ne]; exact hy
                                     have HS0 := Lib.hid (FS.of hb1 fa fy); have HYY := Lib.hid hy; clear hy hb1))
    obtain ⟨wA, hwA⟩ : ∃ q, w1.alloc (.cells #[.int .i64 fa, .int .i64 fy] 53) = q := ⟨_, rfl⟩
    rw [hwA] at HS0 ⊢
    have HS := HS0
    have d0 := blk_cell HS.out.c 0
    have d1 := blk_cell HS.out.c 1
    have b0 := blk_cell HS.out.a 0
    have b1 := blk_cell HS.out.a 1
    have z0 := blk_frozen HS.out.a 0
    have z1 := blk_frozen HS.out.a 1
    have hne := HS.out.n
    clear hwA
    go_wp2
    go_region_held2 (fun w' => w'.cell? ⟨w1.heap.size, 0, none⟩ = some (.int .i64 fa) ∧ w'.cell? ⟨w1.heap.size, 1, none⟩ = some (.int .i64 fy)) (first | exact ⟨d0, d1⟩ | go_keep) (fail)
    go_wp2
    refine bodyPost_ret (results_tc rfl _ _ W.heap.size 53 #[.int .i64 fa, .int .i64 fy] (0, 0) _ rfl (blk_drew (blk_put (blk_put HS.out.a 0 _ rfl) 1 _ rfl)) Tryz.underlying53 rfl (by kernel_rfl)) rfl ?_
    exact ⟨rfl, HYY.out, HS.out.fin _ _⟩
  | ok v =>
    obtain ⟨v0, v1⟩ := hr v hv
    rw [hv] at HC
    dsimp only
    have hsg : x.f3 = ⟨#[45]⟩ ∨ x.f3 = ⟨#[43]⟩ ∨ x.f3 = ⟨#[126]⟩ := by
      unfold sign isM at hs
      simp only [Bool.or_eq_true, Bool.and_eq_true, decide_eq_true_iff] at hs
      rcases hs with (h | h) | h
      · exact .inl h.2
      · exact .inr (.inl h.2)
      · exact .inr (.inr h.2)
    have e1 : IntKind.u64.wrap v = v := by rw [IntKind.wrap_u64]; omega
    have hab : (ab x).t = x.f3 := rfl
    rw [hab]
    obtain ⟨S, hS⟩ : ∃ S, x.f3 = S := ⟨_, rfl⟩
    rw [hS] at hsg a3 HB ⊢
    obtain ⟨R, hR⟩ : ∃ R, unS S v = R := ⟨_, rfl⟩
    rw [hR]
    have HR := Lib.hid hR
    clear hr hv hs hS hab hR
    rcases hsg with rfl | rfl | rfl
    all_goals
      go_enter Tryz.func16, Tryz.ntmps16
      go_upto_region 12 with (first | (go_at_call 16; refine (HC.out _ HA.out).mono ?_; rintro E w1 ⟨rfl, hb1⟩; have HS0 := Lib.hid (FS.of hb1 0 0); clear hb1))
      obtain ⟨wA, hwA⟩ : ∃ q, w1.alloc (.cells #[.int .i64 0, .int .i64 0] 53) = q := ⟨_, rfl⟩
      rw [hwA] at HS0 ⊢
      have HS := HS0
      have d0 := blk_cell HS.out.c 0
      have d1 := blk_cell HS.out.c 1
      have b0 := blk_cell HS.out.a 0
      have b1 := blk_cell HS.out.a 1
      have z0 := blk_frozen HS.out.a 0
      have z1 := blk_frozen HS.out.a 1
      have hne := HS.out.n
      clear a3 a7 a8
      obtain ⟨a3, a7, a8⟩ := HB.out _ HS.out.b
      clear hwA
      go_wp2
      go_region_held2 (fun w' => w'.cell? ⟨w1.heap.size, 0, none⟩ = some (.int .i64 0) ∧ w'.cell? ⟨w1.heap.size, 1, none⟩ = some (.int .i64 0)) (first | exact ⟨d0, d1⟩ | go_keep) (fail)
      go_wp2
      refine bodyPost_ret (results_tc rfl _ _ W.heap.size 53 #[.int .i64 0, .int .i64 0] (0, 0) _ rfl (blk_drew (blk_put (blk_put HS.out.a 0 _ rfl) 1 _ rfl)) Tryz.underlying53 rfl (by kernel_rfl)) rfl ?_
      rw [← HR.out]
      exact ⟨by first | rfl | (rw [xor_comm64]; rfl) | (simp [unS]; done), HS.out.fin _ _⟩
set_option maxHeartbeats 8000000 in
set_option maxRecDepth 100000 in
theorem binD_c {W : World} {sc : Value} {b : Nat} {x : DTk} {la ra : Addr} (nm : Tok → Option Int) {l r : Ex} (hb : W.heap[b]? = some (.cells (dnode x (.pointer (some la)) (.pointer (some ra))) 98 (0, 0))) (hm : ten x.f3)
    (hx : ∀ v, ev nm l = .ok v → 0 ≤ v ∧ v < 18446744073709551616) (hy : ∀ v, ev nm r = .ok v → 0 ≤ v ∧ v < 18446744073709551616)
    (hl : ∀ w1, Below W.heap.size W w1 → Calls Tryz.prog 16 #[sc, .pointer (some la)] w1 (EvD w1 (ev nm l)))
    (hr : ∀ w1, Below W.heap.size W w1 → Calls Tryz.prog 16 #[sc, .pointer (some ra)] w1 (EvD w1 (ev nm r))) :
    Calls Tryz.prog 16 #[sc, .pointer (some ⟨b, 0, none⟩)] W (EvD W (ev nm (.bin (ab x) l r))) := by
  have hB : ∀ w', Below W.heap.size W w' → w'.cell? ⟨b, 1, none⟩ = some (.int .i64 x.f1) ∧ w'.cell? ⟨b, 3, none⟩ = some (.string x.f3) ∧ w'.cell? ⟨b, 7, none⟩ = some (.pointer (some la)) ∧ w'.cell? ⟨b, 8, none⟩ = some (.pointer (some ra)) := fun w' h => ⟨blk_cell (blk_below hb h) 1, blk_cell (blk_below hb h) 3, blk_cell (blk_below hb h) 7, blk_cell (blk_below hb h) 8⟩
  have HB := Lib.hid hB
  have HL := Lib.hid hl
  have HRR := Lib.hid hr
  have hA : Below W.heap.size W (W.alloc zF) := (Below.refl _ W).alloc (Nat.le_refl _) _
  obtain ⟨a1, a3, a7, a8⟩ := hB _ hA
  have HA := Lib.hid hA
  clear hB hl hr hb hA
  rw [ev]
  cases hvl : ev nm l with
  | error f =>
    obtain ⟨fa, fy⟩ := f
    rw [hvl] at HL
    clear hx hy hvl
    go_enter Tryz.func16, Tryz.ntmps16
    go_upto_region 7 with (first | (go_at_call 16; refine (HL.out _ HA.out).mono ?_; rintro E w1 ⟨rfl, hy, hb1⟩; have y9 : (fy != 0) = true := by rw [bne_iff_ne]; exact hy
                                    have HS0 := Lib.hid (FS.of hb1 fa fy); have HYY := Lib.hid hy; clear hy hb1))
    obtain ⟨wA, hwA⟩ : ∃ q, w1.alloc (.cells #[.int .i64 fa, .int .i64 fy] 53) = q := ⟨_, rfl⟩
    rw [hwA] at HS0 ⊢
    have HS := HS0
    have d0 := blk_cell HS.out.c 0
    have d1 := blk_cell HS.out.c 1
    have b0 := blk_cell HS.out.a 0
    have b1 := blk_cell HS.out.a 1
    have z0 := blk_frozen HS.out.a 0
    have z1 := blk_frozen HS.out.a 1
    have hne := HS.out.n
    clear hwA
    go_wp2
    go_region_held2 (fun w' => w'.cell? ⟨w1.heap.size, 0, none⟩ = some (.int .i64 fa) ∧ w'.cell? ⟨w1.heap.size, 1, none⟩ = some (.int .i64 fy)) (first | exact ⟨d0, d1⟩ | go_keep) (fail)
    go_wp2
    refine bodyPost_ret (results_tc rfl _ _ W.heap.size 53 #[.int .i64 fa, .int .i64 fy] (0, 0) _ rfl (blk_drew (blk_put (blk_put HS.out.a 0 _ rfl) 1 _ rfl)) Tryz.underlying53 rfl (by kernel_rfl)) rfl ?_
    exact ⟨rfl, HYY.out, HS.out.fin _ _⟩
  | ok u =>
    rw [hvl] at HL
    obtain ⟨u0, u1⟩ := hx u hvl
    clear hvl hx
    dsimp only
    cases hvr : ev nm r with
    | error f =>
      obtain ⟨fa, fy⟩ := f
      rw [hvr] at HRR
      clear hy hvr
      go_enter Tryz.func16, Tryz.ntmps16
      go_upto_region 9 with (first | (go_at_call 16; refine (HL.out _ HA.out).mono ?_; rintro E w1 ⟨rfl, hb1⟩; have HW1 := Lib.hid hb1; clear hb1))
      obtain ⟨wA, hwA⟩ : ∃ q, w1.alloc (.cells #[.int .i64 0, .int .i64 0] 53) = q := ⟨_, rfl⟩
      have hbA : Below (W.alloc zF).heap.size (W.alloc zF) wA := by rw [← hwA]; exact HW1.out.alloc HW1.out.size _
      rw [hwA]
      have HBA := Lib.hid hbA
      have hbB : Below W.heap.size W wA := HA.out.trans (hbA.mono HA.out.size)
      clear a1 a3 a7 a8
      obtain ⟨a1, a3, a7, a8⟩ := HB.out _ hbB
      have HBB := Lib.hid hbB
      clear hwA hbA hbB
      go_upto_region 11 with (first | (go_at_call 16; refine (HRR.out _ HBB.out).mono ?_; rintro E w2 ⟨rfl, hy, hb1⟩; have y9 : (fy != 0) = true := by rw [bne_iff_ne]; exact hy
                                       have HS0 := Lib.hid (FS.of (HBA.out.trans (hb1.mono HBA.out.size)) fa fy); have HYY := Lib.hid hy; clear hy hb1))
      obtain ⟨wB, hwB⟩ : ∃ q, w2.alloc (.cells #[.int .i64 fa, .int .i64 fy] 53) = q := ⟨_, rfl⟩
      rw [hwB] at HS0 ⊢
      have HS := HS0
      have d0 := blk_cell HS.out.c 0
      have d1 := blk_cell HS.out.c 1
      have b0 := blk_cell HS.out.a 0
      have b1 := blk_cell HS.out.a 1
      have z0 := blk_frozen HS.out.a 0
      have z1 := blk_frozen HS.out.a 1
      have hne := HS.out.n
      clear hwB
      go_wp2
      go_region_held2 (fun w' => w'.cell? ⟨w2.heap.size, 0, none⟩ = some (.int .i64 fa) ∧ w'.cell? ⟨w2.heap.size, 1, none⟩ = some (.int .i64 fy)) (first | exact ⟨d0, d1⟩ | go_keep) (fail)
      go_wp2
      refine bodyPost_ret (results_tc rfl _ _ W.heap.size 53 #[.int .i64 fa, .int .i64 fy] (0, 0) _ rfl (blk_drew (blk_put (blk_put HS.out.a 0 _ rfl) 1 _ rfl)) Tryz.underlying53 rfl (by kernel_rfl)) rfl ?_
      exact ⟨rfl, HYY.out, HS.out.fin _ _⟩
    | ok v =>
      rw [hvr] at HRR
      obtain ⟨v0, v1⟩ := hy v hvr
      clear hvr hy
      dsimp only
      have hab : (ab x).t = x.f3 := rfl
      have hab1 : (ab x).a = x.f1 := rfl
      rw [hab, hab1]
      obtain ⟨S, hS⟩ : ∃ S, x.f3 = S := ⟨_, rfl⟩
      rw [hS] at hm a3 HB ⊢
      obtain ⟨XA, hXA⟩ : ∃ XA, x.f1 = XA := ⟨_, rfl⟩
      rw [hXA] at a1 HB ⊢
      obtain ⟨RR, hRR⟩ : ∃ RR : EvR, (if v = 0 ∧ (S = ⟨#[47]⟩ ∨ S = ⟨#[37]⟩) then .error (XA, 84) else .ok (btw S u v)) = RR := ⟨_, rfl⟩
      rw [hRR]
      have HR := Lib.hid hRR
      have hsU := shU_r u v.toNat
      have hsD := shD_r u v.toNat u0 u1
      have HSH := Lib.hid (And.intro u0 (And.intro u1 (And.intro v0 v1)))
      clear hS hab hab1 hRR hXA hsU hsD
      go_enter Tryz.func16, Tryz.ntmps16
      go_upto_region 9 with (first | (go_at_call 16; refine (HL.out _ HA.out).mono ?_; rintro E w1 ⟨rfl, hb1⟩; have HW1 := Lib.hid hb1; clear hb1))
      obtain ⟨wA, hwA⟩ : ∃ q, w1.alloc (.cells #[.int .i64 0, .int .i64 0] 53) = q := ⟨_, rfl⟩
      have hbA : Below (W.alloc zF).heap.size (W.alloc zF) wA := by rw [← hwA]; exact HW1.out.alloc HW1.out.size _
      rw [hwA]
      have HBA := Lib.hid hbA
      have hbB : Below W.heap.size W wA := HA.out.trans (hbA.mono HA.out.size)
      clear a1 a3 a7 a8
      obtain ⟨a1, a3, a7, a8⟩ := HB.out _ hbB
      have HBB := Lib.hid hbB
      clear hwA hbA hbB
      go_upto_region 12 with (first | (go_at_call 16; refine (HRR.out _ HBB.out).mono ?_; rintro E w2 ⟨rfl, hb1⟩; have HS0 := Lib.hid (FS.of (HBA.out.trans (hb1.mono HBA.out.size)) 0 0); clear hb1))
      obtain ⟨wB, hwB⟩ : ∃ q, w2.alloc (.cells #[.int .i64 0, .int .i64 0] 53) = q := ⟨_, rfl⟩
      rw [hwB] at HS0 ⊢
      have HS := HS0
      have d0 := blk_cell HS.out.c 0
      have d1 := blk_cell HS.out.c 1
      have b0 := blk_cell HS.out.a 0
      have b1 := blk_cell HS.out.a 1
      have z0 := blk_frozen HS.out.a 0
      have z1 := blk_frozen HS.out.a 1
      have hne := HS.out.n
      clear a1 a3 a7 a8
      obtain ⟨a1, a3, a7, a8⟩ := HB.out _ HS.out.b
      clear hwB a7 a8
      by_cases hv0 : v = 0
      · subst hv0
        rcases hm with rfl | rfl | rfl | rfl | rfl | rfl | rfl | rfl | rfl | rfl
        · have hRR : RR = .ok (btw ⟨#[124]⟩ u 0) := by rw [← HR.out, if_neg (fun h => by rcases h.2 with h | h <;> exact absurd h (by decide))]
          clear HR
          subst hRR
          go_wp2
          go_region_held2 (fun w' => w'.cell? ⟨w2.heap.size, 0, none⟩ = some (.int .i64 0) ∧ w'.cell? ⟨w2.heap.size, 1, none⟩ = some (.int .i64 0)) (first | exact ⟨d0, d1⟩ | go_keep) (fail)
          go_wp2
          refine bodyPost_ret (results_tc rfl _ _ W.heap.size 53 #[.int .i64 0, .int .i64 0] (0, 0) _ rfl (blk_drew (blk_put (blk_put HS.out.a 0 _ rfl) 1 _ rfl)) Tryz.underlying53 rfl (by kernel_rfl)) rfl ?_
          exact ⟨rfl, HS.out.fin _ _⟩
        · have hRR : RR = .ok (btw ⟨#[94]⟩ u 0) := by rw [← HR.out, if_neg (fun h => by rcases h.2 with h | h <;> exact absurd h (by decide))]
          clear HR
          subst hRR
          go_wp2
          go_region_held2 (fun w' => w'.cell? ⟨w2.heap.size, 0, none⟩ = some (.int .i64 0) ∧ w'.cell? ⟨w2.heap.size, 1, none⟩ = some (.int .i64 0)) (first | exact ⟨d0, d1⟩ | go_keep) (fail)
          go_wp2
          refine bodyPost_ret (results_tc rfl _ _ W.heap.size 53 #[.int .i64 0, .int .i64 0] (0, 0) _ rfl (blk_drew (blk_put (blk_put HS.out.a 0 _ rfl) 1 _ rfl)) Tryz.underlying53 rfl (by kernel_rfl)) rfl ?_
          exact ⟨rfl, HS.out.fin _ _⟩
        · have hRR : RR = .ok (btw ⟨#[38]⟩ u 0) := by rw [← HR.out, if_neg (fun h => by rcases h.2 with h | h <;> exact absurd h (by decide))]
          clear HR
          subst hRR
          go_wp2
          go_region_held2 (fun w' => w'.cell? ⟨w2.heap.size, 0, none⟩ = some (.int .i64 0) ∧ w'.cell? ⟨w2.heap.size, 1, none⟩ = some (.int .i64 0)) (first | exact ⟨d0, d1⟩ | go_keep) (fail)
          go_wp2
          refine bodyPost_ret (results_tc rfl _ _ W.heap.size 53 #[.int .i64 0, .int .i64 0] (0, 0) _ rfl (blk_drew (blk_put (blk_put HS.out.a 0 _ rfl) 1 _ rfl)) Tryz.underlying53 rfl (by kernel_rfl)) rfl ?_
          exact ⟨rfl, HS.out.fin _ _⟩
        · have hRR : RR = .ok (btw ⟨#[60, 60]⟩ u 0) := by rw [← HR.out, if_neg (fun h => by rcases h.2 with h | h <;> exact absurd h (by decide))]
          clear HR
          subst hRR
          go_wp2
          go_region_held2 (fun w' => w'.cell? ⟨w2.heap.size, 0, none⟩ = some (.int .i64 0) ∧ w'.cell? ⟨w2.heap.size, 1, none⟩ = some (.int .i64 0)) (first | exact ⟨d0, d1⟩ | go_keep) (first | (go_at_call 31; refine (shift_c _ _ _ _ HSH.out.1 HSH.out.2.1 HSH.out.2.2.1 HSH.out.2.2.2).mono ?_; rintro E wq ⟨rfl, rfl⟩))
          go_wp2
          refine bodyPost_ret (results_tc rfl _ _ W.heap.size 53 #[.int .i64 0, .int .i64 0] (0, 0) _ rfl (blk_drew (blk_put (blk_put HS.out.a 0 _ rfl) 1 _ rfl)) Tryz.underlying53 rfl (by kernel_rfl)) rfl ?_
          exact ⟨rfl, HS.out.fin _ _⟩
        · have hRR : RR = .ok (btw ⟨#[62, 62]⟩ u 0) := by rw [← HR.out, if_neg (fun h => by rcases h.2 with h | h <;> exact absurd h (by decide))]
          clear HR
          subst hRR
          go_wp2
          go_region_held2 (fun w' => w'.cell? ⟨w2.heap.size, 0, none⟩ = some (.int .i64 0) ∧ w'.cell? ⟨w2.heap.size, 1, none⟩ = some (.int .i64 0)) (first | exact ⟨d0, d1⟩ | go_keep) (first | (go_at_call 31; refine (shift_c _ _ _ _ HSH.out.1 HSH.out.2.1 HSH.out.2.2.1 HSH.out.2.2.2).mono ?_; rintro E wq ⟨rfl, rfl⟩))
          go_wp2
          refine bodyPost_ret (results_tc rfl _ _ W.heap.size 53 #[.int .i64 0, .int .i64 0] (0, 0) _ rfl (blk_drew (blk_put (blk_put HS.out.a 0 _ rfl) 1 _ rfl)) Tryz.underlying53 rfl (by kernel_rfl)) rfl ?_
          exact ⟨rfl, HS.out.fin _ _⟩
        · have hRR : RR = .ok (btw ⟨#[43]⟩ u 0) := by rw [← HR.out, if_neg (fun h => by rcases h.2 with h | h <;> exact absurd h (by decide))]
          clear HR
          subst hRR
          go_wp2
          go_region_held2 (fun w' => w'.cell? ⟨w2.heap.size, 0, none⟩ = some (.int .i64 0) ∧ w'.cell? ⟨w2.heap.size, 1, none⟩ = some (.int .i64 0)) (first | exact ⟨d0, d1⟩ | go_keep) (fail)
          go_wp2
          refine bodyPost_ret (results_tc rfl _ _ W.heap.size 53 #[.int .i64 0, .int .i64 0] (0, 0) _ rfl (blk_drew (blk_put (blk_put HS.out.a 0 _ rfl) 1 _ rfl)) Tryz.underlying53 rfl (by kernel_rfl)) rfl ?_
          exact ⟨by rw [show btw ⟨#[43]⟩ u 0 = IntKind.u64.wrap u from by show IntKind.u64.wrap (u + 0) = _; rw [Int.add_zero]]; rfl, HS.out.fin _ _⟩
        · have hRR : RR = .ok (btw ⟨#[45]⟩ u 0) := by rw [← HR.out, if_neg (fun h => by rcases h.2 with h | h <;> exact absurd h (by decide))]
          clear HR
          subst hRR
          go_wp2
          go_region_held2 (fun w' => w'.cell? ⟨w2.heap.size, 0, none⟩ = some (.int .i64 0) ∧ w'.cell? ⟨w2.heap.size, 1, none⟩ = some (.int .i64 0)) (first | exact ⟨d0, d1⟩ | go_keep) (fail)
          go_wp2
          refine bodyPost_ret (results_tc rfl _ _ W.heap.size 53 #[.int .i64 0, .int .i64 0] (0, 0) _ rfl (blk_drew (blk_put (blk_put HS.out.a 0 _ rfl) 1 _ rfl)) Tryz.underlying53 rfl (by kernel_rfl)) rfl ?_
          exact ⟨by rw [show btw ⟨#[45]⟩ u 0 = IntKind.u64.wrap u from by show IntKind.u64.wrap (u - 0) = _; rw [Int.sub_zero]]; rfl, HS.out.fin _ _⟩
        · have hRR : RR = .ok (btw ⟨#[42]⟩ u 0) := by rw [← HR.out, if_neg (fun h => by rcases h.2 with h | h <;> exact absurd h (by decide))]
          clear HR
          subst hRR
          go_wp2
          go_region_held2 (fun w' => w'.cell? ⟨w2.heap.size, 0, none⟩ = some (.int .i64 0) ∧ w'.cell? ⟨w2.heap.size, 1, none⟩ = some (.int .i64 0)) (first | exact ⟨d0, d1⟩ | go_keep) (fail)
          go_wp2
          refine bodyPost_ret (results_tc rfl _ _ W.heap.size 53 #[.int .i64 0, .int .i64 0] (0, 0) _ rfl (blk_drew (blk_put (blk_put HS.out.a 0 _ rfl) 1 _ rfl)) Tryz.underlying53 rfl (by kernel_rfl)) rfl ?_
          exact ⟨by rw [show btw ⟨#[42]⟩ u 0 = IntKind.u64.wrap 0 from by show IntKind.u64.wrap (u * 0) = _; rw [Int.mul_zero]]; rfl, HS.out.fin _ _⟩
        · have hRR : RR = .error (XA, 84) := by rw [← HR.out, if_pos ⟨rfl, .inl rfl⟩]
          clear HR
          subst hRR
          go_wp2
          go_region_held2 (fun w' => w'.cell? ⟨b, 1, none⟩ = some (.int .i64 XA)) (first | exact a1 | exact (HB.out _ (HS.out.fin _ _)).1 | go_keep) (fail)
          go_wp2
          refine bodyPost_ret (results_tc rfl _ _ W.heap.size 53 #[.int .i64 XA, .int .i64 84] (0, 0) _ rfl (blk_drew (blk_put (blk_put HS.out.a 0 _ rfl) 1 _ rfl)) Tryz.underlying53 rfl (by kernel_rfl)) rfl ?_
          exact ⟨rfl, by decide, HS.out.fin _ _⟩
        · have hRR : RR = .error (XA, 84) := by rw [← HR.out, if_pos ⟨rfl, .inr rfl⟩]
          clear HR
          subst hRR
          go_wp2
          go_region_held2 (fun w' => w'.cell? ⟨b, 1, none⟩ = some (.int .i64 XA)) (first | exact a1 | exact (HB.out _ (HS.out.fin _ _)).1 | go_keep) (fail)
          go_wp2
          refine bodyPost_ret (results_tc rfl _ _ W.heap.size 53 #[.int .i64 XA, .int .i64 84] (0, 0) _ rfl (blk_drew (blk_put (blk_put HS.out.a 0 _ rfl) 1 _ rfl)) Tryz.underlying53 rfl (by kernel_rfl)) rfl ?_
          exact ⟨rfl, by decide, HS.out.fin _ _⟩
      · have v9 : (v == 0) = false := by rw [beq_eq_false_iff_ne]; exact hv0
        have hRR : RR = .ok (btw S u v) := by rw [← HR.out, if_neg (fun h => hv0 h.1)]
        clear HR
        subst hRR
        have td : IntKind.u64.wrap (u.tdiv v) = IntKind.u64.wrap (u.tdiv v) := rfl
        clear td
        rcases hm with rfl | rfl | rfl | rfl | rfl | rfl | rfl | rfl | rfl | rfl
        · go_wp2
          go_region_held2 (fun w' => w'.cell? ⟨w2.heap.size, 0, none⟩ = some (.int .i64 0) ∧ w'.cell? ⟨w2.heap.size, 1, none⟩ = some (.int .i64 0)) (first | exact ⟨d0, d1⟩ | go_keep) (fail)
          go_wp2
          refine bodyPost_ret (results_tc rfl _ _ W.heap.size 53 #[.int .i64 0, .int .i64 0] (0, 0) _ rfl (blk_drew (blk_put (blk_put HS.out.a 0 _ rfl) 1 _ rfl)) Tryz.underlying53 rfl (by kernel_rfl)) rfl ?_
          exact ⟨rfl, HS.out.fin _ _⟩
        · go_wp2
          go_region_held2 (fun w' => w'.cell? ⟨w2.heap.size, 0, none⟩ = some (.int .i64 0) ∧ w'.cell? ⟨w2.heap.size, 1, none⟩ = some (.int .i64 0)) (first | exact ⟨d0, d1⟩ | go_keep) (fail)
          go_wp2
          refine bodyPost_ret (results_tc rfl _ _ W.heap.size 53 #[.int .i64 0, .int .i64 0] (0, 0) _ rfl (blk_drew (blk_put (blk_put HS.out.a 0 _ rfl) 1 _ rfl)) Tryz.underlying53 rfl (by kernel_rfl)) rfl ?_
          exact ⟨rfl, HS.out.fin _ _⟩
        · go_wp2
          go_region_held2 (fun w' => w'.cell? ⟨w2.heap.size, 0, none⟩ = some (.int .i64 0) ∧ w'.cell? ⟨w2.heap.size, 1, none⟩ = some (.int .i64 0)) (first | exact ⟨d0, d1⟩ | go_keep) (fail)
          go_wp2
          refine bodyPost_ret (results_tc rfl _ _ W.heap.size 53 #[.int .i64 0, .int .i64 0] (0, 0) _ rfl (blk_drew (blk_put (blk_put HS.out.a 0 _ rfl) 1 _ rfl)) Tryz.underlying53 rfl (by kernel_rfl)) rfl ?_
          exact ⟨rfl, HS.out.fin _ _⟩
        · go_wp2
          go_region_held2 (fun w' => w'.cell? ⟨w2.heap.size, 0, none⟩ = some (.int .i64 0) ∧ w'.cell? ⟨w2.heap.size, 1, none⟩ = some (.int .i64 0)) (first | exact ⟨d0, d1⟩ | go_keep) (first | (go_at_call 31; refine (shift_c _ _ _ _ HSH.out.1 HSH.out.2.1 HSH.out.2.2.1 HSH.out.2.2.2).mono ?_; rintro E wq ⟨rfl, rfl⟩))
          go_wp2
          refine bodyPost_ret (results_tc rfl _ _ W.heap.size 53 #[.int .i64 0, .int .i64 0] (0, 0) _ rfl (blk_drew (blk_put (blk_put HS.out.a 0 _ rfl) 1 _ rfl)) Tryz.underlying53 rfl (by kernel_rfl)) rfl ?_
          exact ⟨rfl, HS.out.fin _ _⟩
        · go_wp2
          go_region_held2 (fun w' => w'.cell? ⟨w2.heap.size, 0, none⟩ = some (.int .i64 0) ∧ w'.cell? ⟨w2.heap.size, 1, none⟩ = some (.int .i64 0)) (first | exact ⟨d0, d1⟩ | go_keep) (first | (go_at_call 31; refine (shift_c _ _ _ _ HSH.out.1 HSH.out.2.1 HSH.out.2.2.1 HSH.out.2.2.2).mono ?_; rintro E wq ⟨rfl, rfl⟩))
          go_wp2
          refine bodyPost_ret (results_tc rfl _ _ W.heap.size 53 #[.int .i64 0, .int .i64 0] (0, 0) _ rfl (blk_drew (blk_put (blk_put HS.out.a 0 _ rfl) 1 _ rfl)) Tryz.underlying53 rfl (by kernel_rfl)) rfl ?_
          exact ⟨rfl, HS.out.fin _ _⟩
        · go_wp2
          go_region_held2 (fun w' => w'.cell? ⟨w2.heap.size, 0, none⟩ = some (.int .i64 0) ∧ w'.cell? ⟨w2.heap.size, 1, none⟩ = some (.int .i64 0)) (first | exact ⟨d0, d1⟩ | go_keep) (fail)
          go_wp2
          refine bodyPost_ret (results_tc rfl _ _ W.heap.size 53 #[.int .i64 0, .int .i64 0] (0, 0) _ rfl (blk_drew (blk_put (blk_put HS.out.a 0 _ rfl) 1 _ rfl)) Tryz.underlying53 rfl (by kernel_rfl)) rfl ?_
          exact ⟨rfl, HS.out.fin _ _⟩
        · go_wp2
          go_region_held2 (fun w' => w'.cell? ⟨w2.heap.size, 0, none⟩ = some (.int .i64 0) ∧ w'.cell? ⟨w2.heap.size, 1, none⟩ = some (.int .i64 0)) (first | exact ⟨d0, d1⟩ | go_keep) (fail)
          go_wp2
          refine bodyPost_ret (results_tc rfl _ _ W.heap.size 53 #[.int .i64 0, .int .i64 0] (0, 0) _ rfl (blk_drew (blk_put (blk_put HS.out.a 0 _ rfl) 1 _ rfl)) Tryz.underlying53 rfl (by kernel_rfl)) rfl ?_
          exact ⟨rfl, HS.out.fin _ _⟩
        · go_wp2
          go_region_held2 (fun w' => w'.cell? ⟨w2.heap.size, 0, none⟩ = some (.int .i64 0) ∧ w'.cell? ⟨w2.heap.size, 1, none⟩ = some (.int .i64 0)) (first | exact ⟨d0, d1⟩ | go_keep) (fail)
          go_wp2
          refine bodyPost_ret (results_tc rfl _ _ W.heap.size 53 #[.int .i64 0, .int .i64 0] (0, 0) _ rfl (blk_drew (blk_put (blk_put HS.out.a 0 _ rfl) 1 _ rfl)) Tryz.underlying53 rfl (by kernel_rfl)) rfl ?_
          exact ⟨rfl, HS.out.fin _ _⟩
        · go_wp2
          go_region_held2 (fun w' => w'.cell? ⟨w2.heap.size, 0, none⟩ = some (.int .i64 0) ∧ w'.cell? ⟨w2.heap.size, 1, none⟩ = some (.int .i64 0)) (first | exact ⟨d0, d1⟩ | go_keep) (fail)
          go_wp2
          refine bodyPost_ret (results_tc rfl _ _ W.heap.size 53 #[.int .i64 0, .int .i64 0] (0, 0) _ rfl (blk_drew (blk_put (blk_put HS.out.a 0 _ rfl) 1 _ rfl)) Tryz.underlying53 rfl (by kernel_rfl)) rfl ?_
          exact ⟨rfl, HS.out.fin _ _⟩
        · go_wp2
          go_region_held2 (fun w' => w'.cell? ⟨w2.heap.size, 0, none⟩ = some (.int .i64 0) ∧ w'.cell? ⟨w2.heap.size, 1, none⟩ = some (.int .i64 0)) (first | exact ⟨d0, d1⟩ | go_keep) (fail)
          go_wp2
          refine bodyPost_ret (results_tc rfl _ _ W.heap.size 53 #[.int .i64 0, .int .i64 0] (0, 0) _ rfl (blk_drew (blk_put (blk_put HS.out.a 0 _ rfl) 1 _ rfl)) Tryz.underlying53 rfl (by kernel_rfl)) rfl ?_
          exact ⟨rfl, HS.out.fin _ _⟩
end Go.Proofs.YtbmnifnahbehbaaGreatDoor

/- The document's Scope.local, Scope.leaf, Scope.value of a tree. -/
set_option linter.unusedVariables false
set_option linter.unusedSimpArgs false
namespace Go.Proofs.YtbmnifnahbehbaaGreatDoor
open Go.RowKit Go.Lib Go.Proofs.YtbmnifnahbehbaaGreatDoorW.PrintWords Go.Proofs.YtbmnifnahbehbaaGreatDoorW.PrintMore Go.Proofs.YtbmnifnahbehbaaGreatDoorW.PrintLast
open AvP
def kKn : Kd (ByteArray × Int) := Kd.iso (Kd.pair Kd.string (Kd.pair (Kd.int .u64) (Kd.pair Kd.bool Kd.bool))) (fun x : ByteArray × Int => (x.1, x.2, true, false))
/-- A known name of the row. -/
theorem kn_at {w : World} {A : Option Addr} {n i : Nat} {l : List (ByteArray × Int)} {x : ByteArray × Int} (h : Kd.C kKn w A n l) (hx : l[i]? = some x) : ∃ ad, A = some ad ∧ i < n ∧ w.cell? (ad.add (i * 4)) = some (.string x.1) ∧ w.cell? ⟨(ad.add (i * 4)).block, (ad.add (i * 4)).off + 1, none⟩ = some (.int .u64 x.2) ∧ w.cell? ⟨(ad.add (i * 4)).block, (ad.add (i * 4)).off + 2, none⟩ = some (.bool true) := by
  have hil : i < l.length := (List.getElem?_eq_some_iff.1 hx).1
  have hn : l.length = n := h.1
  obtain ⟨ad, c, e, _, hK, hc0⟩ := Kd.C_get h (⟨#[]⟩, 0) (i : Int) (by omega) (by omega)
  rw [Int.toNat_natCast] at hK hc0
  have hg : l.getD i (⟨#[]⟩, 0) = x := by rw [List.getD_eq_getElem?_getD, hx]; rfl
  rw [hg] at hK
  have hc : ∀ j u, c[j]? = some u → w.cell? (ad.add (i * 4 + j)) = some u := hc0
  obtain ⟨_, _, rfl, rfl, ⟨_, _, rfl, rfl, ⟨_, _, rfl, rfl, rfl⟩⟩⟩ := hK
  exact ⟨ad, e, by omega, hc 0 _ rfl, by rw [← add_field _ _ 1 (by omega)]; exact hc 1 _ rfl, by rw [← add_field _ _ 2 (by omega)]; exact hc 2 _ rfl⟩
/-- The scope's box. -/
def SC (sc : Nat) (A : Option Addr) (n cp : Nat) (W : World) : Prop := W.heap[sc]? = some (.cells #[.slice A n cp, .string ⟨#[]⟩, .int .u64 0, .bool false, .bool false, .slice none 0 0, .int .i64 0, .bool false] 68 (0, 0))
def aggD (x : DTk) : Value := .agg #[.int .i64 x.f0, .int .i64 x.f1, .int .i64 x.f2, .string x.f3, .string x.f4, .int .u64 x.f5, .bool x.f6]
set_option maxHeartbeats 4000000 in
set_option maxRecDepth 100000 in
theorem local_c {W : World} {sc n cp : Nat} {A : Option Addr} (x : DTk) (h : SC sc A n cp W) : Calls Tryz.prog 55 #[.pointer (some ⟨sc, 0, none⟩), aggD x] W fun e w' => e = .returned (.tuple #[.int .u64 0, .bool false]) ∧ Below W.heap.size W w' := by
  have hB : ∀ w', Below W.heap.size W w' → w'.cell? ⟨sc, 5, none⟩ = some (.slice none 0 0) := fun w' hb => blk_cell (blk_below h hb) 5
  obtain ⟨a, b, c, d, e, f, g⟩ := x
  unfold aggD
  dsimp only
  have hA := (Below.refl W.heap.size W).alloc (Nat.le_refl _) (.cells #[.int .i64 a, .int .i64 b, .int .i64 c, .string d, .string e, .int .u64 f, .bool g] 58)
  have q5 := hB _ hA
  have HA := Lib.hid hA
  have E0 : (d.toList == [98]) = decide (d = ⟨#[98]⟩) := by rw [← beq_dec, show (⟨#[98]⟩ : ByteArray).toList = [98] by rw [ByteArray.toList_eq]]
  clear h hB hA
  by_cases hd : d = ⟨#[98]⟩
  · rw [decide_eq_true hd] at E0
    clear hd
    go_enter Tryz.func55, Tryz.ntmps55
    go_wp2
    refine wp_loop_rounds 1 ?_
    rw [rounds_succ]
    go_wp2
    go_ret2
    exact ⟨rfl, HA.out⟩
  · rw [decide_eq_false hd] at E0
    clear hd
    go_enter Tryz.func55, Tryz.ntmps55
    go_wp2
    refine wp_loop_rounds 1 ?_
    rw [rounds_succ]
    go_wp2
    go_ret2
    exact ⟨rfl, HA.out⟩
/-- What leaf's walk keeps: the token's box, the answer's box, the scope. -/
structure LF (W : World) (sc n cp : Nat) (A : Option Addr) (x : DTk) (l : List (ByteArray × Int)) (wx : World) : Prop where
  b : Below W.heap.size W wx
  t : wx.heap[W.heap.size]? = some (.cells (dtokL x).toArray 58 (0, 0))
  f : wx.heap[W.heap.size + 1]? = some (.cells #[.int .i64 0, .int .i64 0] 53 (0, 0))
  s : SC sc A n cp wx
  c : Kd.C kKn wx A n l
theorem LF.below {W wx wy : World} {sc n cp : Nat} {A : Option Addr} {x : DTk} {l : List (ByteArray × Int)} (h : LF W sc n cp A x l wx) (hb : Below wx.heap.size wx wy) : LF W sc n cp A x l wy :=
  ⟨h.b.trans (hb.mono h.b.size), blk_below h.t hb, blk_below h.f hb, blk_below h.s hb, Kd.C_below h.c hb⟩
theorem LF.fin {W wx : World} {sc n cp : Nat} {A : Option Addr} {x : DTk} {l : List (ByteArray × Int)} (h : LF W sc n cp A x l wx) (a y : Int) : Below W.heap.size W ((wx.setCell ⟨W.heap.size + 1, 0, none⟩ (.int .i64 a)).setCell ⟨W.heap.size + 1, 1, none⟩ (.int .i64 y)) :=
  Below.setCell (Below.setCell h.b (p := ⟨W.heap.size + 1, 0, none⟩) (Nat.le_succ _) _) (p := ⟨W.heap.size + 1, 1, none⟩) (Nat.le_succ _) _
theorem LF.of {W : World} {sc n cp : Nat} {A : Option Addr} {x : DTk} {l : List (ByteArray × Int)} (h : SC sc A n cp W) (hl : Kd.C kKn W A n l) : LF W sc n cp A x l ((W.alloc (.cells (dtokL x).toArray 58)).alloc zF) := by
  have h1 := (Below.refl W.heap.size W).alloc (Nat.le_refl _) (.cells (dtokL x).toArray 58)
  have h2 := h1.alloc h1.size zF
  have hs : (W.alloc (.cells (dtokL x).toArray 58)).heap.size = W.heap.size + 1 := by simp
  refine ⟨h2, blk_alloc (blk_new W _) _, ?_, blk_below h h2, Kd.C_below hl h2⟩
  rw [← hs]
  exact blk_new _ _
set_option maxHeartbeats 8000000 in
set_option maxRecDepth 100000 in
theorem leafD_c {W : World} {sc n cp : Nat} {A : Option Addr} {l : List (ByteArray × Int)} (h : SC sc A n cp W) (hl : Kd.C kKn W A n l) (hn : n ≤ 1000000000) (x : DTk) (hk : x.f0 = 1 ∨ x.f0 = 2 ∨ x.f0 = 3 ∨ x.f0 = 4) :
    Calls Tryz.prog 30 #[.pointer (some ⟨sc, 0, none⟩), aggD x] W (EvD W (ev (named l) (.leaf (ab x)))) := by
  have hF : LF W sc n cp A x l ((W.alloc (.cells (dtokL x).toArray 58)).alloc zF) := LF.of h hl
  have HF := Lib.hid hF
  have hloc := fun w' (hw : Below W.heap.size W w') => local_c x (blk_below h hw : SC sc A n cp w')
  have HLC := Lib.hid hloc
  have HN := Lib.hid (And.intro hl.1 hn)
  unfold aggD at hloc ⊢
  obtain ⟨W2, hW2⟩ : ∃ q, (W.alloc (.cells #[.int .i64 x.f0, .int .i64 x.f1, .int .i64 x.f2, .string x.f3, .string x.f4, .int .u64 x.f5, .bool x.f6] 58)).alloc zF = q := ⟨_, rfl⟩
  have HW2 := Lib.hid hW2
  have E0 : (x.f3.toList == [46]) = decide (x.f3 = ⟨#[46]⟩) := by rw [← beq_dec, show (⟨#[46]⟩ : ByteArray).toList = [46] by rw [ByteArray.toList_eq]]
  clear hF hloc h hl hn hW2
  by_cases h24 : x.f0 = 2 ∨ x.f0 = 4
  · have hv : ev (named l) (.leaf (ab x)) = .ok x.f5 := by
      rw [ev, if_pos]
      · rfl
      rcases h24 with h | h
      · left; show kmap x.f0 = 1; rw [h]; rfl
      · right; show kmap x.f0 = 4; rw [h]; rfl
    rw [hv]
    have hc : (x.f0 == 2) = true ∨ (x.f0 == 2) = false ∧ (x.f0 == 4) = true := by
      rcases h24 with h | h
      · exact .inl (by simp [h])
      · exact .inr ⟨by simp [h], by simp [h]⟩
    clear h24 hv hk E0 HLC
    rcases hc with h2 | ⟨h2, h4⟩
    all_goals
      go_enter Tryz.func30, Tryz.ntmps30
      go_wp2
      refine bodyPost_ret (results_tc rfl _ _ (W.heap.size + 1) 53 #[.int .i64 0, .int .i64 0] (0, 0) _ rfl HF.out.f Tryz.underlying53 rfl (by kernel_rfl)) rfl ?_
      exact ⟨rfl, HF.out.b⟩
  · have h2 : (x.f0 == 2) = false := by rw [beq_eq_false_iff_ne]; exact fun h => h24 (.inl h)
    have h4 : (x.f0 == 4) = false := by rw [beq_eq_false_iff_ne]; exact fun h => h24 (.inr h)
    have hF2 : LF W sc n cp A x l W2 := by rw [← HW2.out]; exact HF.out
    have HF2 := Lib.hid hF2
    obtain ⟨d0, d1, d2, d3, d4, d5, d6⟩ := db_cells (show DBox W2 W.heap.size x from hF2.t)
    by_cases h3 : x.f0 = 3
    · have hv : ev (named l) (.leaf (ab x)) = .error (x.f1, 82) := by
        have hkk : (ab x).k = 2 := by show kmap x.f0 = 2; rw [h3]; rfl
        rw [ev, if_neg (by rw [hkk]; decide)]
        have : named l (ab x) = none := by unfold named; rw [if_neg (fun hh => by rw [hkk] at hh; exact absurd hh.1 (by decide))]
        rw [this]
        rfl
      rw [hv]
      have h3' : (x.f0 == 3) = true := by simp [h3]
      clear hv h24 h3 hk hF2
      go_enter Tryz.func30, Tryz.ntmps30
      go_upto_region 10 with (fail)
      have hw2 := HW2.out
      unfold zF at hw2
      rw [hw2]
      clear hw2
      go_upto_region 16 with (first
        | (go_at_call 55; refine (HLC.out _ HF2.out.b).mono ?_; rintro E w3 ⟨rfl, hd⟩; have HF3 := Lib.hid (HF2.out.below hd); clear hd))
      clear d0 d1 d2 d3 d4 d5 d6
      have t1 := blk_cell HF3.out.t 1
      have h9 : W.heap.size ≠ W.heap.size + 1 := by omega
      have f0_ := blk_cell HF3.out.f 0
      have f1_ := blk_cell HF3.out.f 1
      have z0 := blk_frozen HF3.out.f 0
      have z1 := blk_frozen HF3.out.f 1
      go_wp2
      go_region_held2 (fun w' => w'.cell? ⟨W.heap.size, 1, none⟩ = some (.int .i64 x.f1)) (first | exact t1 | exact blk_cell (blk_drew (blk_far (blk_far HF3.out.t (p := ⟨W.heap.size + 1, 0, none⟩) h9 _) (p := ⟨W.heap.size + 1, 1, none⟩) h9 _)) 1 | go_keep) (fail)
      go_wp2
      refine bodyPost_ret (results_tc rfl _ _ (W.heap.size + 1) 53 #[.int .i64 x.f1, .int .i64 82] (0, 0) _ rfl (blk_drew (blk_put (blk_put HF3.out.f 0 _ rfl) 1 _ rfl)) Tryz.underlying53 rfl (by kernel_rfl)) rfl ?_
      exact ⟨rfl, by decide, below_drew (HF3.out.fin _ _)⟩
    · have h1 : x.f0 = 1 := by omega
      have h3' : (x.f0 == 3) = false := by simp [h1]
      have hkk : (ab x).k = 0 := by show kmap x.f0 = 0; rw [h1]; rfl
      have hv0 : ev (named l) (.leaf (ab x)) = match named l (ab x) with | some v => .ok v | none => .error (x.f1, 82) := by
        rw [ev, if_neg (by rw [hkk]; decide)]
        rfl
      have hnm : named l (ab x) = if x.f3 ≠ ⟨#[46]⟩ then find x.f3 l else none := by
        unfold named
        by_cases h : x.f3 = ⟨#[46]⟩
        · rw [if_neg (fun hh => hh.2 h), if_neg (fun hh => hh h)]
        · rw [if_pos ⟨hkk, h⟩, if_pos h]
          rfl
      clear h24 h3 hk hkk h1
      by_cases hd : x.f3 = ⟨#[46]⟩
      · rw [if_neg (fun hh => hh hd)] at hnm
        rw [hv0, hnm]
        dsimp only
        rw [decide_eq_true hd] at E0
        have HF3 := HF2
        have s3 := blk_cell hF2.s 3
        clear hd hnm hv0 hF2
        go_enter Tryz.func30, Tryz.ntmps30
        go_upto_region 14 with (fail)
        have hw2 := HW2.out
        unfold zF at hw2
        rw [hw2]
        clear hw2
        go_upto_region 16 with (fail)
        clear d0 d1 d2 d3 d4 d5 d6 s3
        have t1 := blk_cell HF3.out.t 1
        have h9 : W.heap.size ≠ W.heap.size + 1 := by omega
        have f0_ := blk_cell HF3.out.f 0
        have f1_ := blk_cell HF3.out.f 1
        have z0 := blk_frozen HF3.out.f 0
        have z1 := blk_frozen HF3.out.f 1
        go_wp2
        go_region_held2 (fun w' => w'.cell? ⟨W.heap.size, 1, none⟩ = some (.int .i64 x.f1)) (first | exact t1 | exact blk_cell (blk_drew (blk_far (blk_far HF3.out.t (p := ⟨W.heap.size + 1, 0, none⟩) h9 _) (p := ⟨W.heap.size + 1, 1, none⟩) h9 _)) 1 | go_keep) (fail)
        go_wp2
        refine bodyPost_ret (results_tc rfl _ _ (W.heap.size + 1) 53 #[.int .i64 x.f1, .int .i64 82] (0, 0) _ rfl (blk_drew (blk_put (blk_put HF3.out.f 0 _ rfl) 1 _ rfl)) Tryz.underlying53 rfl (by kernel_rfl)) rfl ?_
        exact ⟨rfl, by decide, below_drew (HF3.out.fin _ _)⟩
      · rw [if_pos hd] at hnm
        rw [hv0, hnm]
        rw [decide_eq_false hd] at E0
        clear hd hnm hv0 hF2
        obtain ⟨RR, hRR⟩ : ∃ RR : EvR, (match find x.f3 l with | some v => .ok v | none => .error (x.f1, 82)) = RR := ⟨_, rfl⟩
        rw [hRR]
        have HR := Lib.hid hRR
        clear hRR
        go_enter Tryz.func30, Tryz.ntmps30
        go_upto_region 1 with (fail)
        have hw2 := HW2.out
        unfold zF at hw2
        rw [hw2]
        clear hw2
        go_wp2
        clear d0 d1 d2 d3 d4 d5 d6
        go_loopg [8] n (fun gm v8 wx => ∃ i : Nat, .int .i64 (i : Int) = v8 ∧ i ≤ n ∧ Hid (gm + i = n) ∧ Hid (LF W sc n cp A x l wx) ∧ Hid (find x.f3 l = find x.f3 (l.drop i)))
        case atStart => exact ⟨0, rfl, Nat.zero_le _, Lib.hid rfl, HF2, Lib.hid rfl⟩
        case round =>
          obtain ⟨i, rfl, hi, HI, HX, HN2⟩ := hrel
          have s0 : wr.cell? ⟨sc, 0, none⟩ = some (.slice A n cp) := blk_cell HX.out.s 0
          by_cases hin : i < n
          · obtain ⟨y, hy⟩ : ∃ y, l[i]? = some y := ⟨_, List.getElem?_eq_getElem (by rw [HN.out.1]; exact hin)⟩
            obtain ⟨ad, rfl, _, c0, c1, c2⟩ := kn_at HX.out.c hy
            have d3 : wr.cell? ⟨W.heap.size, 3, none⟩ = some (.string x.f3) := blk_cell HX.out.t 3
            have q2 : (0 : Int) ≤ (i : Int) := by omega
            have q3 : (i : Int) < (n : Int) := by omega
            have e1 : IntKind.i64.wrap ((i : Int) + 1) = (i : Int) + 1 := by rw [IntKind.wrap_i64]; have := HN.out.2; omega
            have E2 : (y.1.toList == x.f3.toList) = decide (y.1 = x.f3) := beq_dec _ _
            have hdr : l.drop i = y :: l.drop (i + 1) := by
              obtain ⟨hj, rfl⟩ := List.getElem?_eq_some_iff.1 hy
              exact List.drop_eq_getElem_cons hj
            have hN := HN2.out
            rw [hdr, find] at hN
            obtain ⟨gm, rfl⟩ : ∃ q, gk = q + 1 := ⟨gk - 1, by have := HI.out; omega⟩
            clear hy hdr
            by_cases hm : y.1 = x.f3
            · rw [decide_eq_true hm] at E2
              rw [if_pos hm] at hN
              have hR2 : RR = .ok y.2 := by rw [← HR.out, hN]
              clear HR hN hm
              subst hR2
              have hq : ∀ q, LF W sc n cp (some ad) x l (wr.drewN q) := fun q => HX.out.below (pw_below_drewN (Below.refl _ _) q)
              go_wp2
              go_quiet (fail)
              have HX2 := Lib.hid (hq nq)
              obtain ⟨wz, hwz⟩ : ∃ z, wr.drewN nq = z := ⟨_, rfl⟩
              rw [hwz] at HX2 ⊢
              have K1 : wz.cell? ⟨(ad.add (i * 4)).block, (ad.add (i * 4)).off + 1, none⟩ = some (.int .u64 y.2) := by rw [← hwz]; exact ((pw_below_drewN (Below.refl wr.heap.size wr) nq).cell (World.block_lt_of_cell? _ _ c1)).trans c1
              have K2 : wz.cell? ⟨(ad.add (i * 4)).block, (ad.add (i * 4)).off + 2, none⟩ = some (.bool true) := by rw [← hwz]; exact ((pw_below_drewN (Below.refl wr.heap.size wr) nq).cell (World.block_lt_of_cell? _ _ c2)).trans c2
              clear s0 c0 c1 c2 d3 hwz hq
              have s0 : wz.cell? ⟨sc, 0, none⟩ = some (.slice (some ad) n cp) := blk_cell HX2.out.s 0
              have f0_ := blk_cell HX2.out.f 0
              have f1_ := blk_cell HX2.out.f 1
              have z0 := blk_frozen HX2.out.f 0
              have z1 := blk_frozen HX2.out.f 1
              go_wp2
              refine bodyPost_ret (results_tc rfl _ _ (W.heap.size + 1) 53 #[.int .i64 0, .int .i64 0] (0, 0) _ rfl (blk_put (blk_put HX2.out.f 0 _ rfl) 1 _ rfl) Tryz.underlying53 rfl (by kernel_rfl)) rfl ?_
              exact ⟨rfl, HX2.out.fin _ _⟩
            · rw [decide_eq_false hm] at E2
              rw [if_neg hm] at hN
              have HN3 := Lib.hid hN
              have hq : ∀ q, LF W sc n cp (some ad) x l (wr.drewN q) := fun q => HX.out.below (pw_below_drewN (Below.refl _ _) q)
              have HQ := Lib.hid hq
              clear hN hm hq
              go_wp2
              go_quiet (fail)
              go_wp2
              go_roundg gm
              case measure => omega
              case rel => exact ⟨i + 1, by go_num, by omega, Lib.hid (by have := HI.out; omega), Lib.hid (HQ.out _), HN3⟩
          · have q1 : ((i : Int) < (n : Int)) = False := eq_false (by omega)
            have q2 : (i < n) = False := eq_false hin
            have hR2 : RR = .error (x.f1, 82) := by
              rw [← HR.out, HN2.out, List.drop_of_length_le (by rw [HN.out.1]; omega)]
              rfl
            clear HR hin
            subst hR2
            have HF3 := HX
            go_upto_region 16 with (fail)
            clear s0 q1 q2
            have t1 := blk_cell HF3.out.t 1
            have h9 : W.heap.size ≠ W.heap.size + 1 := by omega
            have f0_ := blk_cell HF3.out.f 0
            have f1_ := blk_cell HF3.out.f 1
            have z0 := blk_frozen HF3.out.f 0
            have z1 := blk_frozen HF3.out.f 1
            go_wp2
            go_region_held2 (fun w' => w'.cell? ⟨W.heap.size, 1, none⟩ = some (.int .i64 x.f1)) (first | exact t1 | exact blk_cell (blk_drew (blk_far (blk_far HF3.out.t (p := ⟨W.heap.size + 1, 0, none⟩) h9 _) (p := ⟨W.heap.size + 1, 1, none⟩) h9 _)) 1 | go_keep) (fail)
            go_wp2
            refine bodyPost_ret (results_tc rfl _ _ (W.heap.size + 1) 53 #[.int .i64 x.f1, .int .i64 82] (0, 0) _ rfl (blk_drew (blk_put (blk_put HF3.out.f 0 _ rfl) 1 _ rfl)) Tryz.underlying53 rfl (by kernel_rfl)) rfl ?_
            exact ⟨rfl, by decide, below_drew (HF3.out.fin _ _)⟩
end Go.Proofs.YtbmnifnahbehbaaGreatDoor
