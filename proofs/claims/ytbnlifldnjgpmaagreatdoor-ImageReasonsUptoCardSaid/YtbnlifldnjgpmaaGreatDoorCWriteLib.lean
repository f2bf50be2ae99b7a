/- image.Write: the file's bytes, written one behind the other into a row of the call's own; nothing that was there is turned. -/
import Derived.Test.YtbnlifldnjgpmaaGreatDoorCWn
import Derived.Test.YtbnlifldnjgpmaaGreatDoorCWrix10
import Derived.Test.YtbnlifldnjgpmaaGreatDoorCWrix2
import Derived.StillTailTactics
import Derived.Laws.IdiomCopy
import Derived.Deep.RegionHeld3
import Derived.WalkSpells
import Derived.StillTactics
set_option linter.unusedVariables false
set_option linter.unusedSimpArgs false
namespace Go.Proofs.YtbnlifldnjgpmaaGreatDoor.PWri
open Go.RowKit Go.Lib Go.Proofs.YtbnlifldnjgpmaaGreatDoorW.PrintWords
theorem symsPut_length : ∀ (l : List S82) (L : List Int) (p : Nat) (pl : Int), p + 24 * l.length ≤ L.length → (symsPut L p pl l).length = L.length
 | [], L, p, pl, _ => rfl
 | s :: r, L, p, pl, h => by
  simp only [List.length_cons] at h
  have e1 : (putAt L p (putL 4 [pl])).length = L.length := putAt_length (by rw [putL_length]; simp; omega)
  have e2 : (putAt (putAt L p (putL 4 [pl])) (p + 4) (putL 1 [16, 0])).length = L.length := by rw [putAt_length (by rw [putL_length, e1]; simp; omega)]; exact e1
  have e3 : (putAt (putAt (putAt L p (putL 4 [pl])) (p + 4) (putL 1 [16, 0])) (p + 6) (putL 2 [65521])).length = L.length := by rw [putAt_length (by rw [putL_length, e2]; simp; omega)]; exact e2
  have e4 : (putAt (putAt (putAt (putAt L p (putL 4 [pl])) (p + 4) (putL 1 [16, 0])) (p + 6) (putL 2 [65521])) (p + 8) (putL 8 [s.f1, 0])).length = L.length := by rw [putAt_length (by rw [putL_length, e3]; simp; omega)]; exact e3
  rw [symsPut, symsPut_length r _ _ _ (by rw [e4]; omega), e4]
theorem strL_length (s : ByteArray) : (strL s).length = s.size := by unfold strL; rw [List.length_map, ← Lib.size_eq]
theorem namesPut_length : ∀ (l : List S82) (L : List Int) (p : Nat), p + total l ≤ L.length → (namesPut L p l).length = L.length
 | [], L, p, _ => rfl
 | s :: r, L, p, h => by
  rw [total] at h
  have e1 : (putAt L p (strL s.f0)).length = L.length := putAt_length (by rw [strL_length]; omega)
  rw [namesPut, namesPut_length r _ _ (by rw [e1]; omega), e1]
theorem secPut_length {L : List Int} {p : Nat} {x0 x1 x2 x3 x4 x5 x6 x7 : Int} (h : p + 64 ≤ L.length) : (secPut L p x0 x1 x2 x3 x4 x5 x6 x7).length = L.length := by
 unfold secPut
 have e1 : (putAt L p (putL 4 [x0, x1])).length = L.length := putAt_length (by rw [putL_length]; simp; omega)
 have e2 : (putAt (putAt L p (putL 4 [x0, x1])) (p + 8) (putL 8 [0, 0, x2, x3])).length = L.length := by rw [putAt_length (by rw [putL_length, e1]; simp; omega)]; exact e1
 have e3 : (putAt (putAt (putAt L p (putL 4 [x0, x1])) (p + 8) (putL 8 [0, 0, x2, x3])) (p + 40) (putL 4 [x4, x5])).length = L.length := by rw [putAt_length (by rw [putL_length, e2]; simp; omega)]; exact e2
 rw [putAt_length (by rw [putL_length, e3]; simp; omega)]
 exact e3
theorem namesAll_length {L : List Int} {tb tx ti se : Nat} {l : List S82} (h1 : tb + 24 + 24 * l.length ≤ L.length) (h2 : tx + 1 + total l + 27 ≤ L.length) (h3 : se + 256 ≤ L.length) : (namesAll L tb tx ti se l).length = L.length := by
 unfold namesAll
 have e1 := symsPut_length l L (tb + 24) 1 h1
 have e2 : (namesPut (symsPut L (tb + 24) 1 l) (tx + 1) l).length = L.length := by rw [namesPut_length _ _ _ (by rw [e1]; omega), e1]
 have e3 : (putAt (namesPut (symsPut L (tb + 24) 1 l) (tx + 1) l) (tx + 1 + total l) (strL titlesB)).length = L.length := by
  rw [putAt_length (by rw [e2]; show _ + 27 ≤ _; omega)]
  exact e2
 obtain ⟨F, hF⟩ : ∃ F, putAt (namesPut (symsPut L (tb + 24) 1 l) (tx + 1) l) (tx + 1 + total l) (strL titlesB) = F := ⟨_, rfl⟩
 rw [hF] at e3 ⊢
 show (secPut (secPut (secPut F (se + 64) 1 2 tb (tx - tb) 2 1 8 24) (se + 64 + 64) 9 3 tx (ti - tx) 0 0 1 0) (se + 64 + 128) 17 3 ti 27 0 0 1 0).length = _
 have f1 : (secPut F (se + 64) 1 2 tb (tx - tb) 2 1 8 24).length = F.length := secPut_length (by omega)
 have f2 : (secPut (secPut F (se + 64) 1 2 tb (tx - tb) 2 1 8 24) (se + 64 + 64) 9 3 tx (ti - tx) 0 0 1 0).length = F.length := by rw [secPut_length (by omega)]; exact f1
 rw [secPut_length (by omega), f2, e3]
/-- What the layout must be for the walk. -/
structure LayOk (l1 : List S55) (l2 : List S82) (data : List Int) (tb tx ti se sz : Nat) : Prop where
 n : data.length = l1.length
 d : ∀ j, j < l1.length → 0 ≤ rd data (j : Int) ∧ rd data (j : Int) < sz ∧ rd data (j : Int) + ((rd_T55 l1 (j : Int)).f3.length : Int) ≤ sz
 h : 64 + 56 * l1.length ≤ sz
 z : sz ≤ 281474976710656
 b : tb < 4611686018427387904 ∧ tx < 4611686018427387904 ∧ ti < 4611686018427387904 ∧ se < 4611686018427387904
 nm : 0 < l2.length → tb + 24 + 24 * l2.length ≤ sz ∧ tx + 1 + total l2 + 27 ≤ sz ∧ se + 256 ≤ sz ∧ tb ≤ tx ∧ tx ≤ ti ∧ ∀ s ∈ l2, 0 < s.f0.size
def elfB : ByteArray := ⟨#[127, 69, 76, 70, 2, 1, 1, 0, 0, 0, 0, 0, 0, 0, 0, 0]⟩
/-- The file's head. -/
def headPut (L : List Int) (a0 se n cnt third : Int) : List Int :=
 putAt (putAt (putAt (putAt (putAt (putAt L 0 (strL elfB)) 16 (putL 2 [2, 243])) 20 (putL 4 [1])) 24 (putL 8 [a0, 64, se])) 48 (putL 4 [1])) 52 (putL 2 [64, 56, n, 64, cnt, third])
def turnV (x : Int) : Int := (image_turned.f x).getD 0
/-- The program headers. -/
def phPut : List Int → Nat → List Int → List S55 → List Int
 | L, p, d :: ds, s :: r => phPut (putAt (putAt L p (putL 4 [1, IntKind.u64.wrap (turnV s.f2)])) (p + 8) (putL 8 [d, s.f0, s.f0, (s.f3.length : Int), s.f1, 1])) (p + 56) ds r
 | L, _, _, _ => L
/-- The parts' bytes. -/
def dataPut : List Int → List Int → List S55 → List Int
 | L, d :: ds, s :: r => dataPut (putAt L d.toNat s.f3) ds r
 | L, _, _ => L
def zs (n : Nat) : List Int := List.replicate n 0
/-- The file. -/
def fileL (a0 : Int) (l1 : List S55) (l2 : List S82) (data : List Int) (tb tx ti se sz : Nat) : List Int :=
 if 0 < l2.length then namesAll (dataPut (phPut (headPut (zs sz) a0 se l1.length 4 3) 64 data l1) data l1) tb tx ti se l2
 else dataPut (phPut (headPut (zs sz) a0 se l1.length 0 0) 64 data l1) data l1
theorem blk_under {B : Nat} {w0 w : World} {k : Nat} {o : Obj} (hb : Below B w0 w) (h : w0.heap[k]? = some o) (hk : k < B) : w.heap[k]? = some o := (hb.block k hk).trans h
theorem Kp.under {B : Nat} {w0 w w' : World} {S : Nat → Prop} (hb : Below B w0 w) (h : Kp w w' S) (hS : ∀ k, S k → B ≤ k) (hB : B ≤ w.heap.size) : Below B w0 w' :=
 ⟨h.2.os.trans hb.os, h.2.tape.trans hb.tape, h.2.output.trans hb.output, Nat.le_trans hb.size h.2.size, fun k hk => (h.1.2 k (Nat.lt_of_lt_of_le hk hB) (fun hs => by have := hS k hs; omega)).trans (hb.block k hk)⟩
theorem Kd.C_kept_came' {w wr : World} {S : Nat → Prop} {A : Option Addr} {l : List S82} {n : Nat} (h : Kd.C k82 w A n l) (hb : Below w.heap.size w wr) (hS : ∀ k, S k → w.heap.size ≤ k) : ∀ W', Kp wr W' S → Kd.C k82 W' A n l :=
 fun W' hk => Kd.C_below h (Kp.under hb hk hS hb.size)
theorem S2_ge {B g bb : Nat} (hg : B ≤ g) (hbb : B ≤ bb) : ∀ k, S2 g bb k → B ≤ k := by rintro k (h | h) <;> omega
theorem strip_C {w : World} {a : Addr} {l : List Int} {n : Nat} (h : Kd.C (Kd.int .u8) w (some a) n l) : ∀ j v, (l.map u8v)[j]? = some v → w.cell? (a.add j) = some v := by
 intro j v hv
 rw [List.getElem?_map, Option.map_eq_some_iff] at hv
 obtain ⟨z, hz, rfl⟩ := hv
 have hn : n = l.length := h.1.symm
 have hjl : j < l.length := by
  rcases Nat.lt_or_ge j l.length with h | h
  ·exact h
  ·rw [List.getElem?_eq_none h] at hz; cases hz
 obtain ⟨ad, eA, hc⟩ := Kd.at_int h (j : Int) (by omega) (by omega)
 cases eA
 rw [Int.toNat_natCast] at hc
 rw [hc]
 unfold rd
 rw [Int.toNat_natCast, List.getD_eq_getElem?_getD, hz]
 rfl
theorem copy_bytes (W : World) (g bb p dn : Nat) (L : List Int) (A3 : Option Addr) (c3 : Nat) (f3 : List Int) (hW : WIs W g bb p L) (hne : g ≠ bb) (hC : Kd.C (Kd.int .u8) W A3 f3.length f3) (hfit : dn + f3.length ≤ L.length) :
 ∃ W2, (Builtin.copy_ #[22, 22] 3 #[.slice (some ⟨bb, dn, none⟩) (L.length - dn) (L.length - dn), .slice A3 f3.length c3]).run Tryz.prog W = .ok (.int .i64 (f3.length : Int)) W2 ∧ WIs W2 g bb p (putAt L dn f3) ∧ Kp W W2 (S2 g bb) := by
 rcases Nat.eq_zero_or_pos f3.length with h0 | hpos
 ·refine ⟨W, ?_, ?_, Kp.refl _ _⟩
  ·have := run_copy_none (P := Tryz.prog) W 22 22 3 5 (some ⟨bb, dn, none⟩) A3 (L.length - dn) (L.length - dn) f3.length c3 Tryz.underlying22 (by kernel_rfl) (by rw [h0]; exact Nat.zero_min _)
   rw [this, h0]
   rfl
  ·have e : f3 = [] := List.eq_nil_of_length_eq_zero h0
   subst e
   have : putAt L dn [] = L := by unfold putAt; simp
   rw [this]
   exact hW
 ·obtain ⟨a, rfl⟩ : ∃ a, A3 = some a := by
   obtain ⟨ad, eA, _⟩ := Kd.at_int hC 0 (by omega) (by omega)
   exact ⟨ad, eA⟩
  have hmin : Nat.min f3.length (L.length - dn) = f3.length := Nat.min_eq_left (by omega)
  have hr := run_copy_row Tryz.prog W 22 22 3 5 bb dn (L.length - dn) (L.length - dn) a f3.length c3 _ 5 (f3.map u8v) Tryz.underlying22 (by kernel_rfl) hW.by_ (by rw [List.length_map, hmin]) (strip_C hC) (by simp; omega) (by intro v hv; simp at hv; obtain ⟨z, _, rfl⟩ := hv; rfl)
  refine ⟨W.setRow bb ((L.map u8v).toArray.toList.take dn ++ f3.map u8v ++ (L.map u8v).toArray.toList.drop (dn + (f3.map u8v).length)).toArray, by rw [hr, List.length_map]; rfl, ⟨?_, ?_⟩, ?_⟩
  ·rw [setRow_other _ _ _ _ hne, hW.wr, putAt_length hfit]
  ·rw [setRow_heap W bb _ _ 5 _ hW.by_]
   simp [putAt, List.map_take, List.map_drop]
  ·refine ⟨⟨by simp, fun k hk hn2 => ?_⟩, ⟨rfl, rfl, rfl, by simp, fun k hk => by omega⟩⟩
   rw [setRow_other _ _ _ _ (fun e => hn2 (.inr e))]
theorem R_file (w : World) (g bb p sz B : Nat) (L : List Int) (h : WIs w g bb p L) (hl : L.length = sz) (hB : B ≤ bb) (hz : sz ≤ 281474976710656) :
 Kd.R (Kd.int .u8) 5 w B (fun _ => True) (.slice (some ⟨bb, 0, none⟩) sz sz) L := by
 subst hl
 refine Kd.R_of_own (enc := Value.int .u8) (h1 := fun _ => rfl) ?_ (fun _ _ => trivial)
 refine ⟨by simp [encs], .inr ?_⟩
 refine ⟨bb, L.length, (L.map u8v).toArray, rfl, hB, ?_⟩
 refine ⟨h.by_, ?_⟩
 refine ⟨Nat.le_refl _, ?_⟩
 refine ⟨?_, by simp, ?_⟩
 ·unfold maxLen
  omega
 have e : (List.map u8v L).toArray.toList = encs (Value.int .u8) L := by simp [encs]; intro a _; rfl
 rw [e, List.take_of_length_le (by simp [encs])]
theorem info_u8 : (Tryz.prog.info? 5).map (fun i => (i.zero, i.size, i.bytes)) = some (some (.int .u8 0), 1, 1) := by kernel_rfl
theorem make_u8 (n : Nat) (hn : n ≤ 281474976710656) (W : World) : (Instr.makeSlice 22 (.int .i64 (n : Int)) (.int .i64 (n : Int))).run Tryz.prog W = .ok (.slice (some ⟨W.heap.size, 0, none⟩) n n) (W.alloc (.cells ((zs n).map u8v).toArray 5)) := by
 obtain ⟨i0, hi, hz⟩ := Option.map_eq_some_iff.1 info_u8
 simp only [Prod.mk.injEq] at hz
 obtain ⟨hz0, hz1, hz2⟩ := hz
 have hr := run_make (P := Tryz.prog) W 22 5 i0 (.int .u8 0) Tryz.underlying22 hi hz0 .i64 .i64 (n : Int) (n : Int) (by omega) (by omega) (by rw [hz2]; omega) (by omega)
 have hm : madeCells (Value.int .u8 0).cells n = ((zs n).map u8v).toArray := by
  apply Array.ext'
  simp [madeCells, zs, u8v, Value.cells]
  apply List.ext_getElem?
  intro k
  simp [List.getElem?_replicate]
  by_cases hk : k < n <;> simp [hk, Nat.mod_one]
 rw [hr, Int.toNat_natCast, hz1, Nat.mul_one, hm]
end Go.Proofs.YtbnlifldnjgpmaaGreatDoor.PWri
