/- strconv.FormatUint in base 16, for every 64-bit number: its digits; the premise: the library's table of de Bruijn stands as laid. -/
import Derived.Test.YtkcaebdhkodleaaDoorTzx1
import Derived.WalkKit
import Derived.WalkMore
import Derived.Below
import Derived.Lib.Hide
import Derived.Lib.Walk
import Derived.RegionTactic
import Derived.Laws.IdiomStrings
import Derived.Laws.Slices
set_option linter.unusedVariables false
set_option linter.unusedSimpArgs false
namespace Go.Proofs.YtkcaebdhkodleaaDoor
open Go.RowKit Go.Lib Go.Proofs.YtkcaebdhkodleaaDoorW.PrintWords

def hexDigit (d : Nat) : UInt8 := UInt8.ofNat (if d < 10 then 48 + d else 87 + d)
def hexL (v : Nat) : List UInt8 := if h : v < 16 then [hexDigit v] else hexL (v / 16) ++ [hexDigit (v % 16)]
  decreasing_by omega
theorem hexL_len : ∀ (n v : Nat), 1 ≤ n → v < 16 ^ n → (hexL v).length ≤ n
  | 0, v, h, _ => by omega
  | n + 1, v, h, hv => by
    unfold hexL
    split
    · simp
    · rename_i h16
      rcases Nat.eq_zero_or_pos n with rfl | hn
      · simp at hv; omega
      · have := hexL_len n (v / 16) hn (by rw [Nat.pow_succ] at hv; omega)
        simp
        omega
theorem hexL_pos (v : Nat) : 1 ≤ (hexL v).length := by
  unfold hexL
  split <;> simp
theorem pow2_c (w : World) : Calls Tryd.prog 55 #[.int .i64 16] w fun e w' => e = .returned (.bool true) ∧ Drawn0 w w' :=
  PTz.strconv_isPowerOfTwo.calls 16 true w (by decide +kernel)
theorem tz_c (w : World) (hG : Glob w) : Calls Tryd.prog 56 #[.int .u64 16] w fun e w' => e = .returned (.int .i64 4) ∧ Drawn0 w w' :=
  PTz.bits_TrailingZeros.calls 16 4 w hG (by decide +kernel)

/-- The array's cells: the digits L stand at its end. -/
def Tail (w : World) (b : Nat) (L : List UInt8) (i : Int) : Prop :=
  ∃ cs : Array Value, w.heap[b]? = some (.cells cs 90 (0, 0)) ∧ cs.size = 65 ∧ i = 65 - (L.length : Int) ∧ ∀ j d, L[j]? = some d → cs[65 - L.length + j]? = some (.int .u8 (d.toNat : Int))
theorem wraps_u64 (n : Int) (h₀ : 0 ≤ n) (h₁ : n < 2 ^ 64) : IntKind.u64.wrap n = n := by
  have h : n % 2 ^ 64 = n := by omega
  simp [IntKind.wrap, IntKind.signed, IntKind.bits]
  omega
theorem and15 (u : Nat) (h : u < 18446744073709551616) : bits .and .u64 (u : Int) 15 = ((u % 16 : Nat) : Int) := by
  have := bits_mask .u64 64 (by decide) wraps_u64 4 (by decide) (u : Int) (by omega) (by omega)
  rw [show (15 : Int) = 2 ^ 4 - 1 from rfl, this]
  omega
theorem idx_hex (d : Nat) (hd : d < 16) (W : World) : (Instr.index 9 (.string ⟨#[48, 49, 50, 51, 52, 53, 54, 55, 56, 57, 97, 98, 99, 100, 101, 102, 103, 104, 105, 106, 107, 108, 109, 110, 111, 112, 113, 114, 115, 116, 117, 118, 119, 120, 121, 122]⟩) (.int .u64 (d : Int))).run Tryd.prog W = .ok (.int .u8 ((hexDigit d).toNat : Int)) W := by
  obtain rfl | rfl | rfl | rfl | rfl | rfl | rfl | rfl | rfl | rfl | rfl | rfl | rfl | rfl | rfl | rfl : d = 0 ∨ d = 1 ∨ d = 2 ∨ d = 3 ∨ d = 4 ∨ d = 5 ∨ d = 6 ∨ d = 7 ∨ d = 8 ∨ d = 9 ∨ d = 10 ∨ d = 11 ∨ d = 12 ∨ d = 13 ∨ d = 14 ∨ d = 15 := by omega
  all_goals kernel_rfl
/-- One digit more. -/
theorem Tail.store {w : World} {b : Nat} {L : List UInt8} {i : Int} {m : Nat} {x : UInt8} (h : Tail w b L i) (hi : i = (m : Int) + 1) : Tail (w.setCell ⟨b, m, none⟩ (.int .u8 (x.toNat : Int))) b (x :: L) m := by
  obtain ⟨cs, hb, hz, hl, hcs⟩ := h
  refine ⟨_, blk_set hb m _, by simpa using hz, by simp; omega, fun j d hj => ?_⟩
  cases j with
  | zero =>
    simp at hj
    subst hj
    rw [show 65 - (x :: L).length + 0 = m by simp; omega, Array.getElem?_setIfInBounds_self, if_pos (by omega)]
  | succ j =>
    have hj' : L[j]? = some d := by simpa using hj
    have := hcs j d hj'
    rw [Array.getElem?_setIfInBounds_ne (by simp; omega), ← this]
    congr 1
    simp
    omega
set_option maxHeartbeats 8000000 in
set_option maxRecDepth 1000000 in
theorem fb16 (v : Nat) (hv : v < 18446744073709551616) (w : World) (hG : Glob w) :
    Calls Tryd.prog 44 #[.slice none 0 0, .int .u64 v, .int .i64 16, .bool false, .bool false] w fun e w' => e = .returned (.tuple #[.slice none 0 0, .string ⟨(hexL v).toArray⟩]) ∧ Below w.heap.size w w' := by
  have AG := Lib.hid hG
  clear hG
  go_enter Tryd.func44, Tryd.ntmps44
  go_wp2_with (first | (go_at_call 55; refine (pow2_c _).mono ?_; rintro e w' ⟨rfl, ⟨n1, rfl⟩⟩) | (go_at_call 56; refine (tz_c _ (Glob.step AG.out (by repeat (first | exact Below.refl _ _ | apply pw_below_drewN | apply below_drew1 | apply below_alloc)))).mono ?_; rintro e w' ⟨rfl, ⟨n2, rfl⟩⟩))
  have AB := Lib.hid (show Below w.heap.size w ((w.alloc (Obj.cells Tryd.zeroCells90 90)).drewN (n1 + n2)) from by repeat (first | exact Below.refl _ _ | apply pw_below_drewN | apply below_drew1 | apply below_alloc))
  have AT := Lib.hid (show Tail ((w.alloc (Obj.cells Tryd.zeroCells90 90)).drewN (n1 + n2)) w.heap.size [] 65 from ⟨_, blk_new w _, by kernel_rfl, rfl, fun j d h => by simp at h⟩)
  go_loopw [1, 13] (fun v1 v13 wx => ∃ (u : Nat) (L : List UInt8) (i : Int), v1 = .int .u64 u ∧ v13 = .int .i64 i ∧ Hid (Tail wx w.heap.size L i) ∧ Hid (Below w.heap.size w wx) ∧ Hid (hexL u ++ L = hexL v ∧ u < 18446744073709551616 ∧ L.length + (hexL u).length ≤ 16)) (fun v1 _ _ => (RowKit.intOf v1).toNat)
  case atStart => exact ⟨v, [], 65, rfl, rfl, AT, AB, Lib.hid ⟨by simp, hv, by have := hexL_len 16 v (by omega) hv; simpa using this⟩⟩
  case round =>
    clear AB AT
    obtain ⟨u, L, i, rfl, rfl, HT, HB, HX⟩ := hrel
    have hu := HX.out.2.1
    have hl := HX.out.2.2
    have hp := hexL_pos u
    have hi := HT.out
    obtain ⟨cs, hb, hz, hi, hcs⟩ := hi
    have AC := Lib.hid hcs
    clear hcs
    obtain ⟨m, hm⟩ : ∃ m : Nat, m = 64 - L.length := ⟨_, rfl⟩
    obtain rfl : i = (m : Int) + 1 := by omega
    have hw1 : wrap64 ((m : Int) + 1 - 1) = m := by unfold wrap64; omega
    have hm2 : m < 65 := by omega
    have hc := blk_cell hb m
    rw [Array.getElem?_eq_getElem (by omega)] at hc
    have hf := blk_frozen hb m
    have AHB := Lib.hid hb
    have AM := Lib.hid hm
    have AZ := Lib.hid hz
    obtain ⟨cv, hcv⟩ : ∃ cv, cs[m]'(by omega) = cv := ⟨_, rfl⟩
    rw [hcv] at hc
    clear hb hm hcv hi hl hp hz
    by_cases h16 : 16 ≤ u
    · have c16 : decide ((u : Int) ≥ 16) = true := by simp; omega
      obtain ⟨d, hd⟩ : ∃ d, u % 16 = d := ⟨_, rfl⟩
      obtain ⟨u1, hu1⟩ : ∃ u1, u / 16 = u1 := ⟨_, rfl⟩
      have hand := and15 u hu
      rw [hd] at hand
      have hdiv : (u : Int) / 16 = (u1 : Int) := by omega
      have hd16 : d < 16 := by omega
      have hX := idx_hex d hd16
      have hlt : u1 < u := by omega
      have HT2 := Lib.hid (HT.out.store (x := hexDigit d) rfl)
      have HX2 : Hid (hexL u1 ++ (hexDigit d :: L) = hexL v ∧ u1 < 18446744073709551616 ∧ (hexDigit d :: L).length + (hexL u1).length ≤ 16) := by
        have h1 : hexL u = hexL u1 ++ [hexDigit d] := by
          rw [hexL, dif_neg (by omega), hu1, hd]
        obtain ⟨e1, e2, e3⟩ := HX.out
        rw [h1] at e1 e3
        exact Lib.hid ⟨by simpa using e1, by omega, by simp at e3 ⊢; omega⟩
      clear hd hu1 HX
      go_wp2
      refine ⟨⟨u1, _, _, rfl, rfl, HT2, Lib.hid (HB.out.setCell (p := ⟨w.heap.size, m, none⟩) (Nat.le_refl _) _), HX2⟩, ?_⟩
      simp [RowKit.intOf]
      omega
    · have c16 : decide ((u : Int) ≥ 16) = false := by simp; omega
      have hX := idx_hex u (by omega)
      have HT2 := Lib.hid (HT.out.store (x := hexDigit u) rfl)
      have HX2 : Hid (hexDigit u :: L = hexL v) := by
        have h1 : hexL u = [hexDigit u] := by
          rw [hexL, dif_pos (by omega)]
        obtain ⟨e1, e2, e3⟩ := HX.out
        rw [h1] at e1
        exact Lib.hid (by simpa using e1)
      have hB2 := Lib.hid (HB.out.setCell (Nat.le_refl _) (p := ⟨w.heap.size, m, none⟩) (.int .u8 ((hexDigit u).toNat : Int)))
      have hal : Tryd.prog.arrayLen 90 = 65 := by kernel_rfl
      have hsl : ∀ W, (Instr.sliceAt 90 (.pointer (some ⟨w.heap.size, 0, none⟩)) (some (.int .i64 (m : Int))) none none).run Tryd.prog W = .ok (.slice (some ⟨w.heap.size, m, none⟩) (65 - m) (65 - m)) W := fun W => by
        rw [run_sliceAt_array_l W 90 ⟨w.heap.size, 0, none⟩ (by kernel_rfl) .i64 (m : Int) (by omega) (by rw [hal]; omega), hal, show Sem.run Tryd.prog (sizeOf (Tryd.prog.elem 90)) W = .ok 1 W from by kernel_rfl]
        show Result.ok (slicedAt ⟨w.heap.size, 0, none⟩ (m : Int).toNat 65 65 1) W = _
        unfold slicedAt
        rw [Int.toNat_natCast, if_neg (by omega)]
        simp [Addr.add]
        omega
      have hcv : (convert 46 9 (.slice (some ⟨w.heap.size, m, none⟩) (65 - m) (65 - m))).run Tryd.prog (wr.setCell ⟨w.heap.size, m, none⟩ (.int .u8 ((hexDigit u).toNat : Int))) = .ok (.string ⟨(hexL v).toArray⟩) (wr.setCell ⟨w.heap.size, m, none⟩ (.int .u8 ((hexDigit u).toNat : Int))) := by
        obtain ⟨cs2, hb2, hz2, hi2, hcs2⟩ := HT2.out
        have hlen : (hexL v).length = 65 - m := by rw [← HX2.out]; omega
        have h := run_convert_bytes_back (P := Tryd.prog) (wr.setCell ⟨w.heap.size, m, none⟩ (.int .u8 ((hexDigit u).toNat : Int))) 46 9 5 ⟨w.heap.size, m, none⟩ (65 - m) (hexL v) Tryd.underlying46 Tryd.underlying5 Tryd.underlying9 (fun j hj => by
          have h1 := hcs2 j ((hexL v)[j]) (by rw [HX2.out]; exact List.getElem?_eq_getElem hj)
          rw [show Addr.add ⟨w.heap.size, m, none⟩ j = ⟨w.heap.size, m + j, none⟩ from by simp [Addr.add], blk_cell hb2, ← h1]
          congr 1
          omega)
        rw [hlen] at h
        exact h
      clear HX HB HT HX2 HT2 hal
      go_wp2
      go_ret2
      exact ⟨rfl, hB2.out⟩
set_option maxHeartbeats 8000000 in
set_option maxRecDepth 1000000 in
theorem fu16i (v : Nat) (hv : v < 18446744073709551616) (w : World) (hG : Glob w) :
    Calls Tryd.prog 34 #[.int .u64 v, .int .i64 16] w fun e w' => e = .returned (.string ⟨(hexL v).toArray⟩) ∧ Below w.heap.size w w' := by
  have cB := fb16 v hv w hG
  clear hG
  go_enter Tryd.func34, Tryd.ntmps34
  go_wp2_with (go_at_call 44; refine cB.mono ?_; rintro e w' ⟨rfl, hb⟩)
  go_ret
  exact ⟨rfl, hb⟩
set_option maxHeartbeats 8000000 in
set_option maxRecDepth 1000000 in
/-- strconv.FormatUint(v, 16). -/
theorem fu16 (v : Nat) (hv : v < 18446744073709551616) (w : World) (hG : Glob w) :
    Calls Tryd.prog 28 #[.int .u64 v, .int .i64 16] w fun e w' => e = .returned (.string ⟨(hexL v).toArray⟩) ∧ Below w.heap.size w w' := by
  have cB := fu16i v hv w hG
  clear hG
  go_enter Tryd.func28, Tryd.ntmps28
  go_wp2_with (go_at_call 34; refine cB.mono ?_; rintro e w' ⟨rfl, hb⟩)
  go_ret
  exact ⟨rfl, hb⟩
end Go.Proofs.YtkcaebdhkodleaaDoor
