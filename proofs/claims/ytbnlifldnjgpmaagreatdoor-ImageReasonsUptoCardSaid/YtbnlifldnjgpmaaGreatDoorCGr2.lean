-- BY PROGRAM of this session (wip/tools/home.sh): the parts of the print in which these stand: image_file_number image_file_half anvilref02_value
import Derived.Test.YtbnlifldnjgpmaaGreatDoorCGr1
import Derived.Test.YtbnlifldnjgpmaaGreatDoorCWrix2
import Derived.Test.YtbnlifldnjgpmaaGreatDoorCWrix3
import Derived.Laws.BitsLemmas
import Derived.Test.YtbnlifldnjgpmaaGreatDoorProg
import Derived.WalkKit
import Derived.WalkMore
import Derived.WalkLawsBesides
import Derived.Below
import Derived.Lib.Hide
/- The numbers in a file's bytes: the lowest byte first; what the program's and the document's readers of a number answer. -/
set_option linter.unusedVariables false
set_option linter.unusedSimpArgs false
namespace Go.Proofs.YtbnlifldnjgpmaaGreatDoor.PWri
open Go.RowKit Go.Lib Go.Proofs.YtbnlifldnjgpmaaGreatDoorW.PrintWords Go.Proofs.YtbnlifldnjgpmaaGreatDoorW.PrintLast
def Bytes (l : List Int) : Prop := ∀ x ∈ l, 0 ≤ x ∧ x < 256
/-- The number of n bytes from place a on. -/
def valN (l : List Int) (a : Nat) : Nat → Int
 | 0 => 0
 | n + 1 => valN l a n + l.getD (a + n) 0 * 256 ^ n
theorem byte_at {l : List Int} (h : Bytes l) (i : Nat) : 0 ≤ l.getD i 0 ∧ l.getD i 0 < 256 := by
 rw [List.getD_eq_getElem?_getD]
 cases e : l[i]? with
 | none => exact ⟨by decide, by decide⟩
 | some x => exact h x (List.mem_of_getElem? e)
theorem valN_lt {l : List Int} (h : Bytes l) (a : Nat) : ∀ n : Nat, 0 ≤ valN l a n ∧ valN l a n < 256 ^ n
 | 0 => by simp [valN]
 | n + 1 => by
  have ih := valN_lt h a n
  have hb := byte_at h (a + n)
  rw [valN, Int.pow_succ]
  generalize (256 : Int) ^ n = p at ih ⊢
  generalize l.getD (a + n) 0 = x at hb ⊢
  have hx : x * p ≤ 255 * p := Int.mul_le_mul_of_nonneg_right (by omega) (by omega)
  have hx0 : 0 ≤ x * p := Int.mul_nonneg (by omega) (by omega)
  omega
theorem pow_le8 (n : Nat) (hn : n ≤ 8) : (256 : Int) ^ n ≤ 256 ^ 8 := by
 obtain rfl | rfl | rfl | rfl | rfl | rfl | rfl | rfl | rfl : n = 0 ∨ n = 1 ∨ n = 2 ∨ n = 3 ∨ n = 4 ∨ n = 5 ∨ n = 6 ∨ n = 7 ∨ n = 8 := by omega
 all_goals decide
theorem w64n {x : Int} (h1 : -9223372036854775808 ≤ x) (h2 : x ≤ 9223372036854775807) : wrap64 x = x := by unfold wrap64; omega
theorem u64n {x : Int} (h0 : 0 ≤ x) (h1 : x ≤ 18446744073709551615) : IntKind.u64.wrap x = x := by
 have h : x % 2 ^ 64 = x := by omega
 simp [IntKind.wrap, IntKind.signed, IntKind.bits]
 omega
theorem or_step (v x : Int) (hv0 : 0 ≤ v) (hv : v < 72057594037927936) (hx : 0 ≤ x ∧ x < 256) : Go.bits .or .u64 (IntKind.u64.wrap (v * 256)) (IntKind.u64.wrap x) = v * 256 + x := by
 rw [u64n (x := v * 256) (by omega) (by omega), u64n (x := x) (by omega) (by omega)]
 exact bits_join .u64 64 (by decide) (fun n h0 h1 => u64n h0 (by omega)) 8 (v * 256) x (by omega) (by omega) (by omega) (by omega) (by omega) (by omega)
theorem rd_getD (l : List Int) (i : Nat) : rd l (i : Int) = l.getD i 0 := by unfold rd; rw [Int.toNat_natCast]
theorem number_l0 (l : List Int) (h : Bytes l) (hl : l.length ≤ 1099511627776) (a : Nat) : ∀ (m : Nat) (v : Int), a + m ≤ l.length → 0 ≤ v → v * 256 ^ m < 18446744073709551616 → (v + 1) * 256 ^ m ≤ 18446744073709551616 →
 Ev (fun k => image_file_number.l0 k (a : Int) v ((m : Int) - 1) l) (v * 256 ^ m + valN l a m)
 | 0, v, ha, h0, h1, h2 => by
  refine Ev.step (f := fun _ => some v) (fun k => ?_) ?_
  ·rw [image_file_number.l0, if_neg (by omega)]
  ·simp only [valN, Int.pow_zero, Int.mul_one, Int.add_zero]
   exact Ev.now _
 | m + 1, v, ha, h0, h1, h2 => by
  have hb := byte_at h (a + m)
  have hp : (1 : Int) ≤ 256 ^ m := by
   have : (0 : Int) < 256 ^ m := Int.pow_pos (by decide)
   omega
  rw [Int.pow_succ] at h1 h2
  obtain ⟨p, hpe⟩ : ∃ p : Int, 256 ^ m = p := ⟨_, rfl⟩
  rw [hpe] at hp h1 h2
  have hv : v < 72057594037927936 := by
   have h3 : (v + 1) * 256 ≤ (v + 1) * (p * 256) := Int.mul_le_mul_of_nonneg_left (by omega) (by omega)
   omega
  have q1 : (v * 256 + l.getD (a + m) 0 + 1) * p ≤ (v * 256 + 256) * p := Int.mul_le_mul_of_nonneg_right (by omega) (by omega)
  have q2 : (v * 256 + 256) * p = (v + 1) * (p * 256) := by rw [show v * 256 + 256 = (v + 1) * 256 by omega, Int.mul_assoc, Int.mul_comm 256 p]
  have q3 : (v * 256 + l.getD (a + m) 0) * p < (v * 256 + l.getD (a + m) 0 + 1) * p := Int.mul_lt_mul_of_pos_right (by omega) (by omega)
  have ih := number_l0 l h hl a m (v * 256 + l.getD (a + m) 0) (by omega) (by omega) (by rw [hpe]; omega) (by rw [hpe]; omega)
  have e : (v * 256 + l.getD (a + m) 0) * 256 ^ m + valN l a m = v * 256 ^ (m + 1) + valN l a (m + 1) := by
   rw [valN, Int.pow_succ, hpe, Int.add_mul, Int.mul_comm p 256, ← Int.mul_assoc]
   omega
  rw [e] at ih
  refine Ev.step (fun k => ?_) ih
  rw [image_file_number.l0, if_pos (by omega), show (((m + 1 : Nat) : Int) - 1) = (m : Int) by omega, w64n (x := (a : Int) + (m : Int)) (by omega) (by omega), if_pos (by omega), if_pos (by omega), w64n (x := (m : Int) - 1) (by omega) (by omega)]
  rw [show (a : Int) + (m : Int) = ((a + m : Nat) : Int) by omega, rd_getD, or_step v _ h0 hv hb]
theorem number_ev (l : List Int) (h : Bytes l) (hl : l.length ≤ 1099511627776) (a n : Nat) (hn : n ≤ 8) (ha : a + n ≤ l.length) : Ev (fun k => image_file_number.f k l (a : Int) (n : Int)) (valN l a n) := by
 have hp : (256 : Int) ^ n ≤ 256 ^ 8 := pow_le8 n hn
 have h2 := number_l0 l h hl a n 0 ha (by omega) (by rw [Int.zero_mul]; decide) (by rw [Int.zero_add, Int.one_mul]; exact Int.le_trans hp (by decide))
 rw [Int.zero_mul, Int.zero_add] at h2
 refine Ev.congr (fun k => ?_) h2
 unfold image_file_number.f
 rw [w64n (by omega) (by omega)]
theorem value_l0 (l : List Int) (h : Bytes l) (hl : l.length ≤ 1099511627776) (a : Nat) : ∀ (m : Nat) (v : Int), a + m ≤ l.length → 0 ≤ v → v * 256 ^ m < 18446744073709551616 → (v + 1) * 256 ^ m ≤ 18446744073709551616 →
 Ev (fun k => anvilref02_value.l0 k l (a : Int) v ((m : Int) - 1)) (v * 256 ^ m + valN l a m)
 | 0, v, ha, h0, h1, h2 => by
  refine Ev.step (f := fun _ => some v) (fun k => ?_) ?_
  ·rw [anvilref02_value.l0, if_neg (by omega)]
  ·simp only [valN, Int.pow_zero, Int.mul_one, Int.add_zero]
   exact Ev.now _
 | m + 1, v, ha, h0, h1, h2 => by
  have hb := byte_at h (a + m)
  have hp : (1 : Int) ≤ 256 ^ m := by
   have : (0 : Int) < 256 ^ m := Int.pow_pos (by decide)
   omega
  rw [Int.pow_succ] at h1 h2
  obtain ⟨p, hpe⟩ : ∃ p : Int, 256 ^ m = p := ⟨_, rfl⟩
  rw [hpe] at hp h1 h2
  have hv : v < 72057594037927936 := by
   have h3 : (v + 1) * 256 ≤ (v + 1) * (p * 256) := Int.mul_le_mul_of_nonneg_left (by omega) (by omega)
   omega
  have q1 : (v * 256 + l.getD (a + m) 0 + 1) * p ≤ (v * 256 + 256) * p := Int.mul_le_mul_of_nonneg_right (by omega) (by omega)
  have q2 : (v * 256 + 256) * p = (v + 1) * (p * 256) := by rw [show v * 256 + 256 = (v + 1) * 256 by omega, Int.mul_assoc, Int.mul_comm 256 p]
  have q3 : (v * 256 + l.getD (a + m) 0) * p < (v * 256 + l.getD (a + m) 0 + 1) * p := Int.mul_lt_mul_of_pos_right (by omega) (by omega)
  have ih := value_l0 l h hl a m (v * 256 + l.getD (a + m) 0) (by omega) (by omega) (by rw [hpe]; omega) (by rw [hpe]; omega)
  have e : (v * 256 + l.getD (a + m) 0) * 256 ^ m + valN l a m = v * 256 ^ (m + 1) + valN l a (m + 1) := by
   rw [valN, Int.pow_succ, hpe, Int.add_mul, Int.mul_comm p 256, ← Int.mul_assoc]
   omega
  rw [e] at ih
  refine Ev.step (fun k => ?_) ih
  rw [anvilref02_value.l0, if_pos (by omega), show (((m + 1 : Nat) : Int) - 1) = (m : Int) by omega, w64n (x := (a : Int) + (m : Int)) (by omega) (by omega), if_pos (by omega), if_pos (by omega), w64n (x := (m : Int) - 1) (by omega) (by omega)]
  rw [show (a : Int) + (m : Int) = ((a + m : Nat) : Int) by omega, rd_getD, u64n (x := v * 256) (by omega) (by omega), u64n (x := l.getD (a + m) 0) (by omega) (by omega), u64n (by omega) (by omega)]
theorem value_ev (l : List Int) (h : Bytes l) (hl : l.length ≤ 1099511627776) (a n : Nat) (hn : n ≤ 8) (ha : a + n ≤ l.length) : Ev (fun k => anvilref02_value.f k l (a : Int) (n : Int)) (valN l a n) := by
 have hp : (256 : Int) ^ n ≤ 256 ^ 8 := pow_le8 n hn
 have h2 := value_l0 l h hl a n 0 ha (by omega) (by rw [Int.zero_mul]; decide) (by rw [Int.zero_add, Int.one_mul]; exact Int.le_trans hp (by decide))
 rw [Int.zero_mul, Int.zero_add] at h2
 refine Ev.congr (fun k => ?_) h2
 unfold anvilref02_value.f
 rw [w64n (by omega) (by omega)]
end Go.Proofs.YtbnlifldnjgpmaaGreatDoor.PWri
/- The file's readers of numbers (half, word, double) and of room, by what they answer. -/
set_option linter.unusedVariables false
set_option linter.unusedSimpArgs false
namespace Go.Proofs.YtbnlifldnjgpmaaGreatDoor.PWri
open Go.RowKit Go.Lib Go.Proofs.YtbnlifldnjgpmaaGreatDoorW.PrintWords Go.Proofs.YtbnlifldnjgpmaaGreatDoorW.PrintLast
section
variable {l : List Int} {A : Option Addr} {c : Nat}
theorem val2 (h : Bytes l) (a : Nat) : 0 ≤ valN l a 2 ∧ valN l a 2 < 65536 := valN_lt h a 2
theorem val4 (h : Bytes l) (a : Nat) : 0 ≤ valN l a 4 ∧ valN l a 4 < 4294967296 := valN_lt h a 4
theorem val8 (h : Bytes l) (a : Nat) : 0 ≤ valN l a 8 ∧ valN l a 8 < 18446744073709551616 := valN_lt h a 8
theorem half_c (h : Bytes l) (hl : l.length ≤ 1099511627776) (hc : l.length ≤ c) (a : Nat) (ha : a + 2 ≤ l.length) (W : World) (hC : Kd.C (Kd.int .u8) W A l.length l) :
 Calls Tryz.prog 52 #[.agg #[.slice A l.length c], .int .i64 (a : Int)] W fun e w' => e = .returned (.int .i64 (valN l a 2)) ∧ Below W.heap.size W w' := by
 have hv := val2 h a
 have he : Ev (fun k => image_file_half.f k l (a : Int)) (valN l a 2) := by
  unfold image_file_half.f
  refine Ev.bind (number_ev l h hl a 2 (by omega) ha) ?_
  rw [w64n (by omega) (by omega)]
  exact Ev.now _
 obtain ⟨k, hk⟩ := he.rounds
 exact image_file_half.calls k A c l (a : Int) _ W hC hc hk
theorem word_c (h : Bytes l) (hl : l.length ≤ 1099511627776) (hc : l.length ≤ c) (a : Nat) (ha : a + 4 ≤ l.length) (W : World) (hC : Kd.C (Kd.int .u8) W A l.length l) :
 Calls Tryz.prog 53 #[.agg #[.slice A l.length c], .int .i64 (a : Int)] W fun e w' => e = .returned (.int .i64 (valN l a 4)) ∧ Below W.heap.size W w' := by
 have hv := val4 h a
 have he : Ev (fun k => image_file_word.f k l (a : Int)) (valN l a 4) := by
  unfold image_file_word.f
  refine Ev.bind (number_ev l h hl a 4 (by omega) ha) ?_
  rw [w64n (by omega) (by omega)]
  exact Ev.now _
 obtain ⟨k, hk⟩ := he.rounds
 exact image_file_word.calls k A c l (a : Int) _ W hC hc hk
theorem double_c (h : Bytes l) (hl : l.length ≤ 1099511627776) (hc : l.length ≤ c) (a : Nat) (ha : a + 8 ≤ l.length) (W : World) (hC : Kd.C (Kd.int .u8) W A l.length l) :
 Calls Tryz.prog 27 #[.agg #[.slice A l.length c], .int .i64 (a : Int)] W fun e w' => e = .returned (.int .u64 (valN l a 8)) ∧ Below W.heap.size W w' := by
 have he : Ev (fun k => image_file_double.f k l (a : Int)) (valN l a 8) := by
  unfold image_file_double.f
  refine Ev.bind (number_ev l h hl a 8 (by omega) ha) ?_
  exact Ev.now _
 obtain ⟨k, hk⟩ := he.rounds
 exact image_file_double.calls k A c l (a : Int) _ W hC hc hk
/-- Do n bytes stand at a place? -/
def roomS (l : List Int) (a n : Int) : Bool := decide (a ≤ (l.length : Int)) && decide (n ≤ (l.length : Int) - a)
theorem room_c (hl : l.length ≤ 1099511627776) (hc : l.length ≤ c) (a n : Int) (h0 : 0 ≤ a) (W : World) (hC : Kd.C (Kd.int .u8) W A l.length l) :
 Calls Tryz.prog 54 #[.agg #[.slice A l.length c], .int .u64 a, .int .u64 n] W fun e w' => e = .returned (.bool (roomS l a n)) ∧ Below W.heap.size W w' := by
 refine image_file_room.calls A c l a n _ W hC hc ?_
 unfold image_file_room.f roomS
 rw [u64n (x := (l.length : Int)) (by omega) (by omega)]
 by_cases h : a ≤ (l.length : Int)
 ·rw [if_pos h, u64n (by omega) (by omega)]
  simp [h]
 ·rw [if_neg h]
  simp [h]
end
end Go.Proofs.YtbnlifldnjgpmaaGreatDoor.PWri
/- image.fail and image.must: where something does not hold the reading is given up by a panic with a new *api.Fault. -/
set_option linter.unusedVariables false
set_option linter.unusedSimpArgs false
namespace Go.Proofs.YtbnlifldnjgpmaaGreatDoor
open Go.RowKit Go.Lib
/-- The panic that gives a reading up: with a pointer to the Fault at block a. -/
def gone (a : Nat) : PanicEntry := { v := .iface 75 (.pointer (some ⟨a, 0, none⟩)), recovered := false }
def faultObj (at_ why : Int) : Obj := .cells #[.int .i64 0, .int .i64 at_, .int .i64 why] 35
theorem fail_c (at_ why : Int) (w : World) :
 Calls Tryz.prog 51 #[.int .i64 at_, .int .i64 why] w fun e w' => e = .panicked [gone w.heap.size] ∧ w' = w.alloc (faultObj at_ why) := by
 have hc : Tryz.prog.concrete 75 = true := by kernel_rfl
 go_enter Tryz.func51, Tryz.ntmps51
 go_wp2
 exact ⟨rfl, rfl, rfl⟩
theorem must_ok (at_ why : Int) (w : World) :
 Calls Tryz.prog 25 #[.bool true, .int .i64 at_, .int .i64 why] w fun e w' => e = .returned (.tuple #[]) ∧ w' = w := by
 go_enter Tryz.func25, Tryz.ntmps25
 go_wp2
 go_end0
 exact ⟨rfl, rfl⟩
theorem must_no (at_ why : Int) (w : World) :
 Calls Tryz.prog 25 #[.bool false, .int .i64 at_, .int .i64 why] w fun e w' => e = .panicked [gone w.heap.size] ∧ w' = w.alloc (faultObj at_ why) := by
 go_enter Tryz.func25, Tryz.ntmps25
 go_wp2_with (go_at_call 51; refine (fail_c _ _ _).mono ?_; rintro e w' ⟨rfl, rfl⟩)
 exact ⟨rfl, rfl, rfl⟩
/-- Both ways: what is told behind it is told under the way. -/
theorem must_c (b : Bool) (at_ why : Int) (w : World) :
 Calls Tryz.prog 25 #[.bool b, .int .i64 at_, .int .i64 why] w fun e w' => (b = true ∧ e = .returned (.tuple #[]) ∧ w' = w) ∨ (b = false ∧ e = .panicked [gone w.heap.size] ∧ w' = w.alloc (faultObj at_ why)) := by
 cases b
 ·exact (must_no at_ why w).mono fun e w' h => .inr ⟨rfl, h.1, h.2⟩
 ·exact (must_ok at_ why w).mono fun e w' h => .inl ⟨rfl, h.1, h.2⟩
end Go.Proofs.YtbnlifldnjgpmaaGreatDoor
/- The file's readers of numbers at a place that is an Int, with the bounds of what they answer; the box of a receiver. -/
set_option linter.unusedVariables false
set_option linter.unusedSimpArgs false
namespace Go.Proofs.YtbnlifldnjgpmaaGreatDoor.PWri
open Go.RowKit Go.Lib Go.Proofs.YtbnlifldnjgpmaaGreatDoorW.PrintWords Go.Proofs.YtbnlifldnjgpmaaGreatDoorW.PrintLast
def rdN (l : List Int) (a : Int) (n : Nat) : Int := valN l a.toNat n
theorem rdN_nat (l : List Int) (a n : Nat) : rdN l (a : Int) n = valN l a n := by unfold rdN; rw [Int.toNat_natCast]
/-- The world of a walk: what was there is as it was, and the receiver's box stands. -/
structure FS (w : World) (F : Value) (W : World) : Prop where
 below : Below w.heap.size w W
 box : W.heap[w.heap.size]? = some (.cells #[F] 59)
theorem FS.step {w W W' : World} {F : Value} (h : FS w F W) (hd : Below W.heap.size W W') : FS w F W' := ⟨h.below.trans (hd.mono h.below.size), kBe h.box hd⟩
theorem FS.cell {w W : World} {F : Value} (h : FS w F W) : W.cell? ⟨w.heap.size, 0, none⟩ = some F := by
 rw [World.cell?]
 dsimp only
 rw [h.box]
 rfl
theorem FS.start (w : World) (F : Value) : FS w F (w.alloc (.cells #[F] 59)) := ⟨(Below.refl _ w).alloc (Nat.le_refl _) _, blk_new _ _⟩
theorem FS.alloc {w W : World} {F : Value} (h : FS w F W) (o : Obj) : FS w F (W.alloc o) := h.step ((Below.refl _ W).alloc (Nat.le_refl _) _)
theorem FS.drewN {w W : World} {F : Value} (h : FS w F W) (n : Nat) : FS w F (W.drewN n) := h.step (bDn (Below.refl _ _) n)
theorem FS.drew {w W : World} {F : Value} (h : FS w F W) : FS w F W.drew := h.step (below_drew (Below.refl _ _))
section
variable {l : List Int} {A : Option Addr} {c : Nat}
theorem rd2 (h : Bytes l) (a : Int) : 0 ≤ rdN l a 2 ∧ rdN l a 2 < 65536 := val2 h _
theorem rd4 (h : Bytes l) (a : Int) : 0 ≤ rdN l a 4 ∧ rdN l a 4 < 4294967296 := val4 h _
theorem rd8 (h : Bytes l) (a : Int) : 0 ≤ rdN l a 8 ∧ rdN l a 8 < 18446744073709551616 := val8 h _
theorem half_i (h : Bytes l) (hl : l.length ≤ 1099511627776) (hc : l.length ≤ c) (a : Int) (h0 : 0 ≤ a) (ha : a + 2 ≤ (l.length : Int)) (W : World) (hC : Kd.C (Kd.int .u8) W A l.length l) :
 Calls Tryz.prog 52 #[.agg #[.slice A l.length c], .int .i64 a] W fun e w' => e = .returned (.int .i64 (rdN l a 2)) ∧ (0 ≤ rdN l a 2 ∧ rdN l a 2 < 65536) ∧ Below W.heap.size W w' := by
 obtain ⟨a, rfl⟩ := Int.eq_ofNat_of_zero_le h0
 rw [rdN_nat]
 exact (half_c h hl hc a (by omega) W hC).mono fun e w' ⟨he, hd⟩ => ⟨he, val2 h a, hd⟩
theorem word_i (h : Bytes l) (hl : l.length ≤ 1099511627776) (hc : l.length ≤ c) (a : Int) (h0 : 0 ≤ a) (ha : a + 4 ≤ (l.length : Int)) (W : World) (hC : Kd.C (Kd.int .u8) W A l.length l) :
 Calls Tryz.prog 53 #[.agg #[.slice A l.length c], .int .i64 a] W fun e w' => e = .returned (.int .i64 (rdN l a 4)) ∧ (0 ≤ rdN l a 4 ∧ rdN l a 4 < 4294967296) ∧ Below W.heap.size W w' := by
 obtain ⟨a, rfl⟩ := Int.eq_ofNat_of_zero_le h0
 rw [rdN_nat]
 exact (word_c h hl hc a (by omega) W hC).mono fun e w' ⟨he, hd⟩ => ⟨he, val4 h a, hd⟩
theorem double_i (h : Bytes l) (hl : l.length ≤ 1099511627776) (hc : l.length ≤ c) (a : Int) (h0 : 0 ≤ a) (ha : a + 8 ≤ (l.length : Int)) (W : World) (hC : Kd.C (Kd.int .u8) W A l.length l) :
 Calls Tryz.prog 27 #[.agg #[.slice A l.length c], .int .i64 a] W fun e w' => e = .returned (.int .u64 (rdN l a 8)) ∧ (0 ≤ rdN l a 8 ∧ True) ∧ Below W.heap.size W w' := by
 obtain ⟨a, rfl⟩ := Int.eq_ofNat_of_zero_le h0
 rw [rdN_nat]
 exact (double_c h hl hc a (by omega) W hC).mono fun e w' ⟨he, hd⟩ => ⟨he, ⟨(val8 h a).1, trivial⟩, hd⟩
theorem sec_i (h : Bytes l) (hl : l.length ≤ 1099511627776) (hc : l.length ≤ c) (i : Int) (h0 : 0 ≤ i) (hi : i ≤ 4294967296) (h48 : 48 ≤ l.length) (hb : rdN l 40 8 ≤ (l.length : Int)) (W : World) (hC : Kd.C (Kd.int .u8) W A l.length l) :
 Calls Tryz.prog 59 #[.agg #[.slice A l.length c], .int .i64 i] W fun e w' => e = .returned (.int .i64 (rdN l 40 8 + 64 * i)) ∧ (0 ≤ rdN l 40 8 + 64 * i ∧ True) ∧ Below W.heap.size W w' := by
 have hv := rd8 h 40
 have e40 : rdN l 40 8 = valN l 40 8 := rdN_nat l 40 8
 have he : Ev (fun k => image_file_section.f k l i) (rdN l 40 8 + 64 * i) := by
  unfold image_file_section.f
  refine Ev.bind (g := fun k => image_file_double.f k l 40) (show Ev (fun k => image_file_double.f k l 40) (valN l 40 8) from by
   unfold image_file_double.f
   exact Ev.bind (number_ev l h hl 40 8 (by omega) (by omega)) (Ev.now _)) ?_
  rw [← e40, w64n (x := rdN l 40 8) (by omega) (by omega), w64n (x := 64 * i) (by omega) (by omega), w64n (by omega) (by omega)]
  exact Ev.now _
 obtain ⟨k, hk⟩ := he.rounds
 exact (image_file_section.calls k A c l i _ W hC hc hk).mono fun e w' ⟨he, hd⟩ => ⟨he, ⟨by omega, trivial⟩, hd⟩
end
end Go.Proofs.YtbnlifldnjgpmaaGreatDoor.PWri
/- What a reading of a file answers, in plain terms: the first check that does not hold, or what is read. -/
set_option linter.unusedVariables false
set_option linter.unusedSimpArgs false
namespace Go.Proofs.YtbnlifldnjgpmaaGreatDoor.PWri
open Go.RowKit Go.Lib Go.Proofs.YtbnlifldnjgpmaaGreatDoorW.PrintWords Go.Proofs.YtbnlifldnjgpmaaGreatDoorW.PrintLast
abbrev Res (α : Type) : Type := Except (Int × Int) α
def chk {α : Type} (b : Bool) (a w : Int) (k : Res α) : Res α := if b = true then k else .error (a, w)
theorem chk_ok {α : Type} {b : Bool} {a w : Int} {k : Res α} (h : b = true) : chk b a w k = k := by rw [chk, if_pos h]
theorem chk_no {α : Type} {b : Bool} {a w : Int} {k : Res α} (h : b = false) : chk b a w k = .error (a, w) := by rw [chk, if_neg (by simp [h])]
def andThen {α β : Type} (x : Res α) (f : α → Res β) : Res β := match x with | .ok a => f a | .error e => .error e
theorem andThen_chk {α β : Type} (b : Bool) (a w : Int) (k : Res α) (f : α → Res β) : andThen (chk b a w k) f = chk b a w (andThen k f) := by cases b <;> rfl
theorem chk_and {α : Type} (b c : Bool) (a w : Int) (k : Res α) : chk (b && c) a w k = chk b a w (chk c a w k) := by cases b <;> rfl
theorem andThen_ok {α β : Type} (a : α) (f : α → Res β) : andThen (.ok a) f = f a := rfl
/-- How a function ends that gives up where a check fails: what it returns is told of its answer. -/
def Out {α : Type} (r : Res α) (ok : α → Value → World → Prop) (w : World) (e : Ending) (w' : World) : Prop :=
 (∃ a v, r = .ok a ∧ e = .returned v ∧ ok a v w' ∧ Below w.heap.size w w') ∨ (∃ at_ why a, r = .error (at_, why) ∧ e = .panicked [gone a] ∧ w'.heap[a]? = some (faultObj at_ why) ∧ w.heap.size ≤ a ∧ Below w.heap.size w w')
theorem Out.no {α : Type} {r : Res α} {ok : α → Value → World → Prop} {w W : World} {at_ why : Int} (h : r = .error (at_, why)) (hb : Below w.heap.size w W) : Out r ok w (.panicked [gone W.heap.size]) (W.alloc (faultObj at_ why)) :=
 .inr ⟨at_, why, W.heap.size, h, rfl, blk_new W _, hb.size, hb.alloc hb.size _⟩
theorem Out.yes {α : Type} {r : Res α} {ok : α → Value → World → Prop} {w W : World} {a : α} {v : Value} (h : r = .ok a) (ho : ok a v W) (hb : Below w.heap.size w W) : Out r ok w (.returned v) W :=
 .inl ⟨a, v, h, rfl, ho, hb⟩
def magicL : List Int := [127, 69, 76, 70, 2, 1, 1]
def magicS (l : List Int) : Nat → List Int → Res Unit → Res Unit
 | i, c :: r, k => chk (decide ((i : Int) < (l.length : Int))) (l.length : Int) 20 <| chk (l.getD i 0 == c) (i : Int) 21 <| magicS l (i + 1) r k
 | _, [], k => k
theorem magic_drop (j : Nat) (h : j < 7) : magicL.drop j = magicL.getD j 0 :: magicL.drop (j + 1) := by
 match j, h with
 | 0, _ => rfl
 | 1, _ => rfl
 | 2, _ => rfl
 | 3, _ => rfl
 | 4, _ => rfl
 | 5, _ => rfl
 | 6, _ => rfl
def headR3 (l : List Int) : Res Unit := chk (decide (rdN l 56 2 ≤ 16)) 56 2 <| chk (roomS l (rdN l 32 8) (56 * rdN l 56 2)) 32 20 <| .ok ()
def headR2 (l : List Int) : Res Unit := chk (rdN l 56 2 == 0 || rdN l 54 2 == 56) 54 22 (headR3 l)
def headR1 (l : List Int) : Res Unit :=
 chk (decide (64 ≤ (l.length : Int))) (l.length : Int) 20 <| chk (rdN l 16 2 == 2) 16 21 <| chk (rdN l 18 2 == 243) 18 21 <| chk (rdN l 20 4 == 1) 20 21 <| chk (rdN l 24 8 % 2 == 0) 24 22 <| chk (decide (rdN l 48 4 ≤ 1)) 48 22 <| chk (rdN l 52 2 == 64) 52 22 <| headR2 l
def headS (l : List Int) : Res Unit := magicS l 0 magicL (headR1 l)
theorem magicS_ok (l : List Int) : ∀ (m : List Int) (i : Nat) (k : Res Unit), magicS l i m k = .ok () → k = .ok ()
 | [], i, k, h => h
 | c :: m, i, k, h => by
  rw [magicS] at h
  unfold chk at h
  split at h
  ·split at h
   ·exact magicS_ok l m _ k h
   ·cases h
  ·cases h
/-- What a head that holds gives to the parts. -/
theorem head_gives {l : List Int} (h : headS l = .ok ()) : 64 ≤ l.length ∧ rdN l 56 2 ≤ 16 ∧ roomS l (rdN l 32 8) (56 * rdN l 56 2) = true ∧ rdN l 24 8 % 2 = 0 := by
 have h1 := magicS_ok l _ _ _ h
 unfold headR1 headR2 headR3 chk at h1
 split at h1
 ·rename_i e1
  split at h1
  ·split at h1
   ·split at h1
    ·split at h1
     ·rename_i e5
      split at h1
      ·split at h1
       ·split at h1
        ·split at h1
         ·rename_i e9
          split at h1
          ·rename_i e10
           refine ⟨?_, by simpa using e9, e10, by simpa using e5⟩
           have := of_decide_eq_true e1
           omega
          all_goals cases h1
         all_goals cases h1
        all_goals cases h1
       all_goals cases h1
      all_goals cases h1
     all_goals cases h1
    all_goals cases h1
   all_goals cases h1
  all_goals cases h1
 all_goals cases h1
theorem room_le {l : List Int} {a n : Int} (h : roomS l a n = true) : a ≤ (l.length : Int) ∧ a + n ≤ (l.length : Int) := by
 unfold roomS at h
 simp only [Bool.and_eq_true, decide_eq_true_eq] at h
 omega
def sumU (a b : Int) : Int := IntKind.u64.wrap (a + IntKind.u64.wrap (b - 1))
/-- Does a part end at an address? -/
def fitsB (addr size : Int) : Bool := decide (addr ≤ sumU addr size)
/-- Has a part no address in common with another? -/
def apartB (s : S55) (addr size : Int) : Bool := decide (sumU s.f0 s.f1 < addr) || decide (sumU addr size < s.f0)
def turnS (f : Int) : Int := Go.bits .or .i64 (Go.bits .or .i64 (wrap64 ((Go.bits .and .i64 f 1) * 4)) (Go.bits .and .i64 f 2)) (Go.bits .and .i64 (f / 4) 1)
/-- The checks of a part whose header stands at h, and what it gives. -/
def segS (l : List Int) (h : Int) (out : List S55) : Res (List S55) :=
 chk (decide (rdN l (h + 4) 4 ≤ 7)) (h + 4) 23 <| chk (decide (rdN l (h + 32) 8 ≤ rdN l (h + 40) 8)) (h + 32) 23 <|
  chk (roomS l (rdN l (h + 8) 8) (rdN l (h + 32) 8)) (h + 8) 20 <| chk (fitsB (rdN l (h + 24) 8) (rdN l (h + 40) 8)) (h + 24) 23 <|
  chk (out.all fun s => apartB s (rdN l (h + 24) 8) (rdN l (h + 40) 8)) (h + 24) 24 <|
  .ok (out ++ [⟨rdN l (h + 24) 8, rdN l (h + 40) 8, turnS (rdN l (h + 4) 4), (l.drop (rdN l (h + 8) 8).toNat).take (rdN l (h + 32) 8).toNat⟩])
def partS (l : List Int) (h : Int) (out : List S55) : Res (List S55) :=
 if rdN l h 4 ≠ 1 ∨ (rdN l (h + 32) 8 = 0 ∧ rdN l (h + 40) 8 = 0) then .ok out else segS l h out
/-- From header i on, m headers. -/
def partsS (l : List Int) (h0 : Int) : Nat → Int → List S55 → Res (List S55)
 | 0, _, out => .ok out
 | m + 1, i, out => andThen (partS l (h0 + 56 * i) out) (partsS l h0 m (i + 1))
def secS (l : List Int) (i : Int) : Int := rdN l 40 8 + 64 * i
/-- The first section of kind 2, from section i on, m sections. -/
def findS (l : List Int) : Nat → Int → Option Int
 | 0, _ => none
 | m + 1, i => if rdN l (rdN l 40 8 + 64 * i + 4) 4 = 2 then some (rdN l 40 8 + 64 * i) else findS l m (i + 1)
def tableS (l : List Int) : Res (Option Int) :=
 if rdN l 60 2 = 0 ∨ rdN l 40 8 = 0 then .ok none
 else chk (rdN l 58 2 == 64) 58 22 <| chk (roomS l (rdN l 40 8) (64 * rdN l 60 2)) 40 20 <| .ok (findS l (rdN l 60 2).toNat 0)
/-- The bytes up to a byte 0. -/
def upto0 : List Int → Option (List Int)
 | [] => none
 | c :: r => if c = 0 then some [] else (upto0 r).map (c :: ·)
def symEq (a b : S82) : Bool := a.f0.toList == b.f0.toList && a.f1 == b.f1
/-- Is an entry of the table passed over? -/
def skipB (l : List Int) (y : Int) (nm : ByteArray) (out : List S82) : Bool :=
 !nameB nm || (rdN l (y + 4) 1 % 16 == 3 || (rdN l (y + 4) 1 % 16 == 4 || (rdN l (y + 6) 2 == 0 || out.any fun s => symEq s ⟨nm, rdN l (y + 8) 8⟩)))
def symS (l texts : List Int) (y : Int) (out : List S82) : Res (List S82) :=
 chk (decide (rdN l y 4 < (texts.length : Int))) y 25 <|
 match upto0 (texts.drop (rdN l y 4).toNat) with
 | none => .error (y, 25)
 | some nm =>
  if skipB l y (strOfNums nm) out = true then .ok out
  else chk (decide ((out.length : Int) < 400)) y 2 <| .ok (out ++ [⟨strOfNums nm, rdN l (y + 8) 8⟩])
def symsS (l texts : List Int) (first : Int) : Nat → Int → List S82 → Res (List S82)
 | 0, _, out => .ok out
 | m + 1, i, out => andThen (symS l texts (first + 24 * i) out) (symsS l texts first m (i + 1))
def namesS (l : List Int) : Res (List S82) :=
 andThen (tableS l) fun o => match o with
 | none => .ok []
 | some s =>
  chk (rdN l (s + 56) 8 == 24) (s + 56) 25 <| chk (rdN l (s + 32) 8 % 24 == 0) (s + 32) 25 <| chk (roomS l (rdN l (s + 24) 8) (rdN l (s + 32) 8)) (s + 24) 20 <|
  chk (decide (rdN l (s + 40) 4 < rdN l 60 2) && (rdN l (secS l (rdN l (s + 40) 4) + 4) 4 == 3)) (s + 40) 25 <|
  chk (roomS l (rdN l (secS l (rdN l (s + 40) 4) + 24) 8) (rdN l (secS l (rdN l (s + 40) 4) + 32) 8)) (secS l (rdN l (s + 40) 4) + 24) 20 <|
  symsS l ((l.drop (rdN l (secS l (rdN l (s + 40) 4) + 24) 8).toNat).take (rdN l (secS l (rdN l (s + 40) 4) + 32) 8).toNat) (rdN l (s + 24) 8) ((rdN l (s + 32) 8 / 24).toNat - 1) 1 []
end Go.Proofs.YtbnlifldnjgpmaaGreatDoor.PWri
