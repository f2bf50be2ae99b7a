/- The writer's put and text at a place of its bytes: what stands there is replaced; with the literal of numbers that a call builds. -/
import Derived.Test.YtbnlifldnjgpmaaGreatDoorCText
set_option linter.unusedVariables false
set_option linter.unusedSimpArgs false
namespace Go.Proofs.YtbnlifldnjgpmaaGreatDoor
open Go.RowKit Go.Lib Go.Proofs.YtbnlifldnjgpmaaGreatDoorW.PrintWords
/-- The bytes b laid over L from place p on. -/
def putAt (L : List Int) (p : Nat) (b : List Int) : List Int := L.take p ++ b ++ L.drop (p + b.length)
theorem putAt_length {L b : List Int} {p : Nat} (h : p + b.length ≤ L.length) : (putAt L p b).length = L.length := by
 unfold putAt
 rw [List.length_append, List.length_append, List.length_take, List.length_drop]
 omega
theorem putL_length (size : Nat) : ∀ l : List Int, (putL size l).length = size * l.length
 | [] => rfl
 | v :: l => by
  show (le size v ++ putL size l).length = _
  rw [List.length_append, le_length, putL_length size l, List.length_cons, Nat.mul_succ]
  omega
theorem WIs.alloc {w : World} {g bb p : Nat} {L : List Int} (h : WIs w g bb p L) (o : Obj) : WIs (w.alloc o) g bb p L := ⟨kAl h.wr o, kAl h.by_ o⟩
theorem WIs.drewN {w : World} {g bb p : Nat} {L : List Int} (h : WIs w g bb p L) (n : Nat) : WIs (w.drewN n) g bb p L := ⟨h.wr, h.by_⟩
theorem WIs.far {w : World} {g bb p : Nat} {L : List Int} (h : WIs w g bb p L) {a : Addr} (h1 : g ≠ a.block) (h2 : bb ≠ a.block) (u : Value) : WIs (w.setCell a u) g bb p L := ⟨blk_far h.wr h1 u, blk_far h.by_ h2 u⟩
/-- The place is set. -/
theorem WIs.at_ {w : World} {g bb p : Nat} {L : List Int} (h : WIs w g bb p L) (hne : g ≠ bb) (q : Nat) : WIs (w.setCell ⟨g, 1, none⟩ (.int .i64 (q : Int))) g bb q L :=
 ⟨by have := blk_set h.wr 1 (.int .i64 (q : Int)); rw [this]; simp, blk_far h.by_ (p := ⟨g, 1, none⟩) (Ne.symm hne) _⟩
theorem C_lit (w : World) (l : List Int) (h : l.length ≤ 9223372036854775807) : Kd.C (Kd.int .u64) (w.alloc (.cells (l.map (Value.int .u64)).toArray 24)) (some ⟨w.heap.size, 0, none⟩) l.length l :=
 ⟨rfl, h, fun _ => ⟨_, rfl, fun j p hp => ⟨[.int .u64 p], rfl, rfl, fun i u hu => by
  match i, hu with
  | 0, hu =>
   simp at hu
   subst hu
   have e : Addr.add ⟨w.heap.size, 0, none⟩ (j * 1 + 0) = ⟨w.heap.size, j, none⟩ := by simp [Addr.add]; omega
   show (w.alloc _).cell? (Addr.add ⟨w.heap.size, 0, none⟩ (j * 1 + 0)) = _
   rw [e, kCe (blk_new w _) j]
   simp [hp]⟩⟩⟩
theorem put_w (g bb size place : Nat) (L l : List Int) (vs : Array Value) (w : World) (hW : WIs w g bb place L) (hvs : vs = (l.map (Value.int .u64)).toArray) (n : Nat) (hnl : l.length = n) (hll : l.length ≤ 9223372036854775807) (k : Nat) (hk : w.heap.size = k) (hne : g ≠ bb) (hn : L.length < 4611686018427387904) (hsz : size ≤ 8) (hfit : place + size * n ≤ L.length) :
 Calls Tryz.prog 46 #[.pointer (some ⟨g, 0, none⟩), .int .i64 (size : Int), .slice (some ⟨k, 0, none⟩) n n] (w.alloc (.cells vs 24)) fun e w' =>
  e = .returned (.tuple #[]) ∧ WIs w' g bb (place + size * n) (putAt L place (putL size l)) ∧ Kp w w' (S2 g bb) := by
 subst hvs hnl hk
 have hg : g < w.heap.size := blk_lt hW.wr
 have hb : bb < w.heap.size := blk_lt hW.by_
 have hpl := putL_length size l
 have hd : L.take place ++ L.drop place = L := List.take_append_drop _ _
 have hl1 : (L.take place).length = place := by rw [List.length_take]; omega
 have hW2 : WIs (w.alloc (.cells (l.map (Value.int .u64)).toArray 24)) g bb (L.take place).length (L.take place ++ L.drop place) := by
  rw [hd, hl1]
  exact hW.alloc _
 refine (put_c g bb size l.length _ l (L.take place) (L.drop place) _ hW2 hne (by rw [hd]; exact hn) (C_lit w l hll) (Nat.le_refl _) (fun ad e => by cases e; exact ⟨by show w.heap.size ≠ g; omega, by show w.heap.size ≠ bb; omega⟩) (by rw [hpl, List.length_drop]; omega) hsz).mono ?_
 rintro e w' ⟨rfl, h1, h2⟩
 refine ⟨rfl, ?_, (Kp.alloc (Kp.refl w _) _).then_ h2 (fun k hk => .inl hk)⟩
 have e1 : (L.take place ++ putL size l).length = place + size * l.length := by rw [List.length_append, hl1, hpl]
 rw [e1] at h1
 have e2 : L.take place ++ putL size l ++ (L.drop place).drop (putL size l).length = putAt L place (putL size l) := by
  unfold putAt
  rw [List.drop_drop]
 rw [e2] at h1
 exact h1
theorem text_w (g bb place : Nat) (s : ByteArray) (L : List Int) (w : World) (hW : WIs w g bb place L) (hne : g ≠ bb) (hn : L.length < 4611686018427387904) (hfit : place + s.size ≤ L.length) (hpos : 0 < s.size) :
 Calls Tryz.prog 45 #[.pointer (some ⟨g, 0, none⟩), .string s] w fun e w' =>
  e = .returned (.tuple #[]) ∧ WIs w' g bb (place + s.size) (putAt L place (strL s)) ∧ Kp w w' (S2 g bb) := by
 have hd : L.take place ++ L.drop place = L := List.take_append_drop _ _
 have hl1 : (L.take place).length = place := by rw [List.length_take]; omega
 have hsl : (strL s).length = s.size := by unfold strL; rw [List.length_map, ← Lib.size_eq]
 have hW2 : WIs w g bb (L.take place).length (L.take place ++ L.drop place) := by
  rw [hd, hl1]
  exact hW
 refine (text_c g bb s (L.take place) (L.drop place) w hW2 hne (by rw [hd]; exact hn) (by rw [List.length_drop]; omega) hpos).mono ?_
 rintro e w' ⟨rfl, h1, h2⟩
 refine ⟨rfl, ?_, h2⟩
 rw [List.length_append, hl1, hsl, ← hsl] at h1
 have e2 : L.take place ++ strL s ++ (L.drop place).drop (strL s).length = putAt L place (strL s) := by
  unfold putAt
  rw [List.drop_drop]
 rw [e2, hsl] at h1
 exact h1
end Go.Proofs.YtbnlifldnjgpmaaGreatDoor
