/- The sample: it is checked, written and read; and the facts that stay. -/
import Derived.Test.YtbnlifldnjgpmaaGreatDoorCWrite1c
import Derived.Test.YtbnlifldnjgpmaaGreatDoorCGr4
import Derived.Deep.QuietTactic
import Derived.BigQuiet
set_option linter.unusedVariables false
set_option linter.unusedSimpArgs false
namespace Go.Proofs.YtbnlifldnjgpmaaGreatDoor.PWri
open Go.RowKit Go.Lib Go.Proofs.YtbnlifldnjgpmaaGreatDoorW.PrintWords Go.Proofs.YtbnlifldnjgpmaaGreatDoorW.PrintLast
abbrev Seg := S55
abbrev Sym := S82
/-- A fact that stays whatever is laid behind. -/
def Still (W : World) (P : World → Prop) : Prop := ∀ W', Below W.heap.size W W' → P W'
theorem Still.now {W : World} {P : World → Prop} (h : Still W P) : P W := h W (Below.refl _ _)
theorem Still.step {W W' : World} {P : World → Prop} (h : Still W P) (hb : Below W.heap.size W W') : Still W' P := fun W2 h2 => h W2 (hb.trans (h2.mono hb.size))
theorem Still.alloc {W : World} {P : World → Prop} (h : Still W P) (o : Obj) : Still (W.alloc o) P := h.step ((Below.refl _ W).alloc (Nat.le_refl _) o)
theorem Still.drew {W : World} {P : World → Prop} (h : Still W P) : Still W.drew P := h.step (below_drew (Below.refl _ W))
theorem Still.and {W : World} {P Q : World → Prop} (h : Still W P) (k : Still W Q) : Still W (fun W' => P W' ∧ Q W') := fun W' hb => ⟨h W' hb, k W' hb⟩
theorem Still.imp {W : World} {P Q : World → Prop} (h : Still W P) (k : ∀ W', P W' → Q W') : Still W Q := fun W' hb => k W' (h W' hb)
/-- A box that stands. -/
theorem still_box (W : World) (o : Obj) : Still (W.alloc o) (fun W' => W'.heap[W.heap.size]? = some o) := fun W' hb => kBe (blk_new W o) hb
structure Base (w W : World) : Prop where
 below : Below w.heap.size w W
 glob : Glob W
 errT : ErrT W
theorem still0 (w : World) (hG : Glob w) (hE : ErrT w) : Still w (Base w) := fun W hb => ⟨hb, Glob.step hG hb, hE.below hb⟩
theorem still_C {α : Type} {d : Kd α} {w : World} {A : Option Addr} {n c : Nat} {l : List α} (h : Kd.C d w A n l ∧ l.length ≤ c) : Still w (fun W => Kd.C d W A n l ∧ l.length ≤ c) := fun W hb => ⟨Kd.C_below h.1 hb, h.2⟩
theorem still_R {w : World} {base : Nat} {ok : Nat → Prop} {v : Value} {l : List Int} (h : Kd.R (Kd.int .u8) 5 w base ok v l) : Still w (fun W => Kd.R (Kd.int .u8) 5 W base ok v l) := fun W hb => Kd.R_below h hb
theorem R_as {w : World} {base : Nat} {ok : Nat → Prop} {A : Option Addr} {n c m : Nat} {F : List Int} (h : Kd.R (Kd.int .u8) 5 w base ok (.slice A n c) F) (hn : n = m) (hm : F.length = m) : m ≤ c ∧ Kd.C (Kd.int .u8) w A m F := by
 subst hn
 rw [← hm] at h ⊢
 exact (Kd.R_reads' h).2
theorem R_cut {w : World} {base : Nat} {ok : Nat → Prop} {A : Option Addr} {c : Nat} {F : List Int} (h : Kd.R (Kd.int .u8) 5 w base ok (.slice A F.length c) F) (m : Nat) (hm : m ≤ F.length) : (F.take m).length ≤ c ∧ Kd.C (Kd.int .u8) w A (F.take m).length (F.take m) := by
 have h2 := Kd.R_reads' (Kd.R_take h (m := m) hm)
 rw [show (F.take m).length = m by rw [List.length_take]; omega] at h2 ⊢
 exact h2.2
abbrev ImgV (en : Int) (A1 : Option Addr) (n1 c1 : Nat) (A2 : Option Addr) (n2 c2 : Nat) : Value := .agg #[.int .u64 en, .slice A1 n1 c1, .slice A2 n2 c2]
abbrev zeroV : Value := .agg #[.int .u64 0, .slice none 0 0, .slice none 0 0]
theorem C_none {α : Type} (d : Kd α) (w : World) : Kd.C d w none 0 ([] : List α) := (Kd.R_reads' (Kd.R_nil d 0 w 0 (fun _ => True))).2.2
/-- An image of the reader's own. -/
def OwnIm (w' : World) (B : Nat) (A1 : Option Addr) (c1 : Nat) (l1 : List Seg) (A2 : Option Addr) (c2 : Nat) (l2 : List Sym) : Prop :=
 Kd.R k55 55 w' B (fun k => B ≤ k) (.slice A1 l1.length c1) l1 ∧ Kd.R k82 82 w' B (fun k => B ≤ k) (.slice A2 l2.length c2) l2
theorem OwnIm.step {w w' : World} {B : Nat} {A1 A2 : Option Addr} {c1 c2 : Nat} {l1 : List Seg} {l2 : List Sym} (h : OwnIm w B A1 c1 l1 A2 c2 l2) (hb : Below w.heap.size w w') : OwnIm w' B A1 c1 l1 A2 c2 l2 := ⟨Kd.R_below h.1 hb, Kd.R_below h.2 hb⟩
theorem OwnIm.c1 {w : World} {B : Nat} {A1 A2 : Option Addr} {c1 c2 : Nat} {l1 : List Seg} {l2 : List Sym} (h : OwnIm w B A1 c1 l1 A2 c2 l2) : Kd.C k55 w A1 l1.length l1 ∧ l1.length ≤ c1 := ⟨(Kd.R_reads' h.1).2.2, (Kd.R_reads' h.1).2.1⟩
theorem OwnIm.c2 {w : World} {B : Nat} {A1 A2 : Option Addr} {c1 c2 : Nat} {l1 : List Seg} {l2 : List Sym} (h : OwnIm w B A1 c1 l1 A2 c2 l2) : Kd.C k82 w A2 l2.length l2 ∧ l2.length ≤ c2 := ⟨(Kd.R_reads' h.2).2.2, (Kd.R_reads' h.2).2.1⟩
theorem still_own {w : World} {B : Nat} {A1 A2 : Option Addr} {c1 c2 : Nat} {l1 : List Seg} {l2 : List Sym} (h : OwnIm w B A1 c1 l1 A2 c2 l2) : Still w (fun W => OwnIm W B A1 c1 l1 A2 c2 l2) := fun W hb => h.step hb
def sl1 : List Seg := [⟨2147483648, 6, 5, [1, 2, 3, 4]⟩]
def sl2 : List Sym := [⟨⟨#[95, 115, 116, 97, 114, 116]⟩, 2147483648⟩]
theorem sl_lay : image_lay.f 9 2147483648 sl1 sl2 = some ([120], 128, 176, 184, 216, 472) := by decide +kernel
theorem sl_ok : LayOk sl1 sl2 [120] 128 176 184 216 472 := ⟨rfl, by decide +kernel, by decide, by decide, by decide, fun _ => ⟨by decide, by decide, by decide, by decide, by decide, fun s hs => by rw [List.mem_singleton.1 hs]; decide⟩⟩
def slF : List Int := fileL 2147483648 sl1 sl2 [120] 128 176 184 216 472
theorem sl_len : slF.length = 472 := by decide +kernel
theorem sl_bytes : Bytes slF := by
 have h : slF.all (fun x => decide (0 ≤ x ∧ x < 256)) = true := by decide +kernel
 intro x hx
 exact of_decide_eq_true (List.all_eq_true.1 h x hx)
theorem sl_read : readS slF = .ok (2147483648, sl1, sl2) := by kernel_rfl
theorem read_nil : ∃ e, readS [] = .error e := ⟨(0, 20), by kernel_rfl⟩
theorem sl_alike : anvillaw02_alike.f 9 2147483648 sl1 sl2 2147483648 sl1 sl2 = some true := by decide +kernel
set_option maxHeartbeats 16000000 in
set_option maxRecDepth 1000000 in
theorem sl_chk0 {A1 A2 : Option Addr} {c1 c2 : Nat} (w : World) (hr1 : Kd.C k55 w A1 sl1.length sl1) (hc1 : sl1.length ≤ c1) (hr2 : Kd.C k82 w A2 sl2.length sl2) (hc2 : sl2.length ≤ c2)
 (CF : ∀ W, Calls Tryz.prog 41 #[.int .u64 2147483648, .int .u64 6] W fun e w' => e = .returned (.bool true) ∧ Drawn0 W w')
 (CN : ∀ W, Below w.heap.size w W → Calls Tryz.prog 42 #[.string ⟨#[95, 115, 116, 97, 114, 116]⟩] W fun e w' => e = .returned (.bool true) ∧ Below W.heap.size W w')
 (CL : ∀ W, Below w.heap.size w W → Calls Tryz.prog 44 #[.agg #[.int .u64 2147483648, .slice A1 1 c1, .slice A2 1 c2]] W fun e w' => ∃ v0, e = .returned (.agg #[v0, .int .i64 128, .int .i64 176, .int .i64 184, .int .i64 216, .int .i64 472]) ∧ Below W.heap.size W w') :
  Calls Tryz.prog 18 #[.agg #[.int .u64 2147483648, .slice A1 1 c1, .slice A2 1 c2]] w fun e w' => e = .returned (.int .i64 0) ∧ Below w.heap.size w w' := by
 obtain ⟨ad, A3, c3, e1, g0, g1, g2, g3, gl, gi⟩ := at_T55 hr1 0 (by decide) (by decide)
 cases e1
 obtain ⟨bd, e2, s0, s1⟩ := at_T82 hr2 0 (by decide) (by decide)
 cases e2
 have HN := Lib.hid CN
 have HL := Lib.hid CL
 have HF := Lib.hid CF
 clear gi CN CL CF
 change w.cell? ad = some (.int .u64 2147483648) at g0
 change w.cell? ⟨ad.block, ad.off + 1, none⟩ = some (.int .u64 6) at g1
 change w.cell? ⟨ad.block, ad.off + 2, none⟩ = some (.int .i64 5) at g2
 change w.cell? ⟨ad.block, ad.off + 3, none⟩ = some (.slice A3 4 c3) at g3
 change w.cell? bd = some (.string ⟨#[95, 115, 116, 97, 114, 116]⟩) at s0
 change w.cell? ⟨bd.block, bd.off + 1, none⟩ = some (.int .u64 2147483648) at s1
 clear hr1 hr2 gl hc1 hc2
 have hfd : ∀ (c0_ c1_ c2_ c3_ c4_ c5_ : Value) (W_ : World), (Instr.field 87 (.agg #[c0_, c1_, c2_, c3_, c4_, c5_]) 5).run Tryz.prog W_ = .ok (c5_) W_ := fun c0_ c1_ c2_ c3_ c4_ c5_ W_ => by kernel_rfl
 go_enter Tryz.func18, Tryz.ntmps18
 have i0 : (w.alloc (.cells #[Value.int .u64 2147483648, Value.slice (some ad) 1 c1, Value.slice (some bd) 1 c2] 28)).cell? ⟨w.heap.size, 0, none⟩ = some (Value.int .u64 2147483648) := kCe (blk_new w _) 0
 have i1 : (w.alloc (.cells #[Value.int .u64 2147483648, Value.slice (some ad) 1 c1, Value.slice (some bd) 1 c2] 28)).cell? ⟨w.heap.size, 1, none⟩ = some (Value.slice (some ad) 1 c1) := kCe (blk_new w _) 1
 have i2 : (w.alloc (.cells #[Value.int .u64 2147483648, Value.slice (some ad) 1 c1, Value.slice (some bd) 1 c2] 28)).cell? ⟨w.heap.size, 2, none⟩ = some (Value.slice (some bd) 1 c2) := kCe (blk_new w _) 2
 go_upto_region 5 with (go_in)
 obtain ⟨W1, hW1⟩ : ∃ W1, w.alloc (.cells #[Value.int .u64 2147483648, Value.slice (some ad) 1 c1, Value.slice (some bd) 1 c2] 28) = W1 := ⟨_, rfl⟩
 have B1 : Below w.heap.size w W1 := by rw [← hW1]; exact (Below.refl _ _).alloc (Nat.le_refl _) _
 rw [hW1] at i0 i1 i2 ⊢
 have z1 : w.heap.size < W1.heap.size := by rw [← hW1]; simp
 clear hW1
 obtain ⟨b, hb⟩ : ∃ b, w.heap.size = b := ⟨_, rfl⟩
 have HB1 := Lib.hid B1
 have HZ1 := Lib.hid z1
 have q0 := B1.cell (World.block_lt_of_cell? w _ g0) |>.trans g0
 have q1 := B1.cell (World.block_lt_of_cell? w _ g1) |>.trans g1
 have q2 := B1.cell (World.block_lt_of_cell? w _ g2) |>.trans g2
 have q3 := B1.cell (World.block_lt_of_cell? w _ g3) |>.trans g3
 have q4 := B1.cell (World.block_lt_of_cell? w _ s0) |>.trans s0
 have q5 := B1.cell (World.block_lt_of_cell? w _ s1) |>.trans s1
 clear g0 g1 g2 g3 s0 s1 B1 z1
 rw [hb] at i0 i1 i2 ⊢
 go_wp2
 refine wp_loop_rounds 2 ?_
 rw [rounds_succ]
 go_wp2_with (go_at_call 41; refine (HF.out _).mono ?_; rintro e w' ⟨rfl, ⟨nd, rfl⟩⟩)
 obtain ⟨W2, hW2⟩ : ∃ W2, (W1.alloc (.cells #[Value.int .u64 2147483648, Value.int .u64 6, Value.int .i64 5, Value.slice A3 4 c3] 55)).drewN nd = W2 := ⟨_, rfl⟩
 have h12 : Below W1.heap.size W1 W2 := by rw [← hW2]; exact bDn ((Below.refl _ _).alloc (Nat.le_refl _) _) _
 have hB2 := Lib.hid (HB1.out.trans (h12.mono HB1.out.size))
 have hZ2 := Lib.hid (Nat.lt_of_lt_of_le HZ1.out h12.size)
 replace i0 := (h12.cell (World.block_lt_of_cell? W1 _ i0)).trans i0
 replace i1 := (h12.cell (World.block_lt_of_cell? W1 _ i1)).trans i1
 replace i2 := (h12.cell (World.block_lt_of_cell? W1 _ i2)).trans i2
 replace q4 := (h12.cell (World.block_lt_of_cell? W1 _ q4)).trans q4
 replace q5 := (h12.cell (World.block_lt_of_cell? W1 _ q5)).trans q5
 rw [hW2]
 clear hW2 h12 q0 q1 q2 q3 HB1 HZ1
 go_quiet (fail)
 go_wp2
 rw [rounds_succ]
 go_wp2
 refine wp_loop_rounds 2 ?_
 rw [rounds_succ]
 obtain ⟨W3, hW3⟩ : ∃ W3, W2.drewN nq = W3 := ⟨_, rfl⟩
 have h23 : Below W2.heap.size W2 W3 := by rw [← hW3]; exact bDn (Below.refl _ _) _
 have hB3 := Lib.hid (hB2.out.trans (h23.mono hB2.out.size))
 have hZ3 := Lib.hid (Nat.lt_of_lt_of_le hZ2.out h23.size)
 replace i0 := (h23.cell (World.block_lt_of_cell? W2 _ i0)).trans i0
 replace i1 := (h23.cell (World.block_lt_of_cell? W2 _ i1)).trans i1
 replace i2 := (h23.cell (World.block_lt_of_cell? W2 _ i2)).trans i2
 replace q4 := (h23.cell (World.block_lt_of_cell? W2 _ q4)).trans q4
 replace q5 := (h23.cell (World.block_lt_of_cell? W2 _ q5)).trans q5
 rw [hW3]
 clear hW3 h23 hB2 hZ2
 go_wp2_with (go_at_call 42; refine (HN.out _ (hB3.out.alloc hB3.out.size _)).mono ?_; rintro e w4 ⟨rfl, hd⟩; have h34 := ((Below.refl W3.heap.size W3).alloc (Nat.le_refl _) _).trans (hd.mono (by simp)); have hB4 := Lib.hid (hB3.out.trans (h34.mono hB3.out.size)); replace i0 := (h34.cell (World.block_lt_of_cell? W3 _ i0)).trans i0; replace i1 := (h34.cell (World.block_lt_of_cell? W3 _ i1)).trans i1; replace i2 := (h34.cell (World.block_lt_of_cell? W3 _ i2)).trans i2; clear hd h34 q4 q5 hB3 hZ3)
 go_quiet (fail)
 go_wp2
 rw [rounds_succ]
 go_wp2_with (go_at_call 44; refine (HL.out _ (bDn hB4.out _)).mono ?_; rintro e w5 ⟨v0, rfl, hd⟩; have hB5 := Lib.hid ((bDn hB4.out nq).trans (hd.mono (bDn hB4.out nq).size)); clear hd)
 go_ret
 exact ⟨rfl, hB5.out⟩
theorem sl_chk {A1 A2 : Option Addr} {c1 c2 : Nat} (w : World) (hr1 : Kd.C k55 w A1 sl1.length sl1) (hc1 : sl1.length ≤ c1) (hr2 : Kd.C k82 w A2 sl2.length sl2) (hc2 : sl2.length ≤ c2) (hG : Glob w) :
 Calls Tryz.prog 18 #[ImgV 2147483648 A1 sl1.length c1 A2 sl2.length c2] w fun e w' => e = .returned (.int .i64 0) ∧ Below w.heap.size w w' := by
 refine sl_chk0 w hr1 hc1 hr2 hc2 (fun W => image_fits.calls 2147483648 6 true W (by decide)) (fun W hb => ?_) (fun W hb => ?_)
 ·have h := isName_calls ⟨#[95, 115, 116, 97, 114, 116]⟩ W (by decide) (Glob.step hG hb)
  rw [show nameB ⟨#[95, 115, 116, 97, 114, 116]⟩ = true by decide +kernel] at h
  exact h
 ·refine (image_lay.calls 9 2147483648 A1 c1 sl1 A2 c2 sl2 [120] 128 176 184 216 472 W (Kd.C_below hr1 hb) hc1 (Kd.C_below hr2 hb) hc2 sl_lay).mono ?_
  rintro e w' ⟨v0, h1, _, h3⟩
  exact ⟨v0, h1, h3⟩
theorem write_law {A1 A2 : Option Addr} {c1 c2 : Nat} (w : World) (hr1 : Kd.C k55 w A1 sl1.length sl1) (hc1 : sl1.length ≤ c1) (hr2 : Kd.C k82 w A2 sl2.length sl2) (hc2 : sl2.length ≤ c2) (hG : Glob w) :
 Calls Tryz.prog 20 #[ImgV 2147483648 A1 sl1.length c1 A2 sl2.length c2] w fun en w' => ∃ A n, en = .returned (.tuple #[.slice A slF.length n, .int .i64 0]) ∧
  Kd.R (Kd.int .u8) 5 w' w.heap.size (fun _ => True) (.slice A slF.length n) slF ∧ Below w.heap.size w w' := by
 refine (write_1 9 2147483648 A1 c1 sl1 A2 c2 sl2 w hr1 hc1 hr2 hc2 (fun W hb => sl_chk W (Kd.C_below hr1 hb) hc1 (Kd.C_below hr2 hb) hc2 (Glob.step hG hb)) [120] 128 176 184 216 472 sl_lay sl_ok (by decide)).mono ?_
 rintro en w' ⟨v, rfl, hR, hb⟩
 obtain ⟨A, n, rfl⟩ := Kd.R_slice hR
 exact ⟨A, n, rfl, hR, hb⟩
theorem alike_two {A1 A2 B1 B2 : Option Addr} {c1 c2 d1 d2 : Nat} (w : World) (hr1 : Kd.C k55 w A1 sl1.length sl1 ∧ sl1.length ≤ c1) (hr2 : Kd.C k82 w A2 sl2.length sl2 ∧ sl2.length ≤ c2) (hr3 : Kd.C k55 w B1 sl1.length sl1 ∧ sl1.length ≤ d1) (hr4 : Kd.C k82 w B2 sl2.length sl2 ∧ sl2.length ≤ d2) :
 Calls Tryz.prog 16 #[ImgV 2147483648 A1 sl1.length c1 A2 sl2.length c2, ImgV 2147483648 B1 sl1.length d1 B2 sl2.length d2] w fun en w' => en = .returned (.bool true) ∧ Below w.heap.size w w' :=
 anvillaw02_alike.calls 9 2147483648 A1 c1 sl1 A2 c2 sl2 2147483648 B1 d1 sl1 B2 d2 sl2 true w hr1.1 hr1.2 hr2.1 hr2.2 hr3.1 hr3.2 hr4.1 hr4.2 sl_alike
section
variable {l : List Int} {A : Option Addr} {c : Nat}
theorem read_yes (hc : 472 ≤ c) (w : World) (hC : Kd.C (Kd.int .u8) w A 472 slF) (hG : Glob w) (hE : ErrT w) :
 Calls Tryz.prog 11 #[.slice A 472 c] w fun e w' => ∃ A1 c1 A2 c2, e = .returned (.tuple #[ImgV 2147483648 A1 sl1.length c1 A2 sl2.length c2, .nilIface]) ∧ OwnIm w' w.heap.size A1 c1 sl1 A2 c2 sl2 ∧ Below w.heap.size w w' := by
 rw [← sl_len] at hC hc ⊢
 refine (read_c slF A c sl_bytes (by rw [sl_len]; decide) hc w hC hG hE).mono ?_
 rintro e w' (⟨en', segs, syms, v1, v2, ps, qs, ys, h1, h2, h3, h4, h5, h6, h7, h8, h9, h10⟩ | ⟨at_, why, a, h1, h2, h3, h4, h5⟩)
 ·rw [sl_read] at h1
  cases h1
  have p1 : (ps.map (·.1)).Perm sl1 := h3 ▸ h4.map _
  have e1 := List.perm_singleton.1 p1
  have e2 := List.perm_singleton.1 h7
  have R1 := Kd.R_mono (Kd.R_bound h6.R) (ok' := fun k => w.heap.size ≤ k) (fun k hk => hk.2.1)
  have R2 := Kd.R_mono (Kd.R_bound (R_of_ownY h9)) (ok' := fun k => w.heap.size ≤ k) (fun k hk => hk.2.1)
  rw [e1] at R1
  rw [e2] at R2
  obtain ⟨A1, c1, rfl⟩ := Kd.R_slice R1
  obtain ⟨A2, c2, rfl⟩ := Kd.R_slice R2
  exact ⟨A1, c1, A2, c2, h2, ⟨R1, R2⟩, h10⟩
 ·rw [sl_read] at h1
  cases h1
theorem read_no (w : World) (hG : Glob w) (hE : ErrT w) :
 Calls Tryz.prog 11 #[.slice none 0 0] w fun e w' => ∃ a, e = .returned (.tuple #[zeroV, .iface 75 (.pointer (some ⟨a, 0, none⟩))]) ∧ Below w.heap.size w w' := by
 refine (read_c [] none 0 (fun x hx => by cases hx) (by decide) (Nat.le_refl _) w (C_none _ w) hG hE).mono ?_
 rintro e w' (⟨en', segs, syms, v1, v2, ps, qs, ys, h1, h2, h3, h4, h5, h6, h7, h8, h9, h10⟩ | ⟨at_, why, a, h1, h2, h3, h4, h5⟩)
 ·obtain ⟨e0, he0⟩ := read_nil
  rw [he0] at h1
  cases h1
 ·exact ⟨a, h2, h5⟩
end
theorem sample_law (w : World) : Calls Tryz.prog 21 #[] w fun en w' => ∃ B1 d1 B2 d2, en = .returned (ImgV 2147483648 B1 sl1.length d1 B2 sl2.length d2) ∧
 (Kd.C k55 w' B1 sl1.length sl1 ∧ sl1.length ≤ d1) ∧ (Kd.C k82 w' B2 sl2.length sl2 ∧ sl2.length ≤ d2) ∧ Below w.heap.size w w' := by
 refine (anvillaw02_sample.calls 2147483648 sl1 sl2 w rfl).mono ?_
 rintro en w' ⟨v1, v2, rfl, hN, hR, hb⟩
 obtain ⟨B1, d1, rfl⟩ := Kd.N_slice hN
 obtain ⟨B2, d2, rfl⟩ := Kd.R_slice hR
 obtain ⟨_, g1, g2⟩ := Kd.N_reads' hN
 obtain ⟨_, g3, g4⟩ := Kd.R_reads' hR
 exact ⟨B1, d1, B2, d2, rfl, ⟨g2, g1⟩, ⟨g4, g3⟩, hb⟩
end Go.Proofs.YtbnlifldnjgpmaaGreatDoor.PWri
