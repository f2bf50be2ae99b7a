/- image.Write: an image with names. -/
import Derived.Test.YtbnlifldnjgpmaaGreatDoorCWriteLib
set_option linter.unusedVariables false
set_option linter.unusedSimpArgs false
namespace Go.Proofs.YtbnlifldnjgpmaaGreatDoor.PWri
open Go.RowKit Go.Lib Go.Proofs.YtbnlifldnjgpmaaGreatDoorW.PrintWords
set_option maxHeartbeats 16000000 in
set_option maxRecDepth 1000000 in
theorem write_1 (k : Nat) (a0 : Int) (A1 : Option Addr) (c1 : Nat) (l1 : List S55) (A2 : Option Addr) (c2 : Nat) (l2 : List S82) (w : World) (hr1 : Kd.C k55 w A1 l1.length l1) (hc1 : l1.length ≤ c1) (hr2 : Kd.C k82 w A2 l2.length l2) (hc2 : l2.length ≤ c2)
 (hchk : ∀ W, Below w.heap.size w W → Calls Tryz.prog 18 #[.agg #[.int .u64 a0, .slice A1 l1.length c1, .slice A2 l2.length c2]] W fun e w1 => e = .returned (.int .i64 0) ∧ Below W.heap.size W w1) (data : List Int) (tb tx ti se sz : Nat) (hlay : image_lay.f k a0 l1 l2 = some (data, (tb : Int), (tx : Int), (ti : Int), (se : Int), (sz : Int))) (ok : LayOk l1 l2 data tb tx ti se sz) (hsy : 0 < l2.length) :
 Calls Tryz.prog 20 #[.agg #[.int .u64 a0, .slice A1 l1.length c1, .slice A2 l2.length c2]] w fun e w' =>
  ∃ v1_ : Value, e = .returned (.tuple #[v1_, .int .i64 0]) ∧ Kd.R (Kd.int .u8) 5 w' w.heap.size (fun _ => True) v1_ (fileL a0 l1 l2 data tb tx ti se sz) ∧ Below w.heap.size w w' := by
 have hll1 : l1.length ≤ 9223372036854775807 := hr1.2.1
 have hll2 : l2.length ≤ 9223372036854775807 := hr2.2.1
 have hz := ok.z
 have hsz := ok.h
 obtain ⟨hb1, hb2, hb3, hb4⟩ := ok.b
 have OKL := Lib.hid ok
 have CCHK := Lib.hid (hchk (w.alloc (.cells #[Value.int .u64 a0, Value.slice A1 l1.length c1, Value.slice A2 l2.length c2] 28)) ((Below.refl _ _).alloc (Nat.le_refl _) _))
 have CLAY := fun W (hb : Below w.heap.size w W) => image_lay.calls k a0 A1 c1 l1 A2 c2 l2 data tb tx ti se sz W (Kd.C_below hr1 hb) hc1 (Kd.C_below hr2 hb) hc2 hlay
 have CLAY := Lib.hid CLAY
 have HR1 := Lib.hid hr1
 have HR2 := Lib.hid hr2
 have MK := fun W => make_u8 sz hz W
 clear hr1 hr2 hchk hlay ok
 go_enter Tryz.func20, Tryz.ntmps20
 go_wp2_with (go_at_call 18; refine CCHK.out.mono ?_; rintro e w1 ⟨rfl, hb⟩; have IB := Lib.hid (blk_under hb (blk_new w _) (by simp)); have i0 := kCe IB.out 0; have i1 := kCe IB.out 1; have i2 := kCe IB.out 2; have B1 := Lib.hid (((Below.refl _ _).alloc (Nat.le_refl _) _).trans (hb.mono (by simp))); clear hb CCHK)
 go_wp2_with (go_at_call 44; refine (CLAY.out _ B1.out).mono ?_; rintro e w2 ⟨v0, rfl, hR, hb⟩; obtain ⟨A0, c0, rfl, hlc, hC⟩ := Kd.R_reads hR; have DC := Lib.hid hC; have B2 := Lib.hid (B1.out.trans (hb.mono B1.out.size)); have IB2 := Lib.hid (blk_under hb IB.out (blk_lt IB.out)); clear hb CLAY i0 i1 i2 IB B1 hC hR)
 obtain ⟨lb, hlb⟩ : ∃ lb, w2.heap.size = lb := ⟨_, rfl⟩
 obtain ⟨LOB, hLOB⟩ : ∃ LOB, Obj.cells #[Value.slice A0 data.length c0, Value.int IntKind.i64 tb, Value.int IntKind.i64 tx, Value.int IntKind.i64 ti, Value.int IntKind.i64 se, Value.int IntKind.i64 sz] 87 = LOB := ⟨_, rfl⟩
 rw [hLOB, hlb]
 obtain ⟨W5, hW5⟩ : ∃ W5, ((w2.alloc LOB).alloc (Obj.cells (List.map u8v (zs sz)).toArray 5)).alloc (Obj.cells #[Value.slice (some ⟨lb + 1, 0, none⟩) sz sz, Value.int IntKind.i64 0] 91) = W5 := ⟨_, rfl⟩
 rw [hW5]
 have e1 : (w2.alloc LOB).heap.size = lb + 1 := by simp [hlb]
 have e2 : ((w2.alloc LOB).alloc (Obj.cells (List.map u8v (zs sz)).toArray 5)).heap.size = lb + 1 + 1 := by simp [hlb]
 have hx1 := blk_new ((w2.alloc LOB).alloc (Obj.cells (List.map u8v (zs sz)).toArray 5)) (Obj.cells #[Value.slice (some ⟨lb + 1, 0, none⟩) sz sz, Value.int IntKind.i64 0] 91)
 have hx2 := kAl (blk_new (w2.alloc LOB) (Obj.cells (List.map u8v (zs sz)).toArray 5)) (Obj.cells #[Value.slice (some ⟨lb + 1, 0, none⟩) sz sz, Value.int IntKind.i64 0] 91)
 have hx3 := kAl (kAl (blk_new w2 LOB) (Obj.cells (List.map u8v (zs sz)).toArray 5)) (Obj.cells #[Value.slice (some ⟨lb + 1, 0, none⟩) sz sz, Value.int IntKind.i64 0] 91)
 rw [e2, hW5] at hx1
 rw [e1, hW5] at hx2
 rw [hlb, hW5] at hx3
 have hb5 : Below w2.heap.size w2 W5 := by rw [← hW5]; exact (((Below.refl _ _).alloc (Nat.le_refl _) _).alloc (by simp) _).alloc (by simp; omega) _
 have B5 := Lib.hid (B2.out.trans (hb5.mono B2.out.size))
 have HW25 := Lib.hid hb5
 have HLBE := Lib.hid hlb
 have IB5 := Lib.hid (blk_under hb5 IB2.out (blk_lt IB2.out))
 have LB5 := Lib.hid hx3
 have hzl : (zs sz).length = sz := by simp [zs]
 have W0 : Hid (WIs W5 (lb + 1 + 1) (lb + 1) 0 (zs sz)) := Lib.hid ⟨by rw [hx1, hzl]; rfl, hx2⟩
 have hS5 : W5.heap.size = lb + 1 + 1 + 1 := by rw [← hW5]; simp [hlb]
 have HS5 := Lib.hid hS5
 have hbw : w.heap.size < lb := by rw [← hlb]; exact blk_lt IB2.out
 have HLOB := Lib.hid hLOB
 clear hx1 hx2 hx3 e1 e2 hb5 B2 IB2 hW5 hS5 hlb hLOB MK
 obtain ⟨T1, hT1⟩ : ∃ T1, putAt (zs sz) 0 (strL elfB) = T1 := ⟨_, rfl⟩
 obtain ⟨T2, hT2⟩ : ∃ T2, putAt T1 16 (putL 2 [2, 243]) = T2 := ⟨_, rfl⟩
 obtain ⟨T3, hT3⟩ : ∃ T3, putAt T2 20 (putL 4 [1]) = T3 := ⟨_, rfl⟩
 obtain ⟨T4, hT4⟩ : ∃ T4, putAt T3 24 (putL 8 [a0, 64, (se : Int)]) = T4 := ⟨_, rfl⟩
 obtain ⟨T5, hT5⟩ : ∃ T5, putAt T4 48 (putL 4 [1]) = T5 := ⟨_, rfl⟩
 obtain ⟨T6, hT6⟩ : ∃ T6, putAt T5 52 (putL 2 [64, 56, (l1.length : Int), 64, 4, 3]) = T6 := ⟨_, rfl⟩
 have k1 : T1.length = sz := by rw [← hT1, putAt_length (by show 0 + 16 ≤ _; omega)]; exact hzl
 have k2 : T2.length = sz := by rw [← hT2, putAt_length (by rw [putL_length]; simp; omega)]; exact k1
 have k3 : T3.length = sz := by rw [← hT3, putAt_length (by rw [putL_length]; simp; omega)]; exact k2
 have k4 : T4.length = sz := by rw [← hT4, putAt_length (by rw [putL_length]; simp; omega)]; exact k3
 have k5 : T5.length = sz := by rw [← hT5, putAt_length (by rw [putL_length]; simp; omega)]; exact k4
 have k6 : T6.length = sz := by rw [← hT6, putAt_length (by rw [putL_length]; simp; omega)]; exact k5
 have D1 := text_w (lb + 1 + 1) (lb + 1) 0 elfB (zs sz) W5 W0.out (by omega) (by omega) (by show 0 + 16 ≤ _; omega) (by show 0 < 16; omega)
 rw [hT1] at D1
 have D2 := fun W (h : WIs W (lb + 1 + 1) (lb + 1) 16 T1) => put_w (lb + 1 + 1) (lb + 1) 2 16 T1 [2, 243] #[.int .u64 2, .int .u64 243] W h rfl 2 rfl (by simp) W.heap.size rfl (by omega) (by omega) (by omega) (by omega)
 simp only [hT2] at D2
 have D3 := fun W (h : WIs W (lb + 1 + 1) (lb + 1) 20 T2) => put_w (lb + 1 + 1) (lb + 1) 4 20 T2 [1] #[.int .u64 1] W h rfl 1 rfl (by simp) W.heap.size rfl (by omega) (by omega) (by omega) (by omega)
 simp only [hT3] at D3
 have D4 := fun W (h : WIs W (lb + 1 + 1) (lb + 1) 24 T3) => put_w (lb + 1 + 1) (lb + 1) 8 24 T3 [a0, 64, (se : Int)] #[.int .u64 a0, .int .u64 64, .int .u64 (se : Int)] W h rfl 3 rfl (by simp) W.heap.size rfl (by omega) (by omega) (by omega) (by omega)
 simp only [hT4] at D4
 have D5 := fun W (h : WIs W (lb + 1 + 1) (lb + 1) 48 T4) => put_w (lb + 1 + 1) (lb + 1) 4 48 T4 [1] #[.int .u64 1] W h rfl 1 rfl (by simp) W.heap.size rfl (by omega) (by omega) (by omega) (by omega)
 simp only [hT5] at D5
 have D6 := fun W (h : WIs W (lb + 1 + 1) (lb + 1) 52 T5) => put_w (lb + 1 + 1) (lb + 1) 2 52 T5 [64, 56, (l1.length : Int), 64, 4, 3] #[.int .u64 64, .int .u64 56, .int .u64 (l1.length : Int), .int .u64 64, .int .u64 4, .int .u64 3] W h rfl 6 rfl (by simp) W.heap.size rfl (by omega) (by omega) (by omega) (by omega)
 simp only [hT6] at D6
 have HD1 := Lib.hid D1
 have HD2 := Lib.hid D2
 have HD3 := Lib.hid D3
 have HD4 := Lib.hid D4
 have HD5 := Lib.hid D5
 have HD6 := Lib.hid D6
 have K6 := Lib.hid k6
 have HT6 : Hid (headPut (zs sz) a0 se l1.length 4 3 = T6) := Lib.hid (by unfold headPut; rw [hT1, hT2, hT3, hT4, hT5, hT6])
 clear D1 D2 D3 D4 D5 D6 k1 k2 k3 k4 k5 k6 hT1 hT2 hT3 hT4 hT5 hT6 hzl
 have hB0 : Below (lb + 1) W5 W5 := Below.refl _ _
 have HB0 := Lib.hid hB0
 clear hB0
 have HGE : Hid (∀ k, S2 (lb + 1 + 1) (lb + 1) k → lb + 1 ≤ k) := Lib.hid (S2_ge (by omega) (by omega))
 go_wp2_with (go_at_call 45; refine HD1.out.mono ?_; rintro e x1 ⟨rfl, hW, hK⟩; have V1 := Lib.hid hW; have HB1 := Lib.hid (Kp.under HB0.out hK HGE.out (by have := HS5.out; omega)); clear hW hK HD1 HB0 W0)
 go_wp2_with (go_at_call 46; refine (HD2.out _ V1.out).mono ?_; rintro e x2 ⟨rfl, hW, hK⟩; have V2 := Lib.hid hW; have HB2 := Lib.hid (Kp.under HB1.out hK HGE.out (by have h1 := HS5.out; have h2 := HB1.out.size; omega)); clear hW hK HD2 HB1 V1)
 go_wp2_with (go_at_call 46; refine (HD3.out _ V2.out).mono ?_; rintro e x3 ⟨rfl, hW, hK⟩; have V3 := Lib.hid hW; have HB3 := Lib.hid (Kp.under HB2.out hK HGE.out (by have h1 := HS5.out; have h2 := HB2.out.size; omega)); have e0 : x3.cell? ⟨w.heap.size, 0, none⟩ = some (Value.int .u64 a0) := (kCe (blk_under HB3.out IB5.out (by omega)) 0); have f4 : x3.cell? ⟨lb, 4, none⟩ = some (Value.int .i64 (se : Int)) := (kCe (blk_under HB3.out (by rw [LB5.out, ← HLOB.out]) (by omega)) 4); clear hW hK HD3 HB2 V2)
 go_wp2_with (go_at_call 46; refine (HD4.out _ V3.out).mono ?_; rintro e x4 ⟨rfl, hW, hK⟩; have V4 := Lib.hid hW; have HB4 := Lib.hid (Kp.under HB3.out hK HGE.out (by have h1 := HS5.out; have h2 := HB3.out.size; omega)); clear hW hK HD4 HB3 V3 e0 f4)
 go_wp2_with (go_at_call 46; refine (HD5.out _ V4.out).mono ?_; rintro e x5 ⟨rfl, hW, hK⟩; have V5 := Lib.hid hW; have HB5 := Lib.hid (Kp.under HB4.out hK HGE.out (by have h1 := HS5.out; have h2 := HB4.out.size; omega)); have e1 : x5.cell? ⟨w.heap.size, 1, none⟩ = some (Value.slice A1 l1.length c1) := (kCe (blk_under HB5.out IB5.out (by omega)) 1); have e2 : x5.cell? ⟨w.heap.size, 2, none⟩ = some (Value.slice A2 l2.length c2) := (kCe (blk_under HB5.out IB5.out (by omega)) 2); clear hW hK HD5 HB4 V4)
 go_wp2_with (go_at_call 46; refine (HD6.out _ V5.out).mono ?_; rintro e x6 ⟨rfl, hW, hK⟩; have V6 := Lib.hid hW; have HB6 := Lib.hid (Kp.under HB5.out hK HGE.out (by have h1 := HS5.out; have h2 := HB5.out.size; omega)); have e1 : x6.cell? ⟨w.heap.size, 1, none⟩ = some (Value.slice A1 l1.length c1) := (kCe (blk_under HB6.out IB5.out (by omega)) 1); clear hW hK HD6 HB5 V5 e2)
 obtain ⟨FP, hFP⟩ : ∃ FP, phPut T6 64 data l1 = FP := ⟨_, rfl⟩
 have HFP := Lib.hid hFP
 clear hFP
 go_loopw [60] (fun v60 wx => ∃ (j : Nat) (Lj : List Int), v60 = .int .i64 (j : Int) ∧ j ≤ l1.length ∧ Hid (WIs wx (lb + 1 + 1) (lb + 1) (64 + 56 * j) Lj) ∧ Hid (Below (lb + 1) W5 wx) ∧ Hid (phPut Lj (64 + 56 * j) (data.drop j) (l1.drop j) = FP ∧ Lj.length = sz)) (fun v60 _ => l1.length - (RowKit.intOf v60).toNat)
 case atStart => exact ⟨0, T6, rfl, Nat.zero_le _, V6, HB6, Lib.hid ⟨HFP.out, K6.out⟩⟩
 case round =>
  obtain ⟨j, Lj, rfl, hj, HWj, HBj, HXj⟩ := hrel
  by_cases hjl : j < l1.length
  ·have hbw5 : Below w.heap.size w wr := B5.out.trans (HBj.out.mono (by omega))
   obtain ⟨ad, A3, c3, eA, x0, x1, x2, x3, hl3, hC3⟩ := at_T55 (Kd.C_below HR1.out hbw5) (j : Int) (by omega) (by omega)
   subst eA
   rw [Int.toNat_natCast] at x0 x1 x2 x3
   obtain ⟨sg, hsg⟩ : ∃ sg, rd_T55 l1 (j : Int) = sg := ⟨_, rfl⟩
   rw [hsg] at x0 x1 x2 x3 hl3 hC3
   have hlen3 : sg.f3.length ≤ 9223372036854775807 := hC3.2.1
   have hdn := OKL.out.n
   obtain ⟨ad0, eA0, hcd⟩ := Kd.at_int DC.out (j : Int) (by omega) (by omega)
   subst eA0
   rw [Int.toNat_natCast] at hcd
   have HLT := Lib.hid (World.block_lt_of_cell? w2 _ hcd)
   have HNad : Hid (¬ S2 (lb + 1 + 1) (lb + 1) (ad0.add j).block) := Lib.hid (by have h1 := HLT.out; have h2 := HLBE.out; rintro (h | h) <;> omega)
   have hjd : (j : Int) < (data.length : Int) := by omega
   have hdd := OKL.out.d j hjl
   obtain ⟨dv, hdv⟩ : ∃ dv, rd data (j : Int) = dv := ⟨_, rfl⟩
   rw [hdv] at hcd hdd
   rw [hsg] at hdd
   obtain ⟨hd0, _, hd1⟩ := hdd
   have hgr : lb + 1 + 1 < wr.heap.size := blk_lt HWj.out.wr
   have hbr : lb + 1 < wr.heap.size := by omega
   have HNS : Hid (¬ S2 (lb + 1 + 1) (lb + 1) wr.heap.size) := Lib.hid (by rintro (h | h) <;> omega)
   have hLj := HXj.out.2
   obtain ⟨q, hq⟩ : ∃ q, 64 + 56 * j = q := ⟨_, rfl⟩
   rw [hq] at HWj
   obtain ⟨L1, hL1⟩ : ∃ L1, putAt Lj q (putL 4 [1, IntKind.u64.wrap (turnV sg.f2)]) = L1 := ⟨_, rfl⟩
   obtain ⟨L2, hL2⟩ : ∃ L2, putAt L1 (q + 8) (putL 8 [dv, sg.f0, sg.f0, (sg.f3.length : Int), sg.f1, 1]) = L2 := ⟨_, rfl⟩
   have m1 : L1.length = sz := by rw [← hL1, putAt_length (by rw [putL_length]; simp; omega)]; exact hLj
   have m2 : L2.length = sz := by rw [← hL2, putAt_length (by rw [putL_length]; simp; omega)]; exact m1
   have ew1 : IntKind.u64.wrap dv = dv := by rw [IntKind.wrap_u64]; omega
   have ew2 : IntKind.u64.wrap (sg.f3.length : Int) = (sg.f3.length : Int) := by rw [IntKind.wrap_u64]; omega
   have D1 := fun W (h : WIs W (lb + 1 + 1) (lb + 1) q Lj) => put_w (lb + 1 + 1) (lb + 1) 4 q Lj [1, IntKind.u64.wrap (turnV sg.f2)] #[.int .u64 1, .int .u64 (IntKind.u64.wrap (turnV sg.f2))] W h rfl 2 rfl (by simp) W.heap.size rfl (by omega) (by omega) (by omega) (by omega)
   have D2 := fun W (h : WIs W (lb + 1 + 1) (lb + 1) (q + 8) L1) => put_w (lb + 1 + 1) (lb + 1) 8 (q + 8) L1 [dv, sg.f0, sg.f0, (sg.f3.length : Int), sg.f1, 1] #[.int .u64 (IntKind.u64.wrap dv), .int .u64 sg.f0, .int .u64 sg.f0, .int .u64 (IntKind.u64.wrap (sg.f3.length : Int)), .int .u64 sg.f1, .int .u64 1] W h (by rw [ew1, ew2]; rfl) 6 rfl (by simp) W.heap.size rfl (by omega) (by omega) (by omega) (by omega)
   simp only [hL1] at D1
   simp only [hL2] at D2
   have HD1 := Lib.hid D1
   have HD2 := Lib.hid D2
   have ht : image_turned.f sg.f2 = some (turnV sg.f2) := rfl
   have HT := Lib.hid (fun W => image_turned.calls sg.f2 (turnV sg.f2) W ht)
   have HFJ : Hid (phPut L2 (64 + 56 * (j + 1)) (data.drop (j + 1)) (l1.drop (j + 1)) = FP ∧ L2.length = sz) := Lib.hid (by
    refine ⟨?_, m2⟩
    have h := HXj.out.1
    have g1 : data.drop j = dv :: data.drop (j + 1) := by
     have h1 := hdv
     unfold rd at h1
     rw [Int.toNat_natCast, List.getD_eq_getElem?_getD, List.getElem?_eq_getElem (by omega)] at h1
     rw [← show data[j] = dv from h1]
     exact List.drop_eq_getElem_cons (by omega)
    have g2 : l1.drop j = sg :: l1.drop (j + 1) := by
     have h1 := hsg
     unfold rd_T55 at h1
     rw [Int.toNat_natCast, List.getD_eq_getElem?_getD, List.getElem?_eq_getElem hjl] at h1
     rw [← show l1[j] = sg from h1]
     exact List.drop_eq_getElem_cons hjl
    rw [g1, g2, phPut, hq, hL1, hL2, show q + 56 = 64 + 56 * (j + 1) by omega] at h
    exact h)
   have HNlb : Hid (¬ S2 (lb + 1 + 1) (lb + 1) lb) := Lib.hid (by rintro (h | h) <;> omega)
   have HCD := Lib.hid hcd
   have HQ := Lib.hid hq
   clear D1 D2 m1 m2 hL1 hL2 hLj hq hsg hdv hbw5 ht hcd HXj hC3 ew1 ew2 hdn
   go_wp2_with (go_at_call 47; refine (HT.out _).mono ?_; rintro e y1 ⟨rfl, hd⟩; have Vy := Lib.hid (show WIs y1 (lb + 1 + 1) (lb + 1) q Lj from ⟨blk_under hd.below (HWj.out.alloc _).wr (by simp; omega), blk_under hd.below (HWj.out.alloc _).by_ (by simp; omega)⟩); have SBy := Lib.hid (blk_under hd.below (blk_new wr _) (by simp)); have HBy := Lib.hid ((HBj.out.alloc (by omega) _).trans (hd.below.mono (by simp; omega))); clear hd HT)
   go_wp2_with (go_at_call 46; refine (HD1.out _ Vy.out).mono ?_; rintro e y2 ⟨rfl, hW, hK⟩; have Vz := Lib.hid hW; have HBz := Lib.hid (Kp.under HBy.out hK HGE.out (by have := HBy.out.size; have := HS5.out; omega)); have SBz := Lib.hid (blk_kp SBy.out hK HNS.out); clear hW hK HD1 Vy SBy HBy)
   have f0 : y2.cell? ⟨lb, 0, none⟩ = some (.slice (some ad0) data.length c0) := kCe (blk_under HBz.out (by rw [LB5.out, ← HLOB.out]) (by omega)) 0
   have fd : y2.cell? (ad0.add j) = some (.int .i64 dv) := (((HW25.out).trans (HBz.out.mono (by rw [HLBE.out]; omega))).cell HLT.out).trans HCD.out
   have g0 : y2.cell? ⟨wr.heap.size, 0, none⟩ = some (.int .u64 sg.f0) := kCe SBz.out 0
   have g1 : y2.cell? ⟨wr.heap.size, 1, none⟩ = some (.int .u64 sg.f1) := kCe SBz.out 1
   have g3 : y2.cell? ⟨wr.heap.size, 3, none⟩ = some (.slice A3 sg.f3.length c3) := kCe SBz.out 3
   have hd : (0 : Int) ≤ (j : Int) := Int.natCast_nonneg _
   have HF : Hid (∀ y3, Kp y2.drew y3 (S2 (lb + 1 + 1) (lb + 1)) → y3.cell? ⟨lb, 0, none⟩ = some (.slice (some ad0) data.length c0) ∧ y3.cell? (ad0.add j) = some (.int .i64 dv) ∧ y3.cell? ⟨wr.heap.size, 0, none⟩ = some (.int .u64 sg.f0) ∧ y3.cell? ⟨wr.heap.size, 1, none⟩ = some (.int .u64 sg.f1) ∧ y3.cell? ⟨wr.heap.size, 3, none⟩ = some (.slice A3 sg.f3.length c3)) := Lib.hid (fun y3 hK => ⟨cell_kp (W := y2.drew) f0 hK HNlb.out, cell_kp (W := y2.drew) fd hK HNad.out, cell_kp (W := y2.drew) g0 hK HNS.out, cell_kp (W := y2.drew) g1 hK HNS.out, cell_kp (W := y2.drew) g3 hK HNS.out⟩)
   go_region_held3 (fun w' => w'.cell? ⟨lb, 0, none⟩ = some (.slice (some ad0) data.length c0) ∧ w'.cell? (ad0.add j) = some (.int .i64 dv) ∧ w'.cell? ⟨wr.heap.size, 0, none⟩ = some (.int .u64 sg.f0) ∧ w'.cell? ⟨wr.heap.size, 1, none⟩ = some (.int .u64 sg.f1) ∧ w'.cell? ⟨wr.heap.size, 3, none⟩ = some (.slice A3 sg.f3.length c3))
    (first | exact HF.out _ hK | go_keep)
    ((go_at_call 46; refine (HD2.out y2.drew ⟨Vz.out.1, Vz.out.2⟩).mono ?_; rintro e y3 ⟨rfl, hW, hK⟩))
   go_wp2
   have hw3 := hW
   have e8 : q + 8 + 8 * 6 = 64 + 56 * (j + 1) := by have := HQ.out; omega
   rw [e8] at hw3
   exact ⟨⟨j + 1, L2, by simp, by omega, Lib.hid hw3, Lib.hid (Kp.under HBz.out.drew hK HGE.out (by have := HBz.out.size; have := HS5.out; simp; omega)), HFJ⟩, by simp [RowKit.intOf]; omega⟩
  ·have hje : j = l1.length := by omega
   subst hje
   have h1 := HXj.out
   rw [List.drop_length] at h1
   have h2 : Lj = FP := by
    have := h1.1
    rw [phPut] at this
    ·exact this
    ·intro d ds s r _ h; cases h
   subst h2
   have K7 := Lib.hid h1.2
   have s1 : wr.cell? ⟨w.heap.size, 1, none⟩ = some (.slice A1 l1.length c1) := kCe (blk_under HBj.out IB5.out (by omega)) 1
   clear h1 HXj
   go_wp2
   obtain ⟨FD, hFD⟩ : ∃ FD, dataPut Lj data l1 = FD := ⟨_, rfl⟩
   have HFD := Lib.hid hFD
   clear hFD s1
   go_loopw [95] (fun v95 wx => ∃ (j : Nat) (Lk : List Int), v95 = .int .i64 (j : Int) ∧ j ≤ l1.length ∧ Hid (WIs wx (lb + 1 + 1) (lb + 1) (64 + 56 * l1.length) Lk) ∧ Hid (Below (lb + 1) W5 wx) ∧ Hid (dataPut Lk (data.drop j) (l1.drop j) = FD ∧ Lk.length = sz)) (fun v95 _ => l1.length - (RowKit.intOf v95).toNat)
   case atStart => exact ⟨0, Lj, rfl, Nat.zero_le _, HWj, HBj, Lib.hid ⟨HFD.out, K7.out⟩⟩
   case round =>
    obtain ⟨j, Lk, rfl, hj, HWk, HBk, HXk⟩ := hrel
    by_cases hjl : j < l1.length
    ·have hbw5 : Below w.heap.size w wr := B5.out.trans (HBk.out.mono (by omega))
     obtain ⟨ad, A3, c3, eA, x0, x1, x2, x3, hl3, hC3⟩ := at_T55 (Kd.C_below HR1.out hbw5) (j : Int) (by omega) (by omega)
     subst eA
     rw [Int.toNat_natCast] at x0 x1 x2 x3
     obtain ⟨sg, hsg⟩ : ∃ sg, rd_T55 l1 (j : Int) = sg := ⟨_, rfl⟩
     rw [hsg] at x0 x1 x2 x3 hl3 hC3
     have hdn := OKL.out.n
     obtain ⟨ad0, eA0, hcd⟩ := Kd.at_int DC.out (j : Int) (by omega) (by omega)
     subst eA0
     rw [Int.toNat_natCast] at hcd
     have hlt := World.block_lt_of_cell? w2 _ hcd
     have hdd := OKL.out.d j hjl
     obtain ⟨dv, hdv⟩ : ∃ dv, rd data (j : Int) = dv := ⟨_, rfl⟩
     rw [hdv] at hcd hdd
     rw [hsg] at hdd
     obtain ⟨hd0, hd2, hd1⟩ := hdd
     obtain ⟨dn, rfl⟩ := Int.eq_ofNat_of_zero_le hd0
     have hgr : lb + 1 + 1 < wr.heap.size := blk_lt HWk.out.wr
     have hLk := HXk.out.2
     obtain ⟨y, hy⟩ : ∃ y, wr.alloc (.cells #[.int .u64 sg.f0, .int .u64 sg.f1, .int .i64 sg.f2, .slice A3 sg.f3.length c3] 55) = y := ⟨_, rfl⟩
     have hwy : WIs y.drew (lb + 1 + 1) (lb + 1) (64 + 56 * l1.length) Lk := by rw [← hy]; exact ⟨(HWk.out.alloc _).1, (HWk.out.alloc _).2⟩
     have hby : Below (lb + 1) W5 y.drew := by rw [← hy]; exact (HBk.out.alloc (by omega) _).drew
     have hCy : Kd.C (Kd.int .u8) y.drew A3 sg.f3.length sg.f3 := by rw [← hy]; exact Kd.C_below hC3 ((Below.refl _ _).alloc (Nat.le_refl _) _).drew
     obtain ⟨W2, hcopy, hW2, hK2⟩ := copy_bytes y.drew (lb + 1 + 1) (lb + 1) (64 + 56 * l1.length) dn Lk A3 c3 sg.f3 hwy (by omega) hCy (by rw [hLk]; omega)
     rw [hLk] at hcopy
     have f0 : y.cell? ⟨lb, 0, none⟩ = some (.slice (some ad0) data.length c0) := by
      have hl := blk_under hby LB5.out (by omega)
      rw [← HLOB.out] at hl
      exact kCe hl 0
     have fd : y.cell? (ad0.add j) = some (.int .i64 (dn : Int)) := (((HW25.out).trans (hby.mono (by rw [HLBE.out]; omega))).cell hlt).trans hcd
     have g3 : y.cell? ⟨wr.heap.size, 3, none⟩ = some (.slice A3 sg.f3.length c3) := by rw [← hy]; exact kCe (blk_new wr _) 3
     have gb : y.cell? ⟨lb + 1 + 1, 0, none⟩ = some (.slice (some ⟨lb + 1, 0, none⟩) sz sz) := by have := kCe hwy.wr 0; rw [hLk] at this; exact this
     have hjd : (j : Int) < (data.length : Int) := by omega
     have hjd0 : (0 : Int) ≤ (j : Int) := Int.natCast_nonneg _
     have hnp : ¬ sz = dn := by omega
     have HFJ : Hid (dataPut (putAt Lk dn sg.f3) (data.drop (j + 1)) (l1.drop (j + 1)) = FD ∧ (putAt Lk dn sg.f3).length = sz) := Lib.hid (by
      refine ⟨?_, by rw [putAt_length (by rw [hLk]; omega)]; exact hLk⟩
      have h := HXk.out.1
      have g1 : data.drop j = (dn : Int) :: data.drop (j + 1) := by
       have h1 := hdv
       unfold rd at h1
       rw [Int.toNat_natCast, List.getD_eq_getElem?_getD, List.getElem?_eq_getElem (by omega)] at h1
       rw [← show data[j] = (dn : Int) from h1]
       exact List.drop_eq_getElem_cons (by omega)
      have g2 : l1.drop j = sg :: l1.drop (j + 1) := by
       have h1 := hsg
       unfold rd_T55 at h1
       rw [Int.toNat_natCast, List.getD_eq_getElem?_getD, List.getElem?_eq_getElem hjl] at h1
       rw [← show l1[j] = sg from h1]
       exact List.drop_eq_getElem_cons hjl
      rw [g1, g2, dataPut, Int.toNat_natCast] at h
      exact h)
     have HWW := Lib.hid hW2
     have HKK := Lib.hid hK2
     have HBY := Lib.hid hby
     have HYE := Lib.hid hy
     clear hwy hCy hW2 hK2 hby hy hsg hdv hbw5 hcd HXk hC3 hLk hlt hdn
     go_wp2
     rw [HYE.out]
     refine wp_region_still_tail 12 (by kernel_rfl) (by kernel_rfl) ?_
     simp only [List.take_succ_cons, List.take_zero, List.drop_succ_cons, List.drop_zero]
     change wpStill _ _ y.drew _ _ _
     have f0z : y.drew.cell? ⟨lb, 0, none⟩ = some (.slice (some ad0) data.length c0) := f0
     have fdz : y.drew.cell? (ad0.add j) = some (.int .i64 (dn : Int)) := fd
     have g3z : y.drew.cell? ⟨wr.heap.size, 3, none⟩ = some (.slice A3 sg.f3.length c3) := g3
     have gbz : y.drew.cell? ⟨lb + 1 + 1, 0, none⟩ = some (.slice (some ⟨lb + 1, 0, none⟩) sz sz) := gb
     have HSZ := Lib.hid HBY.out.size
     obtain ⟨z9, hz9⟩ : ∃ z9, y.drew = z9 := ⟨_, rfl⟩
     rw [hz9] at f0z fdz g3z gbz hcopy HBY HKK
     rw [hz9]
     have HZ9 := Lib.hid hz9
     have hdn3 : dn ≤ sz := by omega
     clear f0 fd g3 gb HYE hz9
     repeat still_step
     refine wpStill_nil ?_
     change wpList _ _ _ _ _ y.drew
     rw [HZ9.out]
     go_wp2
     have hs := HBY.out.size
     exact ⟨⟨j + 1, _, by simp, by omega, HWW, Lib.hid (Kp.under HBY.out HKK.out HGE.out (by have := HS5.out; omega)), HFJ⟩, by simp [RowKit.intOf]; omega⟩
    ·have hje : j = l1.length := by omega
     subst hje
     have h1 := HXk.out
     rw [List.drop_length] at h1
     have h2 : Lk = FD := by
      have := h1.1
      rw [dataPut] at this
      ·exact this
      ·intro d ds s r _ h; cases h
     subst h2
     have K8 := Lib.hid h1.2
     have s2 : wr.cell? ⟨w.heap.size, 2, none⟩ = some (.slice A2 l2.length c2) := kCe (blk_under HBk.out IB5.out (by omega)) 2
     have lbk := blk_under HBk.out LB5.out (by omega)
     rw [← HLOB.out] at lbk
     have t0 : wr.cell? ⟨lb, 0, none⟩ = some (.slice A0 data.length c0) := kCe lbk 0
     have t1 : wr.cell? ⟨lb, 1, none⟩ = some (.int .i64 (tb : Int)) := kCe lbk 1
     have t2 : wr.cell? ⟨lb, 2, none⟩ = some (.int .i64 (tx : Int)) := kCe lbk 2
     have t3 : wr.cell? ⟨lb, 3, none⟩ = some (.int .i64 (ti : Int)) := kCe lbk 3
     have t4 : wr.cell? ⟨lb, 4, none⟩ = some (.int .i64 (se : Int)) := kCe lbk 4
     have t5 : wr.cell? ⟨lb, 5, none⟩ = some (.int .i64 (sz : Int)) := kCe lbk 5
     obtain ⟨n1, n2, n3, n4, n5, n6⟩ := OKL.out.nm hsy
     have hk8 := K8.out
     have hbw5 : Below w.heap.size w wr := B5.out.trans (HBk.out.mono (by omega))
     have hgr : lb + 1 + 1 < wr.heap.size := blk_lt HWk.out.wr
     have HNM := Lib.hid (wnames_c (lb + 1 + 1) (lb + 1) c2 (64 + 56 * l1.length) A2 l2 Lk (.slice A0 data.length c0) tb tx ti se sz wr HWk.out (by omega) (by omega)
      (Kd.C_kept_came' HR2.out hbw5 (S2_ge (by omega) (by omega))) hc2 (by omega) hb1 hb2 (by omega) n6 (by omega) hb4 (by omega) n4 n5 hb3)
     have hnl : (namesAll Lk tb tx ti se l2).length = sz := by
      rw [namesAll_length (by omega) (by omega) (by omega), hk8]
     have HNL := Lib.hid hnl
     have HB9 := Lib.hid hbw5
     clear lbk h1 n1 n2 n3 n4 n5 n6 hk8 hbw5 HXk hnl
     go_wp2_with (go_at_call 48; refine HNM.out.mono ?_; rintro e y1 ⟨rfl, hW, hK⟩; have Vn := Lib.hid hW; have Kn := Lib.hid hK; have gb : y1.cell? ⟨lb + 1 + 1, 0, none⟩ = some (.slice (some ⟨lb + 1, 0, none⟩) sz sz) := (by have := kCe hW.wr 0; rw [HNL.out] at this; exact this); clear hW hK HNM s2 t0 t1 t2 t3 t4 t5)
     have hb9 := Kp.under HB9.out Kn.out (S2_ge (by omega) (by omega)) HB9.out.size
     have hvn := Vn.out
     have hfl : namesAll Lk tb tx ti se l2 = fileL a0 l1 l2 data tb tx ti se sz := by
      unfold fileL
      rw [if_pos hsy, HT6.out, HFP.out, HFD.out]
     have hfin := R_file y1 (lb + 1 + 1) (lb + 1) (se + 256) sz w.heap.size _ hvn HNL.out (by omega) hz
     rw [hfl] at hfin
     clear hfl hvn
     refine bodyPost_ret (v := .tuple #[.slice (some ⟨lb + 1, 0, none⟩) sz sz, .int .i64 0]) ?_ rfl ⟨_, rfl, hfin, hb9⟩
     clear hfin hb9
     simp [results, Tryz.results20, go_sem]
end Go.Proofs.YtbnlifldnjgpmaaGreatDoor.PWri
