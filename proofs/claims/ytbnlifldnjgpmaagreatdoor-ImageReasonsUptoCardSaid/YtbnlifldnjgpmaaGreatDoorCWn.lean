/- The writer's names: the symbols' table, their texts, the sections' titles, three section headers. -/
import Derived.Test.YtbnlifldnjgpmaaGreatDoorCGr1
import Derived.Test.YtbnlifldnjgpmaaGreatDoorCWr
set_option linter.unusedVariables false
set_option linter.unusedSimpArgs false
namespace Go.Proofs.YtbnlifldnjgpmaaGreatDoor.PWri
open Go.RowKit Go.Lib Go.Proofs.YtbnlifldnjgpmaaGreatDoorW.PrintWords
def symB (pl : Int) (s : S82) : List Int := putL 4 [pl] ++ putL 1 [16, 0] ++ putL 2 [65521] ++ putL 8 [s.f1, 0]
def nextPl (pl : Int) (s : S82) : Int := IntKind.u64.wrap (pl + IntKind.u64.wrap (IntKind.u64.wrap (s.f0.size : Int) + 1))
def symsPut : List Int → Nat → Int → List S82 → List Int
 | L, _, _, [] => L
 | L, p, pl, s :: r => symsPut (putAt (putAt (putAt (putAt L p (putL 4 [pl])) (p + 4) (putL 1 [16, 0])) (p + 6) (putL 2 [65521])) (p + 8) (putL 8 [s.f1, 0])) (p + 24) (nextPl pl s) r
def namesPut : List Int → Nat → List S82 → List Int
 | L, _, [] => L
 | L, p, s :: r => namesPut (putAt L p (strL s.f0)) (p + s.f0.size + 1) r
def total : List S82 → Nat
 | [] => 0
 | s :: r => s.f0.size + 1 + total r
def secPut (L : List Int) (p : Nat) (x0 x1 x2 x3 x4 x5 x6 x7 : Int) : List Int :=
 putAt (putAt (putAt (putAt L p (putL 4 [x0, x1])) (p + 8) (putL 8 [0, 0, x2, x3])) (p + 40) (putL 4 [x4, x5])) (p + 48) (putL 8 [x6, x7])
/-- The three sections' headers, one behind the other. -/
def secsTo (L : List Int) (p : Nat) (tb tx ti : Int) : Nat → List Int
 | 0 => L
 | 1 => secPut L p 1 2 tb (tx - tb) 2 1 8 24
 | 2 => secPut (secPut L p 1 2 tb (tx - tb) 2 1 8 24) (p + 64) 9 3 tx (ti - tx) 0 0 1 0
 | _ => secPut (secPut (secPut L p 1 2 tb (tx - tb) 2 1 8 24) (p + 64) 9 3 tx (ti - tx) 0 0 1 0) (p + 128) 17 3 ti 27 0 0 1 0
def titlesB : ByteArray := ⟨#[0, 46, 115, 121, 109, 116, 97, 98, 0, 46, 115, 116, 114, 116, 97, 98, 0, 46, 115, 104, 115, 116, 114, 116, 97, 98, 0]⟩
/-- All that 'names' writes. -/
def namesAll (L : List Int) (tb tx ti se : Nat) (syms : List S82) : List Int :=
 secsTo (putAt (namesPut (symsPut L (tb + 24) 1 syms) (tx + 1) syms) (tx + 1 + total syms) (strL titlesB)) (se + 64) tb tx ti 3
set_option maxHeartbeats 16000000 in
set_option maxRecDepth 1000000 in
theorem wnames_c (g bb c p0 : Nat) (A : Option Addr) (syms : List S82) (L : List Int) (dv : Value) (tb tx ti se sz : Nat) (w : World) (hW : WIs w g bb p0 L) (hne : g ≠ bb) (hn : L.length < 4611686018427387904)
 (hl : ∀ W', Kp w W' (S2 g bb) → Kd.C k82 W' A syms.length syms) (hc : syms.length ≤ c) (hf1 : tb + 24 + 24 * syms.length ≤ L.length) (htb : tb < 4611686018427387904) (htx : tx < 4611686018427387904) (hf2 : tx + 1 + total syms ≤ L.length) (hpos : ∀ s ∈ syms, 0 < s.f0.size) (hf3 : tx + 1 + total syms + 27 ≤ L.length) (hse : se < 4611686018427387904) (hf4 : se + 256 ≤ L.length) (hbx : tb ≤ tx) (hxi : tx ≤ ti) (hti : ti < 4611686018427387904) :
 Calls Tryz.prog 48 #[.pointer (some ⟨g, 0, none⟩), .slice A syms.length c, .agg #[dv, .int .i64 (tb : Int), .int .i64 (tx : Int), .int .i64 (ti : Int), .int .i64 (se : Int), .int .i64 (sz : Int)]] w fun e w' =>
  e = .returned (.tuple #[]) ∧ WIs w' g bb (se + 256) (namesAll L tb tx ti se syms) ∧ Kp w w' (S2 g bb) := by
 have hll : syms.length ≤ 9223372036854775807 := (hl w (Kp.refl _ _)).2.1
 have HL := Lib.hid hl
 have HW := Lib.hid hW
 have hg : g < w.heap.size := blk_lt hW.wr
 have hb : bb < w.heap.size := blk_lt hW.by_
 have d1 : (w.alloc (.cells #[dv, .int .i64 (tb : Int), .int .i64 (tx : Int), .int .i64 (ti : Int), .int .i64 (se : Int), .int .i64 (sz : Int)] 87)).cell? ⟨g, 1, none⟩ = some (.int .i64 (p0 : Int)) := by
  have := kCe (hW.alloc (.cells #[dv, .int .i64 (tb : Int), .int .i64 (tx : Int), .int .i64 (ti : Int), .int .i64 (se : Int), .int .i64 (sz : Int)] 87)).wr 1
  exact this
 have f1 := kFr (hW.alloc (.cells #[dv, .int .i64 (tb : Int), .int .i64 (tx : Int), .int .i64 (ti : Int), .int .i64 (se : Int), .int .i64 (sz : Int)] 87)).wr 1
 clear hl hW
 go_enter Tryz.func48, Tryz.ntmps48
 go_wp2
 obtain ⟨OB, hOB⟩ : ∃ OB, Obj.cells #[dv, .int .i64 (tb : Int), .int .i64 (tx : Int), .int .i64 (ti : Int), .int .i64 (se : Int), .int .i64 (sz : Int)] 87 = OB := ⟨_, rfl⟩
 have hb0 : ((w.setCell ⟨g, 1, none⟩ (.int .i64 ((tb : Int) + 24))).alloc OB).heap[w.heap.size]? = some OB := by
  have := blk_new (w.setCell ⟨g, 1, none⟩ (.int .i64 ((tb : Int) + 24))) OB
  rw [show (w.setCell ⟨g, 1, none⟩ (.int .i64 ((tb : Int) + 24))).heap.size = w.heap.size by simp [World.setCell]] at this
  exact this
 obtain ⟨F1, hF1⟩ : ∃ F1, symsPut L (tb + 24) 1 syms = F1 := ⟨_, rfl⟩
 have HOB := Lib.hid hOB
 have HB0 := Lib.hid hb0
 have HF1 := Lib.hid hF1
 rw [hOB]
 clear hOB hb0 hF1 d1 f1
 go_loopw [6, 21] (fun v6 v21 wx => ∃ (j : Nat) (pl : Int) (Lj : List Int), v6 = .int .u64 pl ∧ v21 = .int .i64 (j : Int) ∧ j ≤ syms.length ∧ Hid (WIs wx g bb (tb + 24 + 24 * j) Lj) ∧ Hid (Kp w wx (S2 g bb)) ∧ Hid (wx.heap[w.heap.size]? = some OB) ∧
  Hid (symsPut Lj (tb + 24 + 24 * j) pl (syms.drop j) = F1 ∧ Lj.length = L.length)) (fun _ v21 _ => syms.length - (RowKit.intOf v21).toNat)
 case atStart => exact ⟨0, 1, L, rfl, rfl, Nat.zero_le _, Lib.hid ((HW.out.at_ hne (tb + 24)).alloc OB), Lib.hid (((Kp.refl w _).setCell (p := ⟨g, 1, none⟩) (.inl (.inl rfl)) _).alloc OB), HB0, Lib.hid ⟨HF1.out, rfl⟩⟩
 case round =>
  obtain ⟨j, pl, Lj, rfl, rfl, hj, HWj, HKj, HBj, HXj⟩ := hrel
  by_cases hjl : j < syms.length
  ·obtain ⟨ad, eA, x0, x1⟩ := at_T82 (HL.out wr HKj.out) (j : Int) (by omega) (by omega)
   subst eA
   rw [Int.toNat_natCast] at x0 x1
   obtain ⟨sy, hsy⟩ : ∃ sy, rd_T82 syms (j : Int) = sy := ⟨_, rfl⟩
   rw [hsy] at x0 x1
   have HSY := Lib.hid hsy
   have hgr : g < wr.heap.size := blk_lt HWj.out.wr
   have hbr : bb < wr.heap.size := blk_lt HWj.out.by_
   have hnS : ¬ S2 g bb wr.heap.size := by rintro (h | h) <;> omega
   have hLj := HXj.out.2
   have hfit : tb + 24 + 24 * j + 24 ≤ Lj.length := by rw [hLj]; omega
   have hnj : Lj.length < 4611686018427387904 := by rw [hLj]; exact hn
   obtain ⟨q, hq⟩ : ∃ q, tb + 24 + 24 * j = q := ⟨_, rfl⟩
   have HQ := Lib.hid hq
   have HWq : Hid (WIs wr g bb q Lj) := hq ▸ HWj
   rw [hq] at hfit
   obtain ⟨L1, hL1⟩ : ∃ L1, putAt Lj q (putL 4 [pl]) = L1 := ⟨_, rfl⟩
   obtain ⟨L2, hL2⟩ : ∃ L2, putAt L1 (q + 4) (putL 1 [16, 0]) = L2 := ⟨_, rfl⟩
   obtain ⟨L3, hL3⟩ : ∃ L3, putAt L2 (q + 6) (putL 2 [65521]) = L3 := ⟨_, rfl⟩
   obtain ⟨L4, hL4⟩ : ∃ L4, putAt L3 (q + 8) (putL 8 [sy.f1, 0]) = L4 := ⟨_, rfl⟩
   have l1 : L1.length = Lj.length := by rw [← hL1]; exact putAt_length (by rw [putL_length]; simp; omega)
   have l2 : L2.length = Lj.length := by rw [← hL2, ← l1]; exact putAt_length (by rw [putL_length, l1]; simp; omega)
   have l3 : L3.length = Lj.length := by rw [← hL3, ← l2]; exact putAt_length (by rw [putL_length, l2]; simp; omega)
   have l4 : L4.length = Lj.length := by rw [← hL4, ← l3]; exact putAt_length (by rw [putL_length, l3]; simp; omega)
   have c1 := fun k hk => put_w g bb 4 q Lj [pl] #[.int .u64 pl] (wr.alloc (.cells #[.string sy.f0, .int .u64 sy.f1] 82)) (HWq.out.alloc _) rfl 1 rfl (by simp) k hk hne hnj (by omega) (by omega)
   have c2 := fun W (h : WIs W g bb (q + 4) L1) => put_w g bb 1 (q + 4) L1 [16, 0] #[.int .u64 16, .int .u64 0] W h rfl 2 rfl (by simp) W.heap.size rfl hne (by omega) (by omega) (by omega)
   have c3 := fun W (h : WIs W g bb (q + 6) L2) => put_w g bb 2 (q + 6) L2 [65521] #[.int .u64 65521] W h rfl 1 rfl (by simp) W.heap.size rfl hne (by omega) (by omega) (by omega)
   have c4 := fun W (h : WIs W g bb (q + 8) L3) => put_w g bb 8 (q + 8) L3 [sy.f1, 0] #[.int .u64 sy.f1, .int .u64 0] W h rfl 2 rfl (by simp) W.heap.size rfl hne (by omega) (by omega) (by omega)
   rw [hL1] at c1
   simp only [hL2] at c2
   simp only [hL3] at c3
   simp only [hL4] at c4
   have C1 := Lib.hid c1
   have C2 := Lib.hid c2
   have C3 := Lib.hid c3
   have C4 := Lib.hid c4
   have HLL := Lib.hid (And.intro hL1 (And.intro hL2 (And.intro hL3 hL4)))
   have Hl4 := Lib.hid l4
   clear hsy hq c1 c2 c3 c4 hL1 hL2 hL3 hL4 l1 l2 l3 l4 hLj hfit hnj
   have HGR := Lib.hid hgr
   have HBR := Lib.hid hbr
   have HNS := Lib.hid hnS
   have HGw := Lib.hid hg
   have HBw := Lib.hid hb
   have HNw : Hid (¬ S2 g bb w.heap.size) := Lib.hid (by rintro (h | h) <;> omega)
   clear hgr hbr hnS hg hb
   go_wp2_with (first
    | (go_at_call 46; refine (C1.out _ (by simp)).mono ?_; rintro e w1 ⟨rfl, hW, hK⟩; have hW1 := Lib.hid hW; have b1 := Lib.hid (blk_kp (blk_new wr _) hK HNS.out); have k1 := Lib.hid ((Kp.alloc HKj.out _).then_ hK (fun _ hk => .inl hk)); have o1 := Lib.hid (blk_kp (kAl HBj.out _) hK HNw.out); clear hW hK C1)
    | (go_at_call 46; refine (C2.out _ hW1.out).mono ?_; rintro e w2 ⟨rfl, hW, hK⟩; have hW2 := Lib.hid hW; have b2 := Lib.hid (blk_kp b1.out hK HNS.out); have k2 := Lib.hid (k1.out.then_ hK (fun _ hk => .inl hk)); have o2 := Lib.hid (blk_kp o1.out hK HNw.out); clear hW hK C2 b1 k1 o1 hW1)
    | (go_at_call 46; refine (C3.out _ hW2.out).mono ?_; rintro e w3 ⟨rfl, hW, hK⟩; have hW3 := Lib.hid hW; have b3 := Lib.hid (blk_kp b2.out hK HNS.out); have k3 := Lib.hid (k2.out.then_ hK (fun _ hk => .inl hk)); have o3 := Lib.hid (blk_kp o2.out hK HNw.out); have s3 : w3.cell? ⟨wr.heap.size, 1, none⟩ = some (.int .u64 sy.f1) := kCe b3.out 1; clear hW hK C3 b2 k2 o2 hW2)
    | (go_at_call 46; refine (C4.out _ hW3.out).mono ?_; rintro e w4 ⟨rfl, hW, hK⟩; have hW4 := Lib.hid hW; have b4 := Lib.hid (blk_kp b3.out hK HNS.out); have k4 := Lib.hid (k3.out.then_ hK (fun _ hk => .inl hk)); have o4 := Lib.hid (blk_kp o3.out hK HNw.out); have s4 : w4.cell? ⟨wr.heap.size, 0, none⟩ = some (.string sy.f0) := kCe b4.out 0; clear hW hK C4 b3 k3 o3 hW3 s3))
   have hq := HQ.out
   have hdr : syms.drop j = sy :: syms.drop (j + 1) := by
    have h1 := HSY.out
    unfold rd_T82 at h1
    rw [Int.toNat_natCast, List.getD_eq_getElem?_getD, List.getElem?_eq_getElem hjl] at h1
    rw [← show syms[j] = sy from h1]
    exact List.drop_eq_getElem_cons hjl
   have hX := HXj.out
   obtain ⟨e1, e2, e3, e4⟩ := HLL.out
   rw [hdr, symsPut, hq, e1, e2, e3, e4] at hX
   have hw4 := hW4.out
   rw [show q + 8 + 8 * 2 = tb + 24 + 24 * (j + 1) by omega] at hw4
   rw [show q + 24 = tb + 24 + 24 * (j + 1) by omega] at hX
   exact ⟨⟨j + 1, nextPl pl sy, L4, rfl, by simp, by omega, Lib.hid hw4, k4, o4, Lib.hid ⟨hX.1, Hl4.out.trans hX.2⟩⟩, by simp [RowKit.intOf]; omega⟩
  ·have hje : j = syms.length := by omega
   subst hje
   have hX := HXj.out
   rw [List.drop_length, symsPut] at hX
   obtain ⟨rfl, hLl⟩ := hX
   have hbx := HBj.out
   rw [← HOB.out] at hbx
   have cTx : wr.cell? ⟨w.heap.size, 2, none⟩ = some (.int .i64 (tx : Int)) := kCe hbx 2
   have hpl := kCe HWj.out.wr 1
   have hplf := kFr HWj.out.wr 1
   have cPl : wr.cell? ⟨g, 1, none⟩ = some (.int .i64 ((tb + 24 + 24 * syms.length : Nat) : Int)) := hpl
   clear hbx hpl
   go_wp2
   obtain ⟨F2, hF2⟩ : ∃ F2, namesPut Lj (tx + 1) syms = F2 := ⟨_, rfl⟩
   have HF2 := Lib.hid hF2
   have HLl := Lib.hid hLl
   have k0 := Lib.hid (HKj.out.setCell (p := ⟨g, 1, none⟩) (.inl (.inl rfl)) (.int .i64 ((tx : Int) + 1)))
   have w0 := Lib.hid (HWj.out.at_ hne (tx + 1))
   have o0 := Lib.hid (blk_far (p := ⟨g, 1, none⟩) (show wr.heap[w.heap.size]? = some (.cells _ _ (0, 0)) from by rw [HBj.out, ← HOB.out]) (show w.heap.size ≠ g by omega) (.int .i64 ((tx : Int) + 1)))
   have HS := Lib.hid hpos
   clear hF2 hLl cTx cPl hplf hpos
   go_loopw [56] (fun v56 wx => ∃ (j p : Nat) (Li : List Int), v56 = .int .i64 (j : Int) ∧ j ≤ syms.length ∧ Hid (WIs wx g bb p Li) ∧ Hid (Kp w wx (S2 g bb)) ∧ Hid (wx.heap[w.heap.size]? = some OB) ∧
    Hid (namesPut Li p (syms.drop j) = F2 ∧ Li.length = L.length ∧ p + total (syms.drop j) = tx + 1 + total syms)) (fun v56 _ => syms.length - (RowKit.intOf v56).toNat)
   case atStart => exact ⟨0, tx + 1, Lj, rfl, Nat.zero_le _, w0, k0, Lib.hid (by rw [← HOB.out]; exact o0.out), Lib.hid ⟨HF2.out, HLl.out, rfl⟩⟩
   case round =>
    obtain ⟨j, p, Li, rfl, hj, HWi, HKi, HBi, HXi⟩ := hrel
    by_cases hjl : j < syms.length
    ·obtain ⟨ad, eA, x0, x1⟩ := at_T82 (HL.out wr HKi.out) (j : Int) (by omega) (by omega)
     subst eA
     rw [Int.toNat_natCast] at x0 x1
     obtain ⟨sy, hsy⟩ : ∃ sy, rd_T82 syms (j : Int) = sy := ⟨_, rfl⟩
     rw [hsy] at x0 x1
     have hdr : syms.drop j = sy :: syms.drop (j + 1) := by
      have h1 := hsy
      unfold rd_T82 at h1
      rw [Int.toNat_natCast, List.getD_eq_getElem?_getD, List.getElem?_eq_getElem hjl] at h1
      rw [← show syms[j] = sy from h1]
      exact List.drop_eq_getElem_cons hjl
     have hX := HXi.out
     rw [hdr, namesPut, total] at hX
     obtain ⟨hX1, hX2, hX3⟩ := hX
     have hmem : sy ∈ syms := List.mem_of_mem_drop (by rw [hdr]; simp)
     have c1 := text_w g bb p sy.f0 Li (wr.alloc (.cells #[.string sy.f0, .int .u64 sy.f1] 82)) (HWi.out.alloc _) hne (by rw [hX2]; exact hn) (by rw [hX2]; omega) (HS.out sy hmem)
     obtain ⟨L5, hL5⟩ : ∃ L5, putAt Li p (strL sy.f0) = L5 := ⟨_, rfl⟩
     have l5 : L5.length = Li.length := by
      rw [← hL5]
      refine putAt_length ?_
      have : (strL sy.f0).length = sy.f0.size := by unfold strL; rw [List.length_map, ← Lib.size_eq]
      rw [this, hX2]
      omega
     rw [hL5] at c1 hX1
     have C1 := Lib.hid c1
     have H1 := Lib.hid hX1
     have H2 := Lib.hid (l5.trans hX2)
     have H3 := Lib.hid hX3
     have hps : p + sy.f0.size < 4611686018427387904 := by omega
     obtain ⟨ps, hpse⟩ : ∃ ps, p + sy.f0.size = ps := ⟨_, rfl⟩
     rw [hpse] at hps
     have HPS := Lib.hid hpse
     have HNw : Hid (¬ S2 g bb w.heap.size) := Lib.hid (by rintro (h | h) <;> omega)
     clear hsy hdr hX1 hX2 hX3 c1 hL5 l5 hmem hpse
     go_wp2_with (go_at_call 45; refine C1.out.mono ?_; rintro e w1 ⟨rfl, hW, hK⟩; rw [HPS.out] at hW; have hW1 := Lib.hid hW; have k1 := Lib.hid ((Kp.alloc HKi.out _).then_ hK (fun _ hk => .inl hk)); have o1 := Lib.hid (blk_kp (kAl (show wr.heap[w.heap.size]? = some OB from HBi.out) _) hK HNw.out); have cp : w1.cell? ⟨g, 1, none⟩ = some (.int .i64 (ps : Int)) := kCe hW.wr 1; have cf : w1.frozen? ⟨g, 1, none⟩ = false := kFr hW.wr 1; clear hW hK C1)
     have h1 := H1.out
     rw [HPS.out] at h1
     have h3 := H3.out
     have hps2 := HPS.out
     exact ⟨⟨j + 1, ps + 1, L5, by simp, by omega, Lib.hid (hW1.out.at_ hne (ps + 1)), Lib.hid (k1.out.setCell (p := ⟨g, 1, none⟩) (.inl (.inl rfl)) _), Lib.hid (by rw [← HOB.out]; exact blk_far (p := ⟨g, 1, none⟩) (by rw [o1.out, ← HOB.out]) (by show w.heap.size ≠ g; omega) _), Lib.hid ⟨h1, H2.out, by omega⟩⟩, by simp [RowKit.intOf]; omega⟩
    ·have hje : j = syms.length := by omega
     subst hje
     have hX := HXi.out
     rw [List.drop_length, namesPut, total] at hX
     obtain ⟨rfl, hLi, hpe⟩ := hX
     have hbx := HBi.out
     rw [← HOB.out] at hbx
     have cSe : wr.cell? ⟨w.heap.size, 4, none⟩ = some (.int .i64 (se : Int)) := kCe hbx 4
     have c1 := text_w g bb p ⟨#[0, 46, 115, 121, 109, 116, 97, 98, 0, 46, 115, 116, 114, 116, 97, 98, 0, 46, 115, 104, 115, 116, 114, 116, 97, 98, 0]⟩ Li wr HWi.out hne (by rw [hLi]; exact hn) (by rw [hLi]; show p + 27 ≤ _; omega) (by show 0 < 27; omega)
     have C1 := Lib.hid c1
     clear c1 hbx cSe
     have HNw : Hid (¬ S2 g bb w.heap.size) := Lib.hid (by rintro (h | h) <;> omega)
     go_wp2_with (go_at_call 45; refine C1.out.mono ?_; rintro e w1 ⟨rfl, hW, hK⟩; have hW1 := Lib.hid hW; have k1 := Lib.hid (HKi.out.then_ hK (fun _ hk => .inl hk)); have o1 := Lib.hid (blk_kp (show wr.heap[w.heap.size]? = some OB from HBi.out) hK HNw.out); have ob : w1.heap[w.heap.size]? = some (.cells _ _ (0, 0)) := (by rw [o1.out, ← HOB.out]); have q1 : w1.cell? ⟨w.heap.size, 1, none⟩ = some (.int .i64 (tb : Int)) := kCe ob 1; have q2 : w1.cell? ⟨w.heap.size, 2, none⟩ = some (.int .i64 (tx : Int)) := kCe ob 2; have q3 : w1.cell? ⟨w.heap.size, 3, none⟩ = some (.int .i64 (ti : Int)) := kCe ob 3; have q4 : w1.cell? ⟨w.heap.size, 4, none⟩ = some (.int .i64 (se : Int)) := kCe ob 4; have cp : w1.cell? ⟨g, 1, none⟩ = some _ := kCe hW.wr 1; have cf : w1.frozen? ⟨g, 1, none⟩ = false := kFr hW.wr 1; have hgs : w.heap.size ≠ g := (by omega); clear hW hK C1 ob)
     obtain ⟨SC, hSC⟩ : ∃ SC : Array Value, (#[Value.int .i64 1, Value.int .i64 2, Value.int .i64 (tb : Int), Value.int .i64 ((tx : Int) - tb), Value.int .i64 2, Value.int .i64 1, Value.int .i64 8, Value.int .i64 24, Value.int .i64 9, Value.int .i64 3, Value.int .i64 (tx : Int), Value.int .i64 ((ti : Int) - tx), Value.int .i64 0, Value.int .i64 0, Value.int .i64 1, Value.int .i64 0, Value.int .i64 17, Value.int .i64 3, Value.int .i64 (ti : Int), Value.int .i64 27, Value.int .i64 0, Value.int .i64 0, Value.int .i64 1, Value.int .i64 0] : Array Value) = SC := ⟨_, rfl⟩
     rw [hSC]
     have HSC := Lib.hid hSC
     have hw2 := Lib.hid ((hW1.out.at_ hne (se + 64)).alloc (.cells SC 138))
     have k2 := Lib.hid ((k1.out.setCell (p := ⟨g, 1, none⟩) (.inl (.inl rfl)) (.int .i64 ((se : Int) + 64))).alloc (.cells SC 138))
     obtain ⟨sb, hsb⟩ : ∃ sb, (w1.setCell ⟨g, 1, none⟩ (.int .i64 ((se : Int) + 64))).heap.size = sb := ⟨_, rfl⟩
     have hbn := blk_new (w1.setCell ⟨g, 1, none⟩ (.int .i64 ((se : Int) + 64))) (.cells SC 138)
     rw [hsb] at hbn
     have HBN := Lib.hid hbn
     have e1 : w1.heap.size = sb := by rw [← hsb]; simp [World.setCell]
     rw [e1]
     clear hSC hbn q1 q2 q3 q4 cp cf
     obtain ⟨F3, hF3⟩ : ∃ F3, putAt Li p (strL titlesB) = F3 := ⟨_, rfl⟩
     have hF3l : F3.length = L.length := by
      rw [← hF3, putAt_length ?_]
      ·exact hLi
      ·show p + 27 ≤ _
       rw [hLi]
       omega
     have hw2' : Hid (WIs ((w1.setCell ⟨g, 1, none⟩ (.int .i64 ((se : Int) + 64))).alloc (.cells SC 138)) g bb (se + 64) F3) := by
      rw [← hF3]
      exact hw2
     have HF3 := Lib.hid hF3
     have HPE := Lib.hid hpe
     have HF3l := Lib.hid hF3l
     clear hF3 hw2 hpe hF3l
     have BT : (tb : Int) < 4611686018427387904 ∧ (tx : Int) < 4611686018427387904 ∧ (ti : Int) < 4611686018427387904 ∧ (tb : Int) ≤ tx ∧ (tx : Int) ≤ ti := by omega
     have HBT := Lib.hid BT
     clear BT
     go_loopw [101] (fun v101 wx => ∃ (j : Nat), v101 = .int .i64 (j : Int) ∧ j ≤ 3 ∧ Hid (WIs wx g bb (se + 64 + 64 * j) (secsTo F3 (se + 64) tb tx ti j)) ∧ Hid (Kp w wx (S2 g bb)) ∧ Hid (wx.heap[sb]? = some (.cells SC 138 (0, 0))) ∧ Hid ((secsTo F3 (se + 64) tb tx ti j).length = L.length)) (fun v101 _ => 3 - (RowKit.intOf v101).toNat)
     case atStart => exact ⟨0, rfl, by omega, hw2', k2, HBN, HF3l⟩
     case round =>
      obtain ⟨j, rfl, hj, HWk, HKk, HBk, HLk⟩ := hrel
      by_cases hj3 : j < 3
      ·have hj012 : j = 0 ∨ j = 1 ∨ j = 2 := by omega
       have R : ∃ x0 x1 x2 x3 x4 x5 x6 x7 : Int, (0 ≤ x0 ∧ x0 < 4611686018427387904) ∧ (0 ≤ x1 ∧ x1 < 4611686018427387904) ∧ (0 ≤ x2 ∧ x2 < 4611686018427387904) ∧ (0 ≤ x3 ∧ x3 < 4611686018427387904) ∧ (0 ≤ x4 ∧ x4 < 4611686018427387904) ∧ (0 ≤ x5 ∧ x5 < 4611686018427387904) ∧ (0 ≤ x6 ∧ x6 < 4611686018427387904) ∧ (0 ≤ x7 ∧ x7 < 4611686018427387904) ∧
        wr.cell? ⟨sb, 8 * j + 0, none⟩ = some (.int .i64 x0) ∧ wr.cell? ⟨sb, 8 * j + 1, none⟩ = some (.int .i64 x1) ∧ wr.cell? ⟨sb, 8 * j + 2, none⟩ = some (.int .i64 x2) ∧ wr.cell? ⟨sb, 8 * j + 3, none⟩ = some (.int .i64 x3) ∧ wr.cell? ⟨sb, 8 * j + 4, none⟩ = some (.int .i64 x4) ∧ wr.cell? ⟨sb, 8 * j + 5, none⟩ = some (.int .i64 x5) ∧ wr.cell? ⟨sb, 8 * j + 6, none⟩ = some (.int .i64 x6) ∧ wr.cell? ⟨sb, 8 * j + 7, none⟩ = some (.int .i64 x7) ∧
        secPut (secsTo F3 (se + 64) tb tx ti j) (se + 64 + 64 * j) x0 x1 x2 x3 x4 x5 x6 x7 = secsTo F3 (se + 64) tb tx ti (j + 1) := by
        have hc := fun k => kCe HBk.out k
        rw [← HSC.out] at hc
        have hb5 := HBT.out
        rcases hj012 with rfl | rfl | rfl
        ·exact ⟨1, 2, tb, tx - tb, 2, 1, 8, 24, by omega, by omega, by omega, by omega, by omega, by omega, by omega, by omega, hc 0, hc 1, hc 2, hc 3, hc 4, hc 5, hc 6, hc 7, rfl⟩
        ·exact ⟨9, 3, tx, ti - tx, 0, 0, 1, 0, by omega, by omega, by omega, by omega, by omega, by omega, by omega, by omega, hc 8, hc 9, hc 10, hc 11, hc 12, hc 13, hc 14, hc 15, rfl⟩
        ·exact ⟨17, 3, ti, 27, 0, 0, 1, 0, by omega, by omega, by omega, by omega, by omega, by omega, by omega, by omega, hc 16, hc 17, hc 18, hc 19, hc 20, hc 21, hc 22, hc 23, rfl⟩
       obtain ⟨x0, x1, x2, x3, x4, x5, x6, x7, ⟨b00, b01⟩, ⟨b10, b11⟩, ⟨b20, b21⟩, ⟨b30, b31⟩, ⟨b40, b41⟩, ⟨b50, b51⟩, ⟨b60, b61⟩, ⟨b70, b71⟩, r0, r1, r2, r3, r4, r5, r6, r7, hS⟩ := R
       obtain ⟨Lk, hLk0⟩ : ∃ Lk, secsTo F3 (se + 64) tb tx ti j = Lk := ⟨_, rfl⟩
       obtain ⟨q, hq⟩ : ∃ q, se + 64 + 64 * j = q := ⟨_, rfl⟩
       rw [hLk0, hq] at HWk
       have hLk := HLk.out
       rw [hLk0] at hLk
       rw [hLk0, hq] at hS
       have hnj : Lk.length < 4611686018427387904 := by rw [hLk]; exact hn
       have hfit : q + 64 ≤ Lk.length := by rw [hLk]; omega
       obtain ⟨L1, hL1⟩ : ∃ L1, putAt Lk q (putL 4 [x0, x1]) = L1 := ⟨_, rfl⟩
       obtain ⟨L2, hL2⟩ : ∃ L2, putAt L1 (q + 8) (putL 8 [0, 0, x2, x3]) = L2 := ⟨_, rfl⟩
       obtain ⟨L3, hL3⟩ : ∃ L3, putAt L2 (q + 40) (putL 4 [x4, x5]) = L3 := ⟨_, rfl⟩
       obtain ⟨L4, hL4⟩ : ∃ L4, putAt L3 (q + 48) (putL 8 [x6, x7]) = L4 := ⟨_, rfl⟩
       have l1 : L1.length = Lk.length := by rw [← hL1]; exact putAt_length (by rw [putL_length]; simp; omega)
       have l2 : L2.length = Lk.length := by rw [← hL2, ← l1]; exact putAt_length (by rw [putL_length, l1]; simp; omega)
       have l3 : L3.length = Lk.length := by rw [← hL3, ← l2]; exact putAt_length (by rw [putL_length, l2]; simp; omega)
       have l4 : L4.length = Lk.length := by rw [← hL4, ← l3]; exact putAt_length (by rw [putL_length, l3]; simp; omega)
       have c1 := fun k hk => put_w g bb 4 q Lk [x0, x1] #[.int .u64 x0, .int .u64 x1] (wr.alloc (.cells #[.int .i64 x0, .int .i64 x1, .int .i64 x2, .int .i64 x3, .int .i64 x4, .int .i64 x5, .int .i64 x6, .int .i64 x7] 138)) (HWk.out.alloc _) rfl 2 rfl (by simp) k hk hne hnj (by omega) (by omega)
       have c2 := fun W (h : WIs W g bb (q + 8) L1) => put_w g bb 8 (q + 8) L1 [0, 0, x2, x3] #[.int .u64 0, .int .u64 0, .int .u64 x2, .int .u64 x3] W h rfl 4 rfl (by simp) W.heap.size rfl hne (by omega) (by omega) (by omega)
       have c3 := fun W (h : WIs W g bb (q + 40) L2) => put_w g bb 4 (q + 40) L2 [x4, x5] #[.int .u64 x4, .int .u64 x5] W h rfl 2 rfl (by simp) W.heap.size rfl hne (by omega) (by omega) (by omega)
       have c4 := fun W (h : WIs W g bb (q + 48) L3) => put_w g bb 8 (q + 48) L3 [x6, x7] #[.int .u64 x6, .int .u64 x7] W h rfl 2 rfl (by simp) W.heap.size rfl hne (by omega) (by omega) (by omega)
       rw [hL1] at c1
       simp only [hL2] at c2
       simp only [hL3] at c3
       simp only [hL4] at c4
       rw [secPut, hL1, hL2, hL3, hL4] at hS
       have C1 := Lib.hid c1
       have C2 := Lib.hid c2
       have C3 := Lib.hid c3
       have C4 := Lib.hid c4
       have HS4 := Lib.hid hS
       have Hl4 := Lib.hid (l4.trans hLk)
       have HQ := Lib.hid hq
       have hgr : g < wr.heap.size := blk_lt HWk.out.wr
       have hbr : bb < wr.heap.size := blk_lt HWk.out.by_
       have HNS : Hid (¬ S2 g bb wr.heap.size) := Lib.hid (by rintro (h | h) <;> omega)
       have hgw : g < w.heap.size := blk_lt HW.out.wr
       have hbw : bb < w.heap.size := blk_lt HW.out.by_
       have HNsb : Hid (¬ S2 g bb sb) := Lib.hid (by
        have hk1 : w.heap.size ≤ sb := by rw [← e1]; exact k1.out.1.1
        rintro (h | h) <;> omega)
       clear c1 c2 c3 c4 hL1 hL2 hL3 hL4 l1 l2 l3 l4 hLk0 hq hS hLk hnj hfit hgr hbr hgw hbw
       rcases hj012 with rfl | rfl | rfl
       all_goals
        simp (config := { failIfUnchanged := false }) only [Nat.reduceMul, Nat.reduceAdd] at r0 r1 r2 r3 r4 r5 r6 r7
        go_wp2_with (first
         | (go_at_call 46; refine (C1.out _ (by simp)).mono ?_; rintro e w1 ⟨rfl, hW, hK⟩; have hW1 := Lib.hid hW; have b1 := Lib.hid (blk_kp (blk_new wr _) hK HNS.out); have k1 := Lib.hid ((Kp.alloc HKk.out _).then_ hK (fun _ hk => .inl hk)); have o1 := Lib.hid (blk_kp (kAl HBk.out _) hK HNsb.out); have s2 : w1.cell? ⟨wr.heap.size, 2, none⟩ = some (.int .i64 x2) := kCe b1.out 2; have s3 : w1.cell? ⟨wr.heap.size, 3, none⟩ = some (.int .i64 x3) := kCe b1.out 3; clear hW hK C1)
         | (go_at_call 46; refine (C2.out _ hW1.out).mono ?_; rintro e w2 ⟨rfl, hW, hK⟩; have hW2 := Lib.hid hW; have b2 := Lib.hid (blk_kp b1.out hK HNS.out); have k2 := Lib.hid (k1.out.then_ hK (fun _ hk => .inl hk)); have o2 := Lib.hid (blk_kp o1.out hK HNsb.out); have s4 : w2.cell? ⟨wr.heap.size, 4, none⟩ = some (.int .i64 x4) := kCe b2.out 4; have s5 : w2.cell? ⟨wr.heap.size, 5, none⟩ = some (.int .i64 x5) := kCe b2.out 5; clear hW hK C2 b1 k1 o1 hW1 s2 s3)
         | (go_at_call 46; refine (C3.out _ hW2.out).mono ?_; rintro e w3 ⟨rfl, hW, hK⟩; have hW3 := Lib.hid hW; have b3 := Lib.hid (blk_kp b2.out hK HNS.out); have k3 := Lib.hid (k2.out.then_ hK (fun _ hk => .inl hk)); have o3 := Lib.hid (blk_kp o2.out hK HNsb.out); have s6 : w3.cell? ⟨wr.heap.size, 6, none⟩ = some (.int .i64 x6) := kCe b3.out 6; have s7 : w3.cell? ⟨wr.heap.size, 7, none⟩ = some (.int .i64 x7) := kCe b3.out 7; clear hW hK C3 b2 k2 o2 hW2 s4 s5)
         | (go_at_call 46; refine (C4.out _ hW3.out).mono ?_; rintro e w4 ⟨rfl, hW, hK⟩; have hW4 := Lib.hid hW; have k4 := Lib.hid (k3.out.then_ hK (fun _ hk => .inl hk)); have o4 := Lib.hid (blk_kp o3.out hK HNsb.out); clear hW hK C4 b3 k3 o3 hW3 s6 s7))
        have hq := HQ.out
        have hw4 := hW4.out
        have hs4 := HS4.out
        rw [hs4] at hw4
        have hl4 := Hl4.out
        rw [hs4] at hl4
        first
         | refine ⟨⟨1, rfl, by omega, Lib.hid ?_, k4, o4, Lib.hid ?_⟩, by simp [RowKit.intOf]⟩
         | refine ⟨⟨2, rfl, by omega, Lib.hid ?_, k4, o4, Lib.hid ?_⟩, by simp [RowKit.intOf]⟩
         | refine ⟨⟨3, rfl, by omega, Lib.hid ?_, k4, o4, Lib.hid ?_⟩, by simp [RowKit.intOf]⟩
        ·have e8 : q + 48 + 8 * 2 = q + 64 := rfl
         rw [e8, ← hq] at hw4
         exact hw4
        ·exact hl4
      ·have hje : j = 3 := by omega
       subst hje
       go_wp2
       go_end0
       refine ⟨rfl, ?_, HKk.out⟩
       have h := HWk.out
       unfold namesAll
       rw [HF1.out, HF2.out]
       rw [show tx + 1 + total syms = p by have := HPE.out; omega, HF3.out]
       exact h
end Go.Proofs.YtbnlifldnjgpmaaGreatDoor.PWri
