/- anvilref14.Print: the document's text of a deck. -/
import Derived.Test.YtbmnifnahbehbaaDoorPGr3
import Derived.Test.YtbmnifnahbehbaaDoorPGr2
import Derived.ChangeKeysEq
import Derived.Test.YtbmnifnahbehbaaDoorPDk
import Derived.Test.YtbmnifnahbehbaaDoorPWds1
set_option linter.unusedVariables false
namespace Go.Proofs.YtbmnifnahbehbaaDoor
open Go.RowKit Go.Lib Go.Shelf Go.Proofs.YtbmnifnahbehbaaDoorW.PrintWords Go.Proofs.YtbmnifnahbehbaaDoorW.PrintMore Go.Proofs.YtbmnifnahbehbaaDoorW.PrintLast
open PPr
set_option maxHeartbeats 8000000 in
set_option maxRecDepth 100000 in
theorem print2_c (ram : Int) (c : Cp) (mt : Int) (ps : List S46) (ws : List S48) (Ap Aw : Option Addr) (cp cw : Nat) (w : World) (hG : Glob w) (hps : Kd.C k46 w Ap ps.length ps) (hws : Kd.C k48 w Aw ws.length ws) (hok : (validB ram ps ws && ps.all flagB) = true) (hr : 0 ≤ ram ∧ ram < 1000000) (hpt : ∀ s ∈ ps, PtOk s) (hwt : ∀ x ∈ ws, BytesI x.f3 ∧ x.f3.length ≤ 64) (hmt : Ok64 mt) (hc35 : 0 ≤ c 35 ∧ c 35 < 18446744073709551616) (hc80 : 0 ≤ c 80 ∧ c 80 < 18446744073709551616) (hcp : CpuOk (cpuS c)) :
    Calls Tryd.prog 6 #[.agg (dkA ram c mt (.slice Ap ps.length cp) (.slice Aw ws.length cw))] w fun e w' => e = .returned (.tuple #[.string (outT (deckT ram (cpuS c) mt ps ws)).1, .int .i64 (outT (deckT ram (cpuS c) mt ps ws)).2]) ∧ Below w.heap.size w w' := by
  have hle := valid_le (Bool.and_eq_true_iff.1 hok).1
  have hsm := dLn_small hr hpt hwt hle.2.1 hmt hcp
  rw [← dLn_txt]
  have hfl : ∀ s ∈ ps, 0 ≤ s.f2 ∧ s.f2 ≤ 7 := fun s hs => (hpt s hs).f
  obtain ⟨DL, hDL⟩ : ∃ DL, dLn ram (cpuS c) mt ps ws = DL := ⟨_, rfl⟩
  rw [hDL] at hsm ⊢
  obtain ⟨TX, hTX⟩ : ∃ TX, txt DL = TX := ⟨_, rfl⟩
  rw [hTX]
  have HTX := Lib.hid hTX
  clear hTX
  have cV := fun W (hb : Below w.heap.size w W) => valid2_c ram c mt ps ws Ap Aw cp cw W (Kd.C_below hps hb) (Kd.C_below hws hb)
  rw [(Bool.and_eq_true_iff.1 hok).1] at cV
  have CV := Lib.hid cV
  have cC := fun W (hG : Glob W) => cpuLines_c (cpuS c) W hG (cpuS_33 c) (cpuS_1 c) hcp
  have hcl := cpuLn_len (cpuS c)
  obtain ⟨CL, hCL⟩ : ∃ CL, cpuLn (cpuS c) = CL := ⟨_, rfl⟩
  rw [hCL] at hcl
  simp only [hCL] at cC
  have CC := Lib.hid cC
  have cP := fun W => csr2_c c hc35 hc80 W
  have CP := Lib.hid cP
  have HDL := Lib.hid hDL
  have HCL := Lib.hid hCL
  have HSM := Lib.hid hsm
  have HPT := Lib.hid hpt
  have HWT := Lib.hid hwt
  have HMT := Lib.hid hmt
  have HFL := Lib.hid hfl
  clear cV cC cP hDL hCL hsm hok hpt hwt hmt hcp hc35 hc80 hfl
  obtain ⟨DA, hDA⟩ : ∃ DA, dkA ram c mt (.slice Ap ps.length cp) (.slice Aw ws.length cw) = DA := ⟨_, rfl⟩
  rw [hDA] at CV ⊢
  go_enter Tryd.func6, Tryd.ntmps6
  go_upto_region 1 with (first
    | ((with_reducible refine gate_dst (N := 1) rfl ?_); refine box_event ?hg (N := 1) ?hd (cs := DA) (t := 35) ?hr ?_; (case hd => rfl); (case hg => rfl); (case hr => rfl); intro g hg w1 hb1 hd1; clear hg))
  have HX := Lib.hid hb1
  have hsz : DA.size = 86 := by rw [← hDA]; exact dkA_size _ _ _ _ _
  have hD : DBox w1 g ram c mt (.slice Ap ps.length cp) (.slice Aw ws.length cw) := by rw [← hDA] at hb1; exact hb1
  have HG := Lib.hid (Glob.step hG hd1)
  have HPS := Lib.hid (Kd.C_below hps hd1)
  have HWS := Lib.hid (Kd.C_below hws hd1)
  have HD1 := Lib.hid hd1
  have hS : LS w1 (fun _ => True) (.slice none 0 0) [] 0 w1 := LS.nil (Below.refl _ _) (fun _ _ => trivial)
  have HS := Lib.hid hS
  clear hb1 hDA hG hps hws hd1 hS
  obtain ⟨np, hnp⟩ : ∃ np, ps.length = np := ⟨_, rfl⟩
  obtain ⟨nw, hnw⟩ : ∃ nw, ws.length = nw := ⟨_, rfl⟩
  rw [hnp] at HPS hD hle
  rw [hnw] at HWS hD hle
  have HNP := Lib.hid hnp
  have HNW := Lib.hid hnw
  have hnp16 := hle.1
  have hnw4 := hle.2.1
  have q0 := hD.c0
  have q83 := hD.c83
  have q84 := hD.c84
  have q85 := hD.c85
  have qcpu := hD.cpu
  have HQ := Lib.hid (And.intro q0 (And.intro q83 (And.intro q84 q85)))
  have HQC := Lib.hid qcpu
  clear hnp hnw hle hD q0 q83 q84 q85 qcpu
  go_upto_region 4 with (first
    | ((with_reducible refine gate_ (.load 35 (.tmp 1)) rfl ?_); refine wpList_load_row rfl 35 (.tmp 1) rfl g rfl 35 DA (0, 0) _ HX.out Tryd.underlying35 rfl (by rw [hsz]; kernel_rfl) ?_)
    | (go_at_call 19; refine (CV.out _ HD1.out).mono ?_; rintro e w2 ⟨rfl, hd⟩; have hS2 := HS.out.below hd; clear HS hd; have HS := Lib.hid hS2; clear hS2))
  clear CV HX hsz
  have q84 := HS.out.cell HQ.out.2.2.1
  go_wp2
  clear q84
  have HS0 := HS
  clear HS
  go_loopg [5] np (fun gm v5 wx => ∃ i : Nat, v5 = .int .i64 (i : Int) ∧ i ≤ np ∧ Hid (gm + i = np) ∧ Hid (LS w1 (fun _ => True) (.slice none 0 0) [] 0 wx))
  case atStart => exact ⟨0, rfl, Nat.zero_le _, Lib.hid rfl, HS0⟩
  case round =>
    clear HS0
    obtain ⟨i, rfl, hi, HI, HS⟩ := hrel
    have q84 := HS.out.cell HQ.out.2.2.1
    by_cases hlt : i < np
    · obtain ⟨gm, rfl⟩ : ∃ q, gk = q + 1 := ⟨gk - 1, by have := HI.out; omega⟩
      have p0 := eq_true (show (0 : Int) ≤ (i : Int) by omega)
      have p1 := eq_true (show (i : Int) < (np : Int) by omega)
      obtain ⟨ad, A3, c3, e, x0, x1, x2, x3, hl3, hC3⟩ := seg_at HPS.out HS.out.b hlt
      subst e
      have hip : i < ps.length := by rw [HNP.out]; exact hlt
      have hf := HFL.out _ (List.getElem_mem hip)
      rw [rd46 hip] at x2
      obtain ⟨s, hs⟩ : ∃ s, ps[i] = s := ⟨_, rfl⟩
      rw [hs] at x2 hf
      obtain ⟨f2, hf2⟩ : ∃ f2, s.f2 = f2 := ⟨_, rfl⟩
      rw [hf2] at x2 hf
      have b1 : decide (f2 < 0) = false := decide_eq_false (by omega)
      have b2 : decide (7 < f2) = false := decide_eq_false (by omega)
      clear x0 x1 x3 hl3 hC3 hs hf2 hf
      go_wp2
      go_roundg gm
      case measure => omega
      case rel => exact ⟨i + 1, by go_num, by omega, Lib.hid (by have := HI.out; omega), HS⟩
    · have p1 := eq_false (show ¬ ((i : Int) < (np : Int)) by omega)
      clear HI hi
      have q0 := HS.out.cell HQ.out.1
      go_upto_region 10 with (fail)
      clear q84 p1 hlt
      have hz := itoaZ ram hr.1 hr.2
      have z1 := eq_true (show 4 + (itoaB ram).size ≤ 9223372036854775807 by omega)
      have y1 : (9223372036854775807 < 4 + (itoaB ram).size) = False := eq_false (by omega)
      go_upto_region 12 with (first
        | ((with_reducible refine gate_builtin (b := .append) (xs := #[.tmp 40, .tmp 41]) rfl ?_); at_builtin; refine LS.app HS.out rfl (.tmp 40) (.tmp 41) rfl _ rfl rfl (by omega) ?_; intro v1 w3 hS2 _; clear HS q0; have HS := Lib.hid hS2; clear hS2; have q0 := HS.out.cell HQ.out.1)
        | (go_at_call 20; refine (dec2_c hr.1 hr.2 _).mono ?_; rintro e w4 ⟨rfl, hd⟩; have hS2 := HS.out.below hd; clear HS hd q0; have HS := Lib.hid hS2; clear hS2)
        | ((with_reducible refine gate_builtin (b := .append) (xs := #[.tmp 43, .tmp 48]) rfl ?_); at_builtin; refine LS.app HS.out rfl (.tmp 43) (.tmp 48) rfl _ rfl rfl (by omega) ?_; intro v2 w5 hS2 _; clear HS; have HS := Lib.hid hS2; clear hS2))
      obtain ⟨L2, hL2⟩ : ∃ L2, [wAnvil] ++ [wRam ++ itoaB ram] = L2 := ⟨_, rfl⟩
      have hS := HS.out
      rw [show ([] ++ [(⟨#[97, 110, 118, 105, 108, 32, 49]⟩ : ByteArray)] ++ [(⟨#[114, 97, 109, 32]⟩ : ByteArray) ++ itoaB ram]) = L2 from hL2] at hS
      have HL2 := Lib.hid hL2
      clear HS z1 y1 hL2
      have HS := Lib.hid hS
      clear hS
      have q83 := HS.out.cell HQ.out.2.1
      go_upto_if 52 with (fail)
      go_cut [6] (fun v6 wx => Hid (LS w1 (fun _ => True) v6 (L2 ++ mtL mt) 3 wx))
      case first =>
        have hmt := HMT.out
        cases hm : (mt != 0)
        · have hS := HS.out.more (show 2 ≤ 3 by omega)
          have e : mtL mt = [] := by unfold mtL; rw [if_pos (bne_eq_false_iff_eq.mp hm)]
          go_wp2
          go_meet
          rw [e, List.append_nil]
          exact Lib.hid hS
        · have e : mtL mt = [wMt ++ hexB mt] := by unfold mtL; rw [if_neg (bne_iff_ne.mp hm)]
          have hhz := hexB_size hmt
          have z1 := eq_true (show 6 + (hexB mt).size ≤ 9223372036854775807 by omega)
          have y1 : (9223372036854775807 < 6 + (hexB mt).size) = False := eq_false (by omega)
          have HE := Lib.hid e
          clear e
          go_wp2_with (first
            | (go_at_call 21; refine (hex2_c hmt _).mono ?_; rintro e w9 ⟨rfl, hd⟩; have hS2 := HS.out.below hd; clear HS hd; have HS := Lib.hid hS2; clear hS2)
            | ((with_reducible refine gate_builtin (b := .append) (xs := #[.tmp 53, .tmp 58]) rfl ?_); at_builtin; refine LS.app HS.out rfl (.tmp 53) (.tmp 58) rfl _ rfl rfl (by omega) ?_; intro v3 w10 hS2 _; clear HS; have HS := Lib.hid hS2; clear hS2))
          go_meet
          rw [HE.out]
          exact HS
      case rest =>
        clear HS q83 hz HMT HFL
        have HS := hcut
        clear hcut
        obtain ⟨L3, hL3⟩ : ∃ L3, L2 ++ mtL mt = L3 := ⟨_, rfl⟩
        rw [hL3] at HS
        have HL3 := Lib.hid hL3
        clear hL3
        go_upto_region 15 with (first
          | ((with_reducible refine gate_ (.load 31 (.tmp 61)) rfl ?_); refine wpList_load_mid rfl 31 (.tmp 61) rfl g 1 rfl (cpuL c) _ (fun j v hj => HS.out.cell (HQC.out j v hj)) Tryd.underlying31 rfl (by rw [cpuL_len]; kernel_rfl) ?_)
          | (go_at_call 23; refine (CP.out _).mono ?_; rintro e w6 ⟨rfl, hd⟩; have hS2 := HS.out.below hd; clear HS hd; have HS := Lib.hid hS2; clear hS2)
          | (go_at_call 22; refine (CC.out _ (Glob.step HG.out HS.out.b)).mono ?_; rintro e w7 ⟨vL, rfl, hR, hd⟩; obtain ⟨A7, c7, rfl, hc7, hC7⟩ := Kd.R_reads hR; have hS2 := HS.out.below hd; clear HS hd hR hc7; have HS := Lib.hid hS2; have HC7 := Lib.hid hC7; clear hS2 hC7)
          | ((with_reducible refine gate_builtin (b := .append) (xs := #[.tmp 60, .tmp 64]) rfl ?_); at_builtin; refine LS.apps HS.out rfl (.tmp 60) (.tmp 64) rfl CL rfl rfl HC7.out (by omega) (by omega) ?_; intro v8 w8 hS2 _; clear HS HC7; have HS := Lib.hid (hS2.more (show 3 + CL.length ≤ 100 by omega)); clear hS2))
        obtain ⟨L4, hL4⟩ : ∃ L4, L3 ++ CL = L4 := ⟨_, rfl⟩
        rw [hL4] at HS
        have hdl : L4 ++ ps.flatMap partL ++ runs (ws.map wordsB) = DL := by
          rw [← HDL.out, ← hL4, ← HL3.out, ← HL2.out, ← HCL.out]
          rfl
        obtain ⟨T, hT⟩ : ∃ T, L4 ++ ps.flatMap partL = T := ⟨_, rfl⟩
        rw [hT] at hdl
        have HDL2 := Lib.hid hdl
        have HT := Lib.hid hT
        clear hL4 hdl hT HL2 HL3 HCL HDL CC CP
        have q84 := HS.out.cell HQ.out.2.2.1
        go_wp2
        clear q84
        have HS0 := HS
        clear HS
        go_loopg [6, 7] np (fun gm v6 v7 wx => ∃ (v : Value) (i : Nat) (L : List ByteArray), v = v6 ∧ v7 = .int .i64 (i : Int) ∧ i ≤ np ∧ Hid (gm + i = np) ∧ Hid (LS w1 (fun _ => True) v L (100 + 70000 * i) wx) ∧ Hid (L ++ (ps.drop i).flatMap partL = T))
        case atStart => exact ⟨_, 0, L4, rfl, rfl, Nat.zero_le _, Lib.hid rfl, HS0, HT⟩
        case round =>
          clear HS0 HT
          obtain ⟨v, i, L, rfl, rfl, hi, HI, HS, HT⟩ := hrel
          have q84 := HS.out.cell HQ.out.2.2.1
          by_cases hlt : i < np
          · obtain ⟨gm, rfl⟩ : ∃ q, gk = q + 1 := ⟨gk - 1, by have := HI.out; omega⟩
            have p0 := eq_true (show (0 : Int) ≤ (i : Int) by omega)
            have p1 := eq_true (show (i : Int) < (np : Int) by omega)
            obtain ⟨ad, A3, c3, e, x0, x1, x2, x3, hl3, hC3⟩ := seg_at HPS.out HS.out.b hlt
            subst e
            have hip : i < ps.length := by rw [HNP.out]; exact hlt
            have hok := HPT.out _ (List.getElem_mem hip)
            have hT := HT.out
            rw [List.drop_eq_getElem_cons hip, List.flatMap_cons] at hT
            rw [rd46 hip] at x0 x1 x2 x3 hl3 hC3
            obtain ⟨s, hs⟩ : ∃ s, ps[i] = s := ⟨_, rfl⟩
            rw [hs] at x0 x1 x2 x3 hl3 hC3 hok hT
            have hpl := (partL_small hok).2
            have hcl2 := fun W (hb : Below w1.heap.size w1 W) => partLines_c s hok A3 c3 W (Kd.C_below hC3 hb) hl3
            obtain ⟨PL, hPL⟩ : ∃ PL, partL s = PL := ⟨_, rfl⟩
            rw [hPL] at hT hpl
            simp only [hPL] at hcl2
            have HCL2 := Lib.hid hcl2
            have HT2 := Lib.hid hT
            clear hs hPL hcl2 hT HT hC3 hl3 hok
            go_upto_region 17 with (first
              | (go_at_call 24; refine (HCL2.out _ HS.out.b).mono ?_; rintro e wA ⟨vL, rfl, hR, hd⟩; obtain ⟨A7, c7, rfl, hc7, hC7⟩ := Kd.R_reads hR; have hS2 := HS.out.below hd; clear HS hd hR hc7; have HS := Lib.hid hS2; have HC7 := Lib.hid hC7; clear hS2 hC7)
              | ((with_reducible refine gate_builtin (b := .append) (xs := #[.tmp 73, .tmp 79]) rfl ?_); at_builtin; refine LS.apps HS.out rfl (.tmp 73) (.tmp 79) rfl PL rfl rfl HC7.out (by omega) (by omega) ?_; intro v8 wB hS2 _; clear HS HC7; have HS := Lib.hid (hS2.more (show 100 + 70000 * i + PL.length ≤ 100 + 70000 * (i + 1) by omega)); clear hS2))
            clear x0 x1 x2 x3 q84 HCL2
            go_wp2
            go_roundg gm
            case measure => omega
            case rel => exact ⟨_, i + 1, L ++ PL, rfl, by go_num, by omega, Lib.hid (by have := HI.out; omega), HS, Lib.hid (by rw [List.append_assoc]; exact HT2.out)⟩
          · have hT := HT.out
            rw [List.drop_of_length_le (by rw [HNP.out]; omega)] at hT
            replace hT : L = T := (List.append_nil L).symm.trans hT
            have hS := HS.out.more (show 100 + 70000 * i ≤ 2000000 by omega)
            rw [hT] at hS
            have p1 := eq_false (show ¬ ((i : Int) < (np : Int)) by omega)
            clear HS HT hT
            have HS := Lib.hid hS
            clear hS
            obtain ⟨xs, hxs⟩ : ∃ xs, ws.map wordsB = xs := ⟨_, rfl⟩
            have hxl : xs.length = nw := by rw [← hxs, List.length_map, HNW.out]
            have hxat : ∀ j (h : j < nw), xs[j]? = some (wordsB (rd_T48 ws (j : Int))) := fun j h => by
              have hj : j < ws.length := by rw [HNW.out]; exact h
              rw [← hxs, List.getElem?_map, List.getElem?_eq_getElem hj, rd48 hj]
              rfl
            have hT2 : T ++ runs xs = DL := by rw [← hxs]; exact HDL2.out
            have HT2 := Lib.hid hT2
            have HXL := Lib.hid hxl
            have HXA := Lib.hid hxat
            clear hT2 hxl hxat hxs HDL2
            go_upto_region 19 with (fail)
            clear q84 p1
            have q85 := HS.out.cell HQ.out.2.2.2
            go_wp2
            clear q85
            have HS0 := HS
            clear HS
            go_loopg [6, 8] nw (fun gm v6 v8 wx => ∃ (v : Value) (i : Nat) (L : List ByteArray), v = v6 ∧ v8 = .int .i64 (i : Int) ∧ i ≤ nw ∧ Hid (gm = nw - i) ∧ Hid (LS w1 (fun _ => True) v L (2000000 + i) wx) ∧ Hid (L ++ runs (xs.drop i) = DL))
            case atStart => exact ⟨_, 0, T, rfl, rfl, Nat.zero_le _, Lib.hid rfl, HS0, HT2⟩
            case round =>
              clear HS0 HT2
              obtain ⟨v, i, L, rfl, rfl, hi, HI2, HS, HT⟩ := hrel
              have q85 := HS.out.cell HQ.out.2.2.2
              by_cases hlt : i < nw
              · have p0 := eq_true (show (0 : Int) ≤ (i : Int) by omega)
                have p1 := eq_true (show (i : Int) < (nw : Int) by omega)
                obtain ⟨ad, A3, c3, e, x0, x1, x2, x3, hl3, hC3⟩ := world_at HWS.out HS.out.b hlt
                subst e
                have hiw : i < ws.length := by rw [HNW.out]; exact hlt
                have hwb := HWT.out _ (List.getElem_mem hiw)
                have hx := HXA.out i hlt
                rw [rd48 hiw] at x0 x1 x2 x3 hl3 hC3 hx
                obtain ⟨x, hxd⟩ : ∃ x, ws[i] = x := ⟨_, rfl⟩
                rw [hxd] at x0 x1 x2 x3 hl3 hC3 hx hwb
                have hwc := fun W (hb : Below wr.heap.size wr W) => ww_c x A3 c3 W hwb.1 (by omega) hl3 (Kd.C_below hC3 hb)
                have hsz := words_size x hwb.2
                obtain ⟨sw, hsw⟩ : ∃ sw, wordsB x = sw := ⟨_, rfl⟩
                rw [hsw] at hwc hsz hx
                have HWC := Lib.hid hwc
                have HX := Lib.hid hx
                have HSZ := Lib.hid hsz
                clear hwc hx hsz hxd hsw hwb hl3 hC3
                go_upto_region 22 with (first
                  | (go_at_call 25; refine (HWC.out _ (Below.refl _ _)).mono ?_; rintro e wA ⟨rfl, hd⟩; have hS2 := HS.out.below hd; clear HS hd q85; have HS := Lib.hid hS2; clear hS2))
                have hS := HS.out
                clear HS x0 x1 x2 x3
                have hT := HT.out
                have hxs := HX.out
                rw [drop_at hxs, runs_cons] at hT
                clear HT hxs HX HWC
                have HT := Lib.hid hT
                have HS := Lib.hid hS
                clear hT hS
                go_wp2
                have HS0 := HS
                clear HS
                go_loopg [10] nw (fun gm v10 wx => ∃ n : Nat, v10 = .int .i64 (n : Int) ∧ 1 ≤ n ∧ i + n ≤ nw ∧ Hid (gm + n = nw + 1) ∧ Hid (LS w1 (fun _ => True) v L (2000000 + i) wx) ∧ Hid (1 + runN sw (xs.drop (i + 1)) = n + runN sw (xs.drop (i + n))))
                case atStart => exact ⟨1, rfl, Nat.le_refl _, by omega, Lib.hid rfl, HS0, Lib.hid rfl⟩
                case round =>
                  clear HS0
                  obtain ⟨n, rfl, hn1, hn, HN, HS, HR⟩ := hrel
                  have q85 := HS.out.cell HQ.out.2.2.2
                  have E1 : IntKind.i64.wrap ((i : Int) + (n : Int)) = (i : Int) + (n : Int) := by rw [IntKind.wrap_i64]; omega
                  by_cases hln : i + n < nw
                  · obtain ⟨gm2, rfl⟩ : ∃ q, gk = q + 1 := ⟨gk - 1, by have := HN.out; omega⟩
                    have p2 := eq_true (show (i : Int) + (n : Int) < (nw : Int) by omega)
                    have p3 : decide ((i : Int) + (n : Int) < (nw : Int)) = true := decide_eq_true (by omega)
                    have p4 := eq_true (show (0 : Int) ≤ (i : Int) + (n : Int) by omega)
                    obtain ⟨ad2, A4, c4, e2, x0, x1, x2, x3, hl4, hC4⟩ := world_at HWS.out HS.out.b hln
                    injection e2 with e2
                    subst e2
                    have hiw : i + n < ws.length := by rw [HNW.out]; exact hln
                    have hwb := HWT.out _ (List.getElem_mem hiw)
                    have hx := HXA.out (i + n) hln
                    rw [rd48 hiw] at x0 x1 x2 x3 hl4 hC4 hx
                    obtain ⟨y, hyd⟩ : ∃ y, ws[i + n] = y := ⟨_, rfl⟩
                    rw [hyd] at x0 x1 x2 x3 hl4 hC4 hx hwb
                    have hwc := fun W (hb : Below wr.heap.size wr W) => ww_c y A4 c4 W hwb.1 (by omega) hl4 (Kd.C_below hC4 hb)
                    have hin : ((i : Int) + (n : Int)).toNat = i + n := by omega
                    obtain ⟨tw, htw⟩ : ∃ tw, wordsB y = tw := ⟨_, rfl⟩
                    rw [htw] at hwc hx
                    have HWC := Lib.hid hwc
                    have HX := Lib.hid hx
                    clear hwc hx hyd htw hwb hl4 hC4
                    by_cases hts : tw = sw
                    · have b1 : (tw.toList == sw.toList) = true := by rw [hts]; exact beq_self_eq_true _
                      have hr2 := runN_more HX.out hts
                      have HTS := Lib.hid hr2
                      clear hts hr2
                      go_upto_if 110 with (first
                        | (go_at_call 25; refine (HWC.out _ (Below.refl _ _)).mono ?_; rintro e wB ⟨rfl, hd⟩; have hS2 := HS.out.below hd; clear HS hd q85; have HS := Lib.hid hS2; clear hS2))
                      go_wp2
                      go_roundg gm2
                      case measure => omega
                      case rel => exact ⟨n + 1, by go_num, by omega, by omega, Lib.hid (by have := HN.out; omega), HS, Lib.hid (by have h1 := HR.out; have h2 := HTS.out; rw [Nat.add_assoc] at h2; omega)⟩
                    · have b1 : (tw.toList == sw.toList) = false := str_ne hts
                      have hr2 := runN_stop HX.out hts
                      have h1 : 1 + runN sw (xs.drop (i + 1)) = n := by rw [HR.out, hr2]; rfl
                      have H1 := Lib.hid h1
                      clear hts hr2 h1 HR
                      go_upto_if 110 with (first
                        | (go_at_call 25; refine (HWC.out _ (Below.refl _ _)).mono ?_; rintro e wB ⟨rfl, hd⟩; have hS2 := HS.out.below hd; clear HS hd q85; have HS := Lib.hid hS2; clear hS2))
                      clear x0 x1 x2 x3 HX HWC b1 hin E1 p2 p3 p4
                      go_upto_if 114 with (fail)
                      have hT3 : L ++ [stepL sw n] ++ runs (xs.drop (i + n)) = DL := by
                        have h := HT.out
                        have h1 := H1.out
                        rw [h1, List.drop_drop, show i + 1 + runN sw (xs.drop (i + 1)) = i + n by omega] at h
                        rw [List.append_assoc]
                        exact h
                      have HT3 := Lib.hid hT3
                      clear hT3 HT H1
                      go_cut [6] (fun v6 wx => Hid (LS w1 (fun _ => True) v6 (L ++ [stepL sw n]) (2000000 + i + 1) wx))
                      case first =>
                        by_cases hn1e : n = 1
                        · subst hn1e
                          have hz := HSZ.out
                          have z1 := eq_true (show 4 + sw.size ≤ 9223372036854775807 by omega)
                          have y1 : (9223372036854775807 < 4 + sw.size) = False := eq_false (by omega)
                          go_wp2_with (first
                            | ((with_reducible refine gate_builtin (b := .append) (xs := #[.tmp 115, .tmp 118]) rfl ?_); at_builtin; refine LS.app HS.out rfl (.tmp 115) (.tmp 118) rfl _ rfl rfl (by omega) ?_; intro v3 wC hS2 _; clear HS; have HS := Lib.hid hS2; clear hS2))
                          go_meet
                          rw [stepL, if_pos rfl]
                          exact HS
                        · have hz := HSZ.out
                          have hne : ((n : Int) == 1) = false := beq_eq_false_iff_ne.mpr (by omega)
                          have hne2 : decide ((n : Int) = 1) = false := decide_eq_false (by omega)
                          have hiz := itoa_size n (by omega)
                          have hci := fun W => dec2_c (n := (n : Int)) (by omega) (by omega) W
                          obtain ⟨I, hI⟩ : ∃ I, itoaB (n : Int) = I := ⟨_, rfl⟩
                          rw [hI] at hiz
                          simp only [hI] at hci
                          have HCI := Lib.hid hci
                          have HI3 := Lib.hid hI
                          have hN1 := Lib.hid hn1e
                          clear hci hI hn1e
                          have z1 := eq_true (show 6 + I.size ≤ 9223372036854775807 by omega)
                          have z2 := eq_true (show 6 + I.size + sw.size ≤ 9223372036854775807 by omega)
                          have y1 : (9223372036854775807 < 6 + I.size) = False := eq_false (by omega)
                          have y2 : (9223372036854775807 < 6 + I.size + sw.size) = False := eq_false (by omega)
                          go_wp2_with (first
                            | (go_at_call 20; refine (HCI.out _).mono ?_; rintro e wD ⟨rfl, hd⟩; have hS2 := HS.out.below hd; clear HS hd; have HS := Lib.hid hS2; clear hS2)
                            | ((with_reducible refine gate_builtin (b := .append) (xs := #[.tmp 120, .tmp 126]) rfl ?_); at_builtin; refine LS.app HS.out rfl (.tmp 120) (.tmp 126) rfl _ rfl rfl (by omega) ?_; intro v3 wC hS2 _; clear HS; have HS := Lib.hid hS2; clear hS2))
                          go_meet
                          rw [stepL, if_neg hN1.out, HI3.out]
                          exact HS
                      case rest =>
                        clear HS
                        have HS := hcut
                        clear hcut
                        go_wp2
                        go_roundg (nw - (i + n))
                        case measure => have := HI2.out; omega
                        case rel => exact ⟨_, i + n, _, rfl, by go_num, by omega, Lib.hid rfl, Lib.hid (HS.out.more (by omega)), HT3⟩
                  · have h1 : 1 + runN sw (xs.drop (i + 1)) = n := by rw [HR.out, runN_end (by rw [HXL.out]; omega)]; rfl
                    have H1 := Lib.hid h1
                    clear h1 HR
                    have p2 := eq_false (show ¬ ((i : Int) + (n : Int) < (nw : Int)) by omega)
                    have p3 : decide ((i : Int) + (n : Int) < (nw : Int)) = false := decide_eq_false (by omega)
                    go_upto_if 110 with (fail)
                    clear q85 E1 p2 p3
                    go_upto_if 114 with (fail)
                    have hT3 : L ++ [stepL sw n] ++ runs (xs.drop (i + n)) = DL := by
                      have h := HT.out
                      have h1 := H1.out
                      rw [h1, List.drop_drop, show i + 1 + runN sw (xs.drop (i + 1)) = i + n by omega] at h
                      rw [List.append_assoc]
                      exact h
                    have HT3 := Lib.hid hT3
                    clear hT3 HT H1
                    go_cut [6] (fun v6 wx => Hid (LS w1 (fun _ => True) v6 (L ++ [stepL sw n]) (2000000 + i + 1) wx))
                    case first =>
                      by_cases hn1e : n = 1
                      · subst hn1e
                        have hz := HSZ.out
                        have z1 := eq_true (show 4 + sw.size ≤ 9223372036854775807 by omega)
                        have y1 : (9223372036854775807 < 4 + sw.size) = False := eq_false (by omega)
                        go_wp2_with (first
                          | ((with_reducible refine gate_builtin (b := .append) (xs := #[.tmp 115, .tmp 118]) rfl ?_); at_builtin; refine LS.app HS.out rfl (.tmp 115) (.tmp 118) rfl _ rfl rfl (by omega) ?_; intro v3 wC hS2 _; clear HS; have HS := Lib.hid hS2; clear hS2))
                        go_meet
                        rw [stepL, if_pos rfl]
                        exact HS
                      · have hz := HSZ.out
                        have hne : ((n : Int) == 1) = false := beq_eq_false_iff_ne.mpr (by omega)
                        have hne2 : decide ((n : Int) = 1) = false := decide_eq_false (by omega)
                        have hiz := itoa_size n (by omega)
                        have hci := fun W => dec2_c (n := (n : Int)) (by omega) (by omega) W
                        obtain ⟨I, hI⟩ : ∃ I, itoaB (n : Int) = I := ⟨_, rfl⟩
                        rw [hI] at hiz
                        simp only [hI] at hci
                        have HCI := Lib.hid hci
                        have HI3 := Lib.hid hI
                        have hN1 := Lib.hid hn1e
                        clear hci hI hn1e
                        have z1 := eq_true (show 6 + I.size ≤ 9223372036854775807 by omega)
                        have z2 := eq_true (show 6 + I.size + sw.size ≤ 9223372036854775807 by omega)
                        have y1 : (9223372036854775807 < 6 + I.size) = False := eq_false (by omega)
                        have y2 : (9223372036854775807 < 6 + I.size + sw.size) = False := eq_false (by omega)
                        go_wp2_with (first
                          | (go_at_call 20; refine (HCI.out _).mono ?_; rintro e wD ⟨rfl, hd⟩; have hS2 := HS.out.below hd; clear HS hd; have HS := Lib.hid hS2; clear hS2)
                          | ((with_reducible refine gate_builtin (b := .append) (xs := #[.tmp 120, .tmp 126]) rfl ?_); at_builtin; refine LS.app HS.out rfl (.tmp 120) (.tmp 126) rfl _ rfl rfl (by omega) ?_; intro v3 wC hS2 _; clear HS; have HS := Lib.hid hS2; clear hS2))
                        go_meet
                        rw [stepL, if_neg hN1.out, HI3.out]
                        exact HS
                    case rest =>
                      clear HS
                      have HS := hcut
                      clear hcut
                      go_wp2
                      go_roundg (nw - (i + n))
                      case measure => have := HI2.out; omega
                      case rel => exact ⟨_, i + n, _, rfl, by go_num, by omega, Lib.hid rfl, Lib.hid (HS.out.more (by omega)), HT3⟩
              · have hT := HT.out
                rw [List.drop_of_length_le (by rw [HXL.out]; omega), runs_nil] at hT
                replace hT : L = DL := (List.append_nil L).symm.trans hT
                have hS := HS.out.more (show 2000000 + i ≤ 3000000 by omega)
                rw [hT] at hS
                obtain ⟨A6, c6, rfl, hc6, hC6⟩ := Kd.R_reads hS.r
                obtain ⟨nl, hnl⟩ : ∃ nl, DL.length = nl := ⟨_, rfl⟩
                rw [hnl] at hS hc6 ⊢
                have hnlb : nl ≤ 3000000 := by rw [← hnl]; exact hS.n
                have p1 := eq_false (show ¬ ((i : Int) < (nw : Int)) by omega)
                have HNL := Lib.hid hnl
                clear HS HT hT hC6 hnl HXA HXL
                have HS := Lib.hid hS
                clear hS
                go_upto_region 29 with (fail)
                clear q85 p1
                go_wp2
                have HS0 := HS
                clear HS
                go_loopg [11, 12] nl (fun gm v11 v12 wx => ∃ t i : Nat, v11 = .int .i64 (t : Int) ∧ v12 = .int .i64 (i : Int) ∧ i ≤ nl ∧ Hid (gm + i = nl) ∧ Hid (t = (txt (DL.take i)).length) ∧ Hid (LS w1 (fun _ => True) (.slice A6 nl c6) DL 3000000 wx))
                case atStart => exact ⟨0, 0, rfl, rfl, Nat.zero_le _, Lib.hid rfl, Lib.hid rfl, HS0⟩
                case round =>
                  clear HS0
                  obtain ⟨t, j, rfl, rfl, hj, HJ, HTL, HS⟩ := hrel
                  have htl := txt_mono DL j
                  have htx := txt_le HSM.out
                  rw [HNL.out] at htx
                  rw [← HTL.out] at htl
                  have ht : t ≤ 3003000000 := by omega
                  clear htl htx
                  have hC := (Kd.R_reads' HS.out.r).2.2
                  by_cases hlt : j < nl
                  · obtain ⟨gm, rfl⟩ : ∃ q, gk = q + 1 := ⟨gk - 1, by have := HJ.out; omega⟩
                    have p0 := eq_true (show (0 : Int) ≤ (j : Int) by omega)
                    have p1 := eq_true (show (j : Int) < (nl : Int) by omega)
                    have hjl : j < DL.length := by rw [HNL.out]; exact hlt
                    obtain ⟨ad, e, x⟩ := ReadsOf.at_ (Kd.reads_of_C (enc := Value.string) (d := ByteArray.empty) (h1 := fun _ => rfl) hC) (j : Int) (by omega) (by rw [HNL.out]; omega)
                    subst e
                    have hrd : rdOf ByteArray.empty DL (j : Int) = DL[j] := by
                      unfold rdOf
                      rw [Int.toNat_natCast, List.getD_eq_getElem?_getD, List.getElem?_eq_getElem hjl]
                      rfl
                    rw [hrd, Int.toNat_natCast] at x
                    have hsz := HSM.out _ (List.getElem_mem hjl)
                    have hst := txt_take hjl
                    rw [← HTL.out] at hst
                    obtain ⟨s, hs⟩ : ∃ s, DL[j] = s := ⟨_, rfl⟩
                    rw [hs] at x hsz hst
                    have HST := Lib.hid hst
                    clear hs hst hrd hC
                    go_wp2
                    go_roundg gm
                    case measure => omega
                    case rel => exact ⟨t + s.size + 1, j + 1, by congr 1, by go_num, by omega, Lib.hid (by have := HJ.out; omega), Lib.hid HST.out.symm, HS⟩
                  · have hjn : j = nl := by omega
                    have htt : t = TX.length := by rw [HTL.out, List.take_of_length_le (by rw [HNL.out]; omega), HTX.out]
                    have HTT := Lib.hid htt
                    have p1 := eq_false (show ¬ ((j : Int) < (nl : Int)) by omega)
                    have hcj : ∀ W, Kd.C Kd.string W A6 nl DL → TX.length ≤ 1000000000 → Calls Tryd.prog 26 #[.slice A6 nl c6] W fun e w' => e = .returned (.string ⟨TX.toArray⟩) ∧ Below W.heap.size W w' := fun W h1 h2 => by
                      have h3 := joined_c DL (by rw [HNL.out]; omega) (by rw [HTX.out]; exact h2) A6 c6 W (by rw [HNL.out]; exact h1) (by rw [HNL.out]; exact hc6)
                      rw [HNL.out, HTX.out] at h3
                      exact h3
                    rw [HNL.out] at hC
                    have HCJ := Lib.hid hcj
                    have HC := Lib.hid hC
                    clear htt HTL hcj hC hjn
                    by_cases hbig : 400000 < t
                    · have b1 : decide ((400000 : Int) < (t : Int)) = true := decide_eq_true (by omega)
                      have b2 : decide (400000 < t) = true := decide_eq_true hbig
                      have HB := Lib.hid hbig
                      clear hbig
                      go_wp2
                      go_ret2
                      rw [outT, if_pos (by rw [← HTT.out]; exact HB.out)]
                      exact ⟨rfl, HD1.out.trans (HS.out.b.mono HD1.out.size)⟩
                    · have b1 : decide ((400000 : Int) < (t : Int)) = false := decide_eq_false (by omega)
                      have b2 : decide (400000 < t) = false := decide_eq_false hbig
                      have HB := Lib.hid hbig
                      have HLT := Lib.hid (show TX.length ≤ 1000000000 by rw [← HTT.out]; omega)
                      clear hbig
                      go_wp2_with (first
                        | (go_at_call 26; ((with_reducible refine (HCJ.out _ HC.out HLT.out).mono ?_)); rintro e w26 ⟨rfl, hd⟩; have hS2 := HS.out.below hd; clear HS hd HC; have HS := Lib.hid hS2; clear hS2))
                      go_ret2
                      rw [outT, if_neg (by rw [← HTT.out]; exact HB.out)]
                      exact ⟨rfl, HD1.out.trans (HS.out.b.mono HD1.out.size)⟩
end Go.Proofs.YtbmnifnahbehbaaDoor

/- deck.Print: the text of a deck. -/
set_option linter.unusedVariables false
namespace Go.Proofs.YtbmnifnahbehbaaDoor
open Go.RowKit Go.Lib Go.Shelf Go.Proofs.YtbmnifnahbehbaaDoorW.PrintWords Go.Proofs.YtbmnifnahbehbaaDoorW.PrintMore Go.Proofs.YtbmnifnahbehbaaDoorW.PrintLast
open PPr
/-- The world of the walk of Print. -/
structure PS (w : World) (g bb : Nat) (ram : Int) (c : Cp) (mt : Int) (pv wv : Value) (k : Nat) (l : List UInt8) (W : World) : Prop where
  b : Below w.heap.size w W
  d : DBox W g ram c mt pv wv
  isb : IsB bb l W
  gl : Glob W
  gb : g < bb
  bl : 11 ≤ bb
  wb : w.heap.size ≤ bb
  ln : l.length ≤ 1000 * k
section
variable {w : World} {g bb : Nat} {ram : Int} {c : Cp} {mt : Int} {pv wv : Value} {k : Nat} {l : List UInt8} {W W' : World}
theorem PS.below (h : PS w g bb ram c mt pv wv k l W) (hb : Below W.heap.size W W') : PS w g bb ram c mt pv wv k l W' :=
  ⟨h.b.trans (hb.mono h.b.size), blk_below h.d hb, h.isb.below hb, Glob.step h.gl hb, h.gb, h.bl, h.wb, h.ln⟩
theorem PS.write {m : List UInt8} {k' : Nat} (h : PS w g bb ram c mt pv wv k l W) (hi : IsB bb m W') (hk : KpB bb W W') (hl : m.length ≤ 1000 * k') : PS w g bb ram c mt pv wv k' m W' :=
  ⟨h.b.trans (hk.1.mono h.wb), (hk.1.block g h.gb).trans h.d, hi, h.gl.low (hk.1.mono h.bl) (Nat.le_refl _), h.gb, h.bl, h.wb, hl⟩
theorem PS.more {k' : Nat} (h : PS w g bb ram c mt pv wv k l W) (hk : k ≤ k') : PS w g bb ram c mt pv wv k' l W := { h with ln := by have := h.ln; omega }
theorem PS.ws (h : PS w g bb ram c mt pv wv k l W) (s : ByteArray) (hs : s.size ≤ 1000) (hk : k ≤ 1000000000) :
    Calls Tryd.prog 9 #[.pointer (some ⟨bb, 0, none⟩), .string s] W fun e w' => e = .returned (.tuple #[.int .i64 s.size, .nilIface]) ∧ PS w g bb ram c mt pv wv (k + 1) (l ++ s.data.toList) w' := by
  refine (ws_c s h.isb (by have := h.ln; omega)).mono ?_
  rintro e w' ⟨he, h1, h2⟩
  refine ⟨he, h.write h1 h2 ?_⟩
  rw [List.length_append, ← Lib.size_eq]
  have := h.ln
  omega
theorem PS.wb1 (h : PS w g bb ram c mt pv wv k l W) (b : UInt8) (hk : k ≤ 1000000000) :
    Calls Tryd.prog 15 #[.pointer (some ⟨bb, 0, none⟩), .int .u8 (b.toNat : Int)] W fun e w' => e = .returned .nilIface ∧ PS w g bb ram c mt pv wv (k + 1) (l ++ [b]) w' := by
  refine (wb_c b h.isb (by have := h.ln; omega)).mono ?_
  rintro e w' ⟨he, h1, h2⟩
  refine ⟨he, h.write h1 h2 ?_⟩
  rw [List.length_append]
  have := h.ln
  simp only [List.length_cons, List.length_nil]
  omega
theorem PS.first {W0 : World} (hb : Below w.heap.size w W0) (hd : DBox W0 g ram c mt pv wv) (hG : Glob W0) : PS w g W0.heap.size ram c mt pv wv 0 [] (W0.alloc (.cells #[.pointer none, .slice none 0 0] 51)) :=
  have h1 := (Below.refl _ W0).alloc (Nat.le_refl _) (.cells #[.pointer none, .slice none 0 0] 51)
  ⟨hb.trans (h1.mono hb.size), blk_below hd h1, IsB.new W0, Glob.step hG h1, blk_lt hd, hG.size, hb.size, Nat.zero_le _⟩
end
theorem head_size {s : ByteArray} (h : s.size ≤ 20) : (headW ++ s ++ nlB).size ≤ 1000 := by
  rw [ByteArray.size_append, ByteArray.size_append]
  have h1 : headW.size = 12 := rfl
  have h2 : nlB.size = 1 := rfl
  omega
theorem ln_eq (s : ByteArray) : lnT s = (s ++ nlB).data.toList := by
  unfold lnT
  rw [ByteArray.data_append, Array.toList_append]
  rfl
/-- .. and the box gp of a part. -/
structure PS2 (w : World) (g bb gp : Nat) (ram : Int) (c : Cp) (mt : Int) (pv wv : Value) (s : S46) (v3 : Value) (k : Nat) (l : List UInt8) (W : World) : Prop where
  q : PS w g bb ram c mt pv wv k l W
  x : W.heap[gp]? = some (.cells #[.int .u64 s.f0, .int .u64 s.f1, .int .i64 s.f2, v3] 46 (0, 0))
  n : gp ≠ bb
section
variable {w : World} {g bb gp : Nat} {ram : Int} {c : Cp} {mt : Int} {pv wv : Value} {s : S46} {v3 : Value} {k : Nat} {l : List UInt8} {W W' : World}
theorem PS.seg (h : PS w g bb ram c mt pv wv k l W) (s : S46) (v3 : Value) : PS2 w g bb W.heap.size ram c mt pv wv s v3 k l (W.alloc (.cells #[.int .u64 s.f0, .int .u64 s.f1, .int .i64 s.f2, v3] 46)) :=
  ⟨h.below ((Below.refl _ W).alloc (Nat.le_refl _) _), blk_new W _, Nat.ne_of_gt h.isb.lt⟩
theorem PS2.below (h : PS2 w g bb gp ram c mt pv wv s v3 k l W) (hb : Below W.heap.size W W') : PS2 w g bb gp ram c mt pv wv s v3 k l W' :=
  ⟨h.q.below hb, blk_below h.x hb, h.n⟩
theorem PS2.write {m : List UInt8} {k' : Nat} (h : PS2 w g bb gp ram c mt pv wv s v3 k l W) (hi : IsB bb m W') (hk : KpB bb W W') (hl : m.length ≤ 1000 * k') : PS2 w g bb gp ram c mt pv wv s v3 k' m W' :=
  ⟨h.q.write hi hk hl, hk.blk h.x (by decide) h.n, h.n⟩
theorem PS2.ws (h : PS2 w g bb gp ram c mt pv wv s v3 k l W) (t : ByteArray) (hs : t.size ≤ 1000) (hk : k ≤ 1000000000) :
    Calls Tryd.prog 9 #[.pointer (some ⟨bb, 0, none⟩), .string t] W fun e w' => e = .returned (.tuple #[.int .i64 t.size, .nilIface]) ∧ PS2 w g bb gp ram c mt pv wv s v3 (k + 1) (l ++ t.data.toList) w' := by
  refine (ws_c t h.q.isb (by have := h.q.ln; omega)).mono ?_
  rintro e w' ⟨he, h1, h2⟩
  refine ⟨he, h.write h1 h2 ?_⟩
  rw [List.length_append, ← Lib.size_eq]
  have := h.q.ln
  omega
theorem PS2.wb1 (h : PS2 w g bb gp ram c mt pv wv s v3 k l W) (b : UInt8) (hk : k ≤ 1000000000) :
    Calls Tryd.prog 15 #[.pointer (some ⟨bb, 0, none⟩), .int .u8 (b.toNat : Int)] W fun e w' => e = .returned .nilIface ∧ PS2 w g bb gp ram c mt pv wv s v3 (k + 1) (l ++ [b]) w' := by
  refine (wb_c b h.q.isb (by have := h.q.ln; omega)).mono ?_
  rintro e w' ⟨he, h1, h2⟩
  refine ⟨he, h.write h1 h2 ?_⟩
  rw [List.length_append]
  have := h.q.ln
  simp only [List.length_cons, List.length_nil]
  omega
theorem PS2.wb10 (h : PS2 w g bb gp ram c mt pv wv s v3 k l W) (hk : k ≤ 1000000000) :
    Calls Tryd.prog 15 #[.pointer (some ⟨bb, 0, none⟩), .int .u8 10] W fun e w' => e = .returned .nilIface ∧ PS2 w g bb gp ram c mt pv wv s v3 (k + 1) (l ++ [10]) w' := by
  have h1 := h.wb1 10 hk
  rw [show (((10 : UInt8).toNat : Nat) : Int) = 10 by decide] at h1
  exact h1
theorem PS2.c0 (h : PS2 w g bb gp ram c mt pv wv s v3 k l W) : W.cell? ⟨gp, 0, none⟩ = some (.int .u64 s.f0) := blk_cell h.x 0
theorem PS2.c1 (h : PS2 w g bb gp ram c mt pv wv s v3 k l W) : W.cell? ⟨gp, 1, none⟩ = some (.int .u64 s.f1) := blk_cell h.x 1
theorem PS2.c2 (h : PS2 w g bb gp ram c mt pv wv s v3 k l W) : W.cell? ⟨gp, 2, none⟩ = some (.int .i64 s.f2) := blk_cell h.x 2
theorem PS2.c3 (h : PS2 w g bb gp ram c mt pv wv s v3 k l W) : W.cell? ⟨gp, 3, none⟩ = some v3 := blk_cell h.x 3
end
theorem flag_cell {W : World} (h : Glob W) {n : Nat} (hn : n < 8) : W.cell? ⟨0, n, none⟩ = some (.string (flagW (n : Int))) := by
  have := h.v0 n (.string (flagW (n : Int))) (by
    rw [List.getElem?_map]
    unfold flagW
    rw [Int.toNat_natCast, List.getD_eq_getElem?_getD, List.getElem?_eq_getElem (show n < glob0.length from hn)]
    rfl)
  exact this
theorem part_size {s : S46} (h : PtOk s) : (partW s ++ nlB).size ≤ 1000 := by
  have h1 := hexB_size h.a
  have h2 := dec_len 5 s.f1.toNat (by have := h.z; omega)
  have h3 := flag_size s.f2
  have h4 := arr_size (Lib.decDigits s.f1.toNat)
  have h5 : wPart.size = 5 := rfl
  have h6 : nlB.size = 1 := rfl
  have h7 : spB.size = 1 := rfl
  unfold partW
  rw [ByteArray.size_append, ByteArray.size_append, ByteArray.size_append, ByteArray.size_append, ByteArray.size_append, ByteArray.size_append]
  omega
theorem data_ln (ch : List Int) : lnT (dataW ch) = wData.data.toList ++ (twos ch ++ [10]) := by
  unfold lnT dataW
  rw [ByteArray.data_append, Array.toList_append, List.append_assoc]
theorem chunk_eq (l : List Int) (a m : Nat) (hm : (if (l.length : Int) < (a : Int) + 32 then (l.length : Int) else (a : Int) + 32) = (m : Int)) : (l.take m).drop a = (l.drop a).take 32 := by
  rw [List.drop_take]
  split at hm
  · rw [List.take_of_length_le (by rw [List.length_drop]; omega), List.take_of_length_le (by rw [List.length_drop]; omega)]
  · rw [show m - a = 32 by omega]
theorem step_size {s : ByteArray} (h : s.size ≤ 300) : (wStep ++ s ++ nlB).size ≤ 1000 := by
  rw [ByteArray.size_append, ByteArray.size_append]
  have h1 : wStep.size = 4 := rfl
  have h3 : nlB.size = 1 := rfl
  omega
theorem steps_size {i s : ByteArray} (hi : i.size ≤ 20) (h : s.size ≤ 300) : (wSteps ++ i ++ s ++ nlB).size ≤ 1000 := by
  rw [ByteArray.size_append, ByteArray.size_append, ByteArray.size_append]
  have h1 : wSteps.size = 6 := rfl
  have h3 : nlB.size = 1 := rfl
  omega
theorem idx_dig (d : Nat) (hd : d < 16) (W : World) : (Instr.index 9 (.string ⟨#[48, 49, 50, 51, 52, 53, 54, 55, 56, 57, 97, 98, 99, 100, 101, 102]⟩) (.int .u8 (d : Int))).run Tryd.prog W = .ok (.int .u8 ((dig d).toNat : Int)) W := by
  obtain rfl | rfl | rfl | rfl | rfl | rfl | rfl | rfl | rfl | rfl | rfl | rfl | rfl | rfl | rfl | rfl : d = 0 ∨ d = 1 ∨ d = 2 ∨ d = 3 ∨ d = 4 ∨ d = 5 ∨ d = 6 ∨ d = 7 ∨ d = 8 ∨ d = 9 ∨ d = 10 ∨ d = 11 ∨ d = 12 ∨ d = 13 ∨ d = 14 ∨ d = 15 := by omega
  all_goals kernel_rfl
theorem mt_size {v : Int} (h : Ok64 v) : (wMt ++ hexB v ++ nlB).size ≤ 1000 := by
  have h2 := hexB_size h
  rw [ByteArray.size_append, ByteArray.size_append]
  have h1 : wMt.size = 6 := rfl
  have h3 : nlB.size = 1 := rfl
  omega
theorem mt_yes {v : Int} (h : v ≠ 0) : txt (mtL v) = (wMt ++ hexB v ++ nlB).data.toList := by
  unfold mtL
  rw [if_neg h, txt_cons]
  unfold lnT
  rw [ByteArray.data_append, Array.toList_append]
  exact List.append_nil _
theorem mt_no {v : Int} (h : v = 0) : txt (mtL v) = [] := by
  unfold mtL
  rw [if_pos h]
  rfl
theorem PS.cpu {w : World} {g bb : Nat} {ram : Int} {c : Cp} {mt : Int} {pv wv : Value} {k : Nat} {l : List UInt8} {W : World} (h : PS w g bb ram c mt pv wv k l W) (d : Cp) (ho : CpuOk d) (hk : k ≤ 1000) :
    Calls Tryd.prog 12 #[.pointer (some ⟨bb, 0, none⟩), .agg (cpuL d).toArray] W fun e w' => e = .returned (.tuple #[]) ∧ PS w g bb ram c mt pv wv 2000000 (l ++ cpuT d) w' := by
  refine (cpu_c bb l d W h.isb h.gl h.bl ho.pc ho.x ho.m ho.p ho.rs (by have := h.ln; omega)).mono ?_
  rintro e w' ⟨he, h1, h2, h3⟩
  exact ⟨he, h.write h1 h2 (by omega)⟩
set_option maxHeartbeats 4000000 in
set_option maxRecDepth 100000 in
theorem print_no (ram : Int) (c : Cp) (mt : Int) (ps : List S46) (ws : List S48) (Ap Aw : Option Addr) (cp cw : Nat) (w : World) (hps : Kd.C k46 w Ap ps.length ps) (hws : Kd.C k48 w Aw ws.length ws) (hok : (validB ram ps ws && ps.all flagB) = false) :
    Calls Tryd.prog 5 #[.agg (dkA ram c mt (.slice Ap ps.length cp) (.slice Aw ws.length cw))] w fun e w' => e = .returned (.tuple #[.string ⟨#[]⟩, .int .i64 140]) ∧ Below w.heap.size w w' := by
  have cV := fun W (hb : Below w.heap.size w W) => valid_c ram c mt ps ws Ap Aw cp cw W (Kd.C_below hps hb) (Kd.C_below hws hb)
  rw [hok] at cV
  have CV := Lib.hid cV
  clear cV
  obtain ⟨DA, hDA⟩ : ∃ DA, dkA ram c mt (.slice Ap ps.length cp) (.slice Aw ws.length cw) = DA := ⟨_, rfl⟩
  rw [hDA] at CV ⊢
  go_enter Tryd.func5, Tryd.ntmps5
  go_upto_region 1 with (first
    | ((with_reducible refine gate_dst (N := 1) rfl ?_); refine box_event ?hg (N := 1) ?hd (cs := DA) (t := 35) ?hr ?_; (case hd => rfl); (case hg => rfl); (case hr => rfl); intro g hg w1 hb1 hd1; have HG := Lib.hid hg; clear hg))
  have HX := Lib.hid hb1
  have HD1 := Lib.hid hd1
  have hsz : DA.size = 86 := by rw [← hDA]; exact dkA_size _ _ _ _ _
  clear hb1 hd1
  go_wp2_with (first
    | ((with_reducible refine gate_ (.load 35 (.tmp 1)) rfl ?_); refine wpList_load_row rfl 35 (.tmp 1) rfl g rfl 35 DA (0, 0) _ HX.out Tryd.underlying35 rfl (by rw [hsz]; kernel_rfl) ?_)
    | (go_at_call 8; refine (CV.out _ HD1.out).mono ?_; rintro e w2 ⟨rfl, hd⟩; have hD := HD1.out.trans (hd.mono HD1.out.size); clear HX HD1 hd; have HD1 := Lib.hid hD; clear hD))
  go_ret2
  exact ⟨rfl, HD1.out⟩
set_option maxHeartbeats 4000000 in
set_option maxRecDepth 100000 in
theorem print_c (ram : Int) (c : Cp) (mt : Int) (ps : List S46) (ws : List S48) (Ap Aw : Option Addr) (cp cw : Nat) (w : World) (hG : Glob w) (hps : Kd.C k46 w Ap ps.length ps) (hws : Kd.C k48 w Aw ws.length ws) (hok : (validB ram ps ws && ps.all flagB) = true) (hr : 0 ≤ ram ∧ ram < 1000000) (hpt : ∀ s ∈ ps, PtOk s) (hwt : ∀ x ∈ ws, BytesI x.f3 ∧ x.f3.length ≤ 64) (hmt : Ok64 mt) (hcp : CpuOk (cpuS c)) :
    Calls Tryd.prog 5 #[.agg (dkA ram c mt (.slice Ap ps.length cp) (.slice Aw ws.length cw))] w fun e w' => e = .returned (.tuple #[.string (outT (deckT ram (cpuS c) mt ps ws)).1, .int .i64 (outT (deckT ram (cpuS c) mt ps ws)).2]) ∧ Below w.heap.size w w' := by
  obtain ⟨DT, hDT⟩ : ∃ DT, deckT ram (cpuS c) mt ps ws = DT := ⟨_, rfl⟩
  rw [hDT]
  have HDT := Lib.hid hDT
  clear hDT
  have cV := fun W (hb : Below w.heap.size w W) => valid_c ram c mt ps ws Ap Aw cp cw W (Kd.C_below hps hb) (Kd.C_below hws hb)
  rw [hok] at cV
  have CV := Lib.hid cV
  clear cV
  obtain ⟨DA, hDA⟩ : ∃ DA, dkA ram c mt (.slice Ap ps.length cp) (.slice Aw ws.length cw) = DA := ⟨_, rfl⟩
  rw [hDA] at CV ⊢
  have hi := itoa_c ram (by omega) (by omega)
  have HI := Lib.hid hi
  go_enter Tryd.func5, Tryd.ntmps5
  go_upto_region 1 with (first
    | ((with_reducible refine gate_dst (N := 1) rfl ?_); refine box_event ?hg (N := 1) ?hd (cs := DA) (t := 35) ?hr ?_; (case hd => rfl); (case hg => rfl); (case hr => rfl); intro g hg w1 hb1 hd1; have HG := Lib.hid hg; clear hg))
  have HX := Lib.hid hb1
  have HD1 := Lib.hid hd1
  have hsz : DA.size = 86 := by rw [← hDA]; exact dkA_size _ _ _ _ _
  clear hb1 hd1 hi
  go_upto_region 4 with (first
    | ((with_reducible refine gate_ (.load 35 (.tmp 1)) rfl ?_); refine wpList_load_row rfl 35 (.tmp 1) rfl g rfl 35 DA (0, 0) _ HX.out Tryd.underlying35 rfl (by rw [hsz]; kernel_rfl) ?_)
    | (go_at_call 8; refine (CV.out _ HD1.out).mono ?_; rintro e w2 ⟨rfl, hd⟩; have hX := blk_below HX.out hd; have hD := HD1.out.trans (hd.mono HD1.out.size); clear HX HD1 hd; have HX := Lib.hid hX; have HD1 := Lib.hid hD; clear hX hD))
  have hS := PS.first HD1.out (show DBox w2 g ram c mt (.slice Ap ps.length cp) (.slice Aw ws.length cw) by have := HX.out; rw [← hDA] at this; exact this) (Glob.step hG HD1.out)
  obtain ⟨bb, hbb⟩ : ∃ bb, w2.heap.size = bb := ⟨_, rfl⟩
  obtain ⟨w3, hw3⟩ : ∃ w3, w2.alloc (.cells #[.pointer none, .slice none 0 0] 51) = w3 := ⟨_, rfl⟩
  rw [hw3, hbb] at hS
  rw [hw3, hbb]
  have HS := Lib.hid hS
  clear hS hw3 hbb HX HD1 hDA hsz
  have HPS := Lib.hid hps
  have HWS := Lib.hid hws
  obtain ⟨np, hnp⟩ : ∃ np, ps.length = np := ⟨_, rfl⟩
  obtain ⟨nw, hnw⟩ : ∃ nw, ws.length = nw := ⟨_, rfl⟩
  rw [hnp, hnw] at HS
  rw [hnp] at HPS
  rw [hnw] at HWS
  have HNP := Lib.hid hnp
  have HNW := Lib.hid hnw
  have HOK := Lib.hid hok
  have hle := valid_le (Bool.and_eq_true_iff.1 hok).1
  rw [hnp, hnw] at hle
  have hnp16 := hle.1
  have hnw4 := hle.2.1
  clear hle
  clear hnp hnw hps hws hG hok CV
  have q0 := HS.out.d.c0
  have hz := itoaZ ram hr.1 hr.2
  have z1 := eq_true (show 12 + (itoaB ram).size ≤ 9223372036854775807 by omega)
  have z2 := eq_true (show 12 + (itoaB ram).size + 1 ≤ 9223372036854775807 by omega)
  have z3 : (9223372036854775807 < 12 + (itoaB ram).size) = False := eq_false (by omega)
  have z4 : (9223372036854775807 < 12 + (itoaB ram).size + 1) = False := eq_false (by omega)
  have HZ := Lib.hid hz
  clear hz
  go_upto_region 5 with (first
    | (go_at_call 10; refine (HI.out _ HS.out.gl).mono ?_; rintro e w4 ⟨rfl, hd⟩; have hS := HS.out.below hd; clear HS hd; have HS := Lib.hid hS; clear hS)
    | (go_at_call 9; refine (HS.out.ws (headW ++ itoaB ram ++ nlB) (head_size HZ.out) (by omega)).mono ?_; rintro e w5 ⟨rfl, hS⟩; clear HS; have HS := Lib.hid hS; clear hS))
  have HX := HS
  clear HS
  obtain ⟨l1, hl1⟩ : ∃ l1, [] ++ (headW ++ itoaB ram ++ nlB).data.toList = l1 := ⟨_, rfl⟩
  have hS := HX.out
  rw [hl1] at hS
  have HL1 := Lib.hid hl1
  clear HX hl1
  have HS := Lib.hid hS
  clear hS q0 z1 z2 z3 z4
  have q83 := HS.out.d.c83
  go_upto_if 27 with (fail)
  go_cut [] (fun wx => Hid (PS w g bb ram c mt (.slice Ap np cp) (.slice Aw nw cw) 2 (l1 ++ txt (mtL mt)) wx))
  case first =>
    cases hm : (mt != 0)
    · have hS := HS.out.more (show 0 + 1 ≤ 2 by omega)
      have e := mt_no (bne_eq_false_iff_eq.mp hm)
      go_wp2
      go_meet
      rw [e, List.append_nil]
      exact Lib.hid hS
    · have e := mt_yes (bne_iff_ne.mp hm)
      have hz := hexB_size hmt
      have z1 := eq_true (show 6 + (hexB mt).size ≤ 9223372036854775807 by omega)
      have z2 := eq_true (show 6 + (hexB mt).size + 1 ≤ 9223372036854775807 by omega)
      have z3 : (9223372036854775807 < 6 + (hexB mt).size) = False := eq_false (by omega)
      have z4 : (9223372036854775807 < 6 + (hexB mt).size + 1) = False := eq_false (by omega)
      clear hz
      go_wp2_with (first
        | (go_at_call 11; refine (hex_c hmt _ HS.out.gl).mono ?_; rintro e w9 ⟨rfl, hd⟩; have hS2 := HS.out.below hd; clear HS hd; have HS := Lib.hid hS2; clear hS2)
        | (go_at_call 9; refine (HS.out.ws (wMt ++ hexB mt ++ nlB) (mt_size hmt) (by omega)).mono ?_; rintro e w5 ⟨rfl, hS⟩; clear HS; have HS := Lib.hid hS; clear hS))
      go_meet
      rw [e]
      exact Lib.hid HS.out
  case rest =>
    clear HS q83
    have HS := hcut
    obtain ⟨l2, hl2⟩ : ∃ l2, l1 ++ txt (mtL mt) = l2 := ⟨_, rfl⟩
    rw [hl2] at HS
    have HL2 := Lib.hid hl2
    clear hl2
    go_upto_region 8 with (first
      | ((with_reducible refine gate_ (.load 31 (.tmp 36)) rfl ?_); refine wpList_load_mid rfl 31 (.tmp 36) rfl g 1 rfl (cpuL c) _ HS.out.d.cpu Tryd.underlying31 rfl (by rw [cpuL_len]; kernel_rfl) ?_)
      | (go_at_call 13; refine (csr_c c _).mono ?_; rintro e w6 ⟨rfl, hd⟩; have hS2 := HS.out.below hd; clear HS hd; have HS := Lib.hid hS2; clear hS2)
      | (go_at_call 12; refine (HS.out.cpu (cpuS c) hcp (by omega)).mono ?_; rintro e w7 ⟨rfl, hS2⟩; clear HS; have HS := Lib.hid hS2; clear hS2))
    have q84 := HS.out.d.c84
    have HPT := Lib.hid hpt
    have HWT := Lib.hid hwt
    clear hpt hwt
    go_wp2
    obtain ⟨l3, hl3⟩ : ∃ l3, l2 ++ cpuT (cpuS c) = l3 := ⟨_, rfl⟩
    rw [hl3] at HS
    have HL3 := Lib.hid hl3
    obtain ⟨T, hT⟩ : ∃ T, l3 ++ txt (ps.flatMap partL) = T := ⟨_, rfl⟩
    have hdt : T ++ txt (runs (ws.map wordsB)) = DT := by
      have a1 := HL1.out
      have a2 := HL2.out
      have a3 := HL3.out
      rw [← HDT.out, ← hT, ← a3, ← a2, ← a1]
      unfold deckT
      simp only [List.append_assoc, List.nil_append]
    have HD2 := Lib.hid hdt
    have HT := Lib.hid hT
    have HS0 := HS
    clear hl3 hT q84 HS hdt HDT
    go_loopg [43] np (fun gm v43 wx => ∃ (i : Nat) (l : List UInt8), v43 = .int .i64 (i : Int) ∧ i ≤ np ∧ Hid (gm + i = np) ∧ Hid (PS w g bb ram c mt (.slice Ap np cp) (.slice Aw nw cw) (3000000 + 200000 * i) l wx) ∧ Hid (l ++ txt ((ps.drop i).flatMap partL) = T))
    case atStart => exact ⟨0, l3, rfl, Nat.zero_le _, Lib.hid rfl, Lib.hid (HS0.out.more (by omega)), HT⟩
    case round =>
      clear HS0 HL1 HL2 HL3 HT
      obtain ⟨i, l, rfl, hi, HI, HS, HT⟩ := hrel
      by_cases hlt : i < np
      · obtain ⟨gm, rfl⟩ : ∃ q, gk = q + 1 := ⟨gk - 1, by have := HI.out; omega⟩
        have p0 := eq_true (show (0 : Int) ≤ (i : Int) by omega)
        have p1 := eq_true (show (i : Int) < (np : Int) by omega)
        obtain ⟨ad, A3, c3, e, x0, x1, x2, x3, hl3, hC3⟩ := seg_at HPS.out HS.out.b hlt
        subst e
        have hip : i < ps.length := by rw [HNP.out]; exact hlt
        have hok := HPT.out _ (List.getElem_mem hip)
        have htx := txt_part hip
        rw [rd46 hip] at x0 x1 x2 x3 hl3 hC3
        obtain ⟨s, hs⟩ : ∃ s, ps[i] = s := ⟨_, rfl⟩
        rw [hs] at x0 x1 x2 x3 hl3 hC3 hok htx
        have hT := HT.out
        rw [htx] at hT
        clear HT htx hs hip
        have HT := Lib.hid hT
        have HOKS := Lib.hid hok
        have HL3 := Lib.hid hl3
        have HC3 := Lib.hid hC3
        clear hT hok hl3 hC3
        go_upto_region 11 with (fail)
        have hS2 := HS.out.seg s (.slice A3 s.f3.length c3)
        obtain ⟨gp, hgp⟩ : ∃ gp, wr.heap.size = gp := ⟨_, rfl⟩
        obtain ⟨w8, hw8⟩ : ∃ w8, wr.alloc (.cells #[.int .u64 s.f0, .int .u64 s.f1, .int .i64 s.f2, .slice A3 s.f3.length c3] 46) = w8 := ⟨_, rfl⟩
        rw [hgp, hw8] at hS2
        rw [hgp, hw8]
        clear HS hgp hw8 x0 x1 x2 x3
        have HS := Lib.hid hS2
        clear hS2
        obtain ⟨n1, hn1⟩ := Int.eq_ofNat_of_zero_le HOKS.out.z.1
        obtain ⟨n2, hn2⟩ := Int.eq_ofNat_of_zero_le HOKS.out.f.1
        have hn2b : n2 < 8 := by have := HOKS.out.f.2; omega
        obtain ⟨FL, hFL⟩ : ∃ FL, flagW (n2 : Int) = FL := ⟨_, rfl⟩
        have hpw : wPart ++ hexB s.f0 ++ spB ++ (⟨(Lib.decDigits n1).toArray⟩ : ByteArray) ++ spB ++ FL = partW s := by
          unfold partW
          rw [hn1, hn2, hFL]
          rfl
        obtain ⟨D, hD⟩ : ∃ D : ByteArray, ⟨(Lib.decDigits n1).toArray⟩ = D := ⟨_, rfl⟩
        have hDz : D.size ≤ 6 := by
          have h1 := arr_size (Lib.decDigits n1)
          have h2 := dec_len 5 n1 (by have := HOKS.out.z; omega)
          rw [hD] at h1
          omega
        have hFz : FL.size ≤ 3 := hFL ▸ flag_size _
        have hHz := hexB_size HOKS.out.a
        have hok0 := HOKS.out.a
        have hfu := fun W (hG : Glob W) => fu10 n1 (by have := HOKS.out.z; omega) W hG
        rw [hD] at hpw hfu
        have HFU := Lib.hid hfu
        have hcs : ∀ k l W, PS2 w g bb gp ram c mt (.slice (some ad) np cp) (.slice Aw nw cw) s (.slice A3 s.f3.length c3) k l W → W.cell? ⟨gp, 0, none⟩ = some (.int .u64 s.f0) ∧ W.cell? ⟨gp, 1, none⟩ = some (.int .u64 (n1 : Int)) ∧ W.cell? ⟨gp, 2, none⟩ = some (.int .i64 (n2 : Int)) ∧ W.cell? ⟨0, n2, none⟩ = some (.string FL) := fun k l W h =>
          ⟨h.c0, by rw [← hn1]; exact h.c1, by rw [← hn2]; exact h.c2, by rw [← hFL]; exact flag_cell h.q.gl hn2b⟩
        have HCS := Lib.hid hcs
        have HPW := Lib.hid hpw
        have hps := part_size HOKS.out
        rw [← hpw] at hps
        have HPZ := Lib.hid hps
        obtain ⟨s0, hs0⟩ : ∃ s0, s.f0 = s0 := ⟨_, rfl⟩
        simp only [hs0] at hok0 hHz HPW HPZ HCS
        have p2 := eq_true (show (0 : Int) ≤ (n2 : Int) by omega)
        have p3 := eq_true (show (n2 : Int) < 8 by omega)
        have z1 := eq_true (show 5 + (hexB s0).size ≤ 9223372036854775807 by omega)
        have z2 := eq_true (show 5 + (hexB s0).size + 1 ≤ 9223372036854775807 by omega)
        have z3 := eq_true (show 5 + (hexB s0).size + 1 + D.size ≤ 9223372036854775807 by omega)
        have z4 := eq_true (show 5 + (hexB s0).size + 1 + D.size + 1 ≤ 9223372036854775807 by omega)
        have z5 := eq_true (show 5 + (hexB s0).size + 1 + D.size + 1 + FL.size ≤ 9223372036854775807 by omega)
        have z6 := eq_true (show 5 + (hexB s0).size + 1 + D.size + 1 + FL.size + 1 ≤ 9223372036854775807 by omega)
        have y1 : (9223372036854775807 < 5 + (hexB s0).size) = False := eq_false (by omega)
        have y2 : (9223372036854775807 < 5 + (hexB s0).size + 1) = False := eq_false (by omega)
        have y3 : (9223372036854775807 < 5 + (hexB s0).size + 1 + D.size) = False := eq_false (by omega)
        have y4 : (9223372036854775807 < 5 + (hexB s0).size + 1 + D.size + 1) = False := eq_false (by omega)
        have y5 : (9223372036854775807 < 5 + (hexB s0).size + 1 + D.size + 1 + FL.size) = False := eq_false (by omega)
        have y6 : (9223372036854775807 < 5 + (hexB s0).size + 1 + D.size + 1 + FL.size + 1) = False := eq_false (by omega)
        clear hFL hpw hD hDz hFz hHz hfu hcs hps hs0
        have hS2 := HS.out.below (below_drew (Below.refl _ _))
        clear HS
        have HS := Lib.hid hS2
        clear hS2
        obtain ⟨qa, qb, qc, qd⟩ := HCS.out _ _ _ HS.out
        go_region_held2 (fun w' => w'.cell? ⟨gp, 0, none⟩ = some (.int .u64 s0) ∧ w'.cell? ⟨gp, 1, none⟩ = some (.int .u64 (n1 : Int)) ∧ w'.cell? ⟨gp, 2, none⟩ = some (.int .i64 (n2 : Int)) ∧ w'.cell? ⟨0, n2, none⟩ = some (.string FL)) (first | exact ⟨qa, qb, qc, qd⟩ | exact HCS.out _ _ _ HS.out | go_keep) (first
          | (go_at_call 11; refine (hex_c hok0 _ HS.out.q.gl).mono ?_; rintro e wA ⟨rfl, hd⟩; have hS2 := HS.out.below hd; clear HS hd qa qb qc qd; have HS := Lib.hid hS2; clear hS2; obtain ⟨qa, qb, qc, qd⟩ := HCS.out _ _ _ HS.out)
          | (go_at_call 14; refine (HFU.out _ HS.out.q.gl).mono ?_; rintro e wB ⟨rfl, hd⟩; have hS2 := HS.out.below hd; clear HS hd qa qb qc qd; have HS := Lib.hid hS2; clear hS2; obtain ⟨qa, qb, qc, qd⟩ := HCS.out _ _ _ HS.out)
          | (go_at_call 9; refine (HS.out.ws (wPart ++ hexB s0 ++ spB ++ D ++ spB ++ FL ++ nlB) HPZ.out (by omega)).mono ?_; rintro e wC ⟨rfl, hS2⟩; clear HS; have HS := Lib.hid hS2; clear hS2))
        rw [HPW.out, ← ln_eq] at HS
        obtain ⟨R, hR⟩ : ∃ R, txt ((ps.drop (i + 1)).flatMap partL) = R := ⟨_, rfl⟩
        obtain ⟨l4, hl4⟩ : ∃ l4, l ++ lnT (partW s) = l4 := ⟨_, rfl⟩
        obtain ⟨k4, hk4⟩ : ∃ k4, 3000000 + 200000 * i + 1 = k4 := ⟨_, rfl⟩
        have hk4b : k4 ≤ 10000000 := by omega
        have hT := HT.out
        rw [hR, ← List.append_assoc, hl4] at hT
        rw [hl4, hk4] at HS
        clear HT qa qb qc qd z1 z2 z3 z4 z5 z6 y1 y2 y3 y4 y5 y6 HPW HPZ HFU HCS p0 p1 p2 p3 hok0 hn2b hl4
        have HT := Lib.hid hT
        have HR := Lib.hid hR
        have HK4 := Lib.hid hk4
        clear hT hR hk4
        go_wp2
        obtain ⟨n3, hn3⟩ : ∃ n3, s.f3.length = n3 := ⟨_, rfl⟩
        have hn3b : n3 ≤ 65536 := by rw [← hn3]; exact HOKS.out.n
        rw [hn3] at HS HC3 HL3
        have HN3 := Lib.hid hn3
        clear hn3
        have HS0 := HS
        clear HS
        go_loopg [7] (n3 + 32) (fun gm v7 wx => ∃ (a : Nat) (l5 : List UInt8), v7 = .int .i64 (a : Int) ∧ a < n3 + 32 ∧ Hid (gm = n3 + 32 - a) ∧ Hid (PS2 w g bb gp ram c mt (.slice (some ad) np cp) (.slice Aw nw cw) s (.slice A3 n3 c3) (k4 + 3 * a) l5 wx) ∧ Hid (l5 ++ (txt (dataL (s.f3.drop a)) ++ R) = T))
        case atStart => exact ⟨0, l4, rfl, by omega, Lib.hid rfl, HS0, by rw [List.drop_zero]; exact HT⟩
        case round =>
          clear HS0 HT
          obtain ⟨a, l5, rfl, ha, HA, HS, HT⟩ := hrel
          have qc3 := HS.out.c3
          by_cases hla : a < n3
          · have p4 := eq_true (show (a : Int) < (n3 : Int) by omega)
            go_upto_region 16 with (first
              | (go_at_call 9; refine (HS.out.ws wData (by decide) (by omega)).mono ?_; rintro e wD ⟨rfl, hS2⟩; clear HS; have HS := Lib.hid hS2; clear hS2))
            obtain ⟨m, hm⟩ : ∃ m : Nat, min ((a : Int) + 32) (n3 : Int) = (m : Int) := ⟨min (a + 32) n3, by omega⟩
            have hmn : a ≤ m ∧ m ≤ n3 ∧ m ≤ a + 32 := by omega
            have E1 : IntKind.i64.wrap ((a : Int) + 32) = (a : Int) + 32 := by rw [IntKind.wrap_i64]; omega
            have hch := chunk_eq s.f3 a m (by rw [HN3.out]; split <;> omega)
            obtain ⟨i0, hi0, _, hsz5, _⟩ := info_parts info5
            obtain ⟨A8, hcutS, hA8, hC8⟩ := print_mid_of (P := Tryd.prog) (Value.int .u8) 0 44 5 .i64 .i64 Tryd.underlying44 hi0 hsz5 A3 c3 s.f3 (a : Int) (m : Int) (by omega) (by omega) (by rw [HN3.out]; omega) (by rw [HN3.out]; exact HL3.out)
            have hra := hA8 w (by rw [HN3.out]; exact Kd.reads_of_C (enc := Value.int .u8) (d := (0 : Int)) (h1 := fun _ => rfl) HC3.out)
            rw [Int.toNat_natCast, Int.toNat_natCast] at hcutS hra
            rw [HN3.out] at hcutS
            rw [hch] at hcutS hra
            have hchl : ((s.f3.drop a).take 32).length = m - a := by rw [← hch, List.length_drop, List.length_take, HN3.out]; omega
            have hbc : BytesI ((s.f3.drop a).take 32) := fun b hb => HOKS.out.b b (List.mem_of_mem_drop (List.mem_of_mem_take hb))
            have hT := HT.out
            rw [dataL_cons (l := s.f3.drop a) (by rw [List.length_drop, HN3.out]; omega), txt_cons, data_ln, List.drop_drop] at hT
            obtain ⟨R2, hR2⟩ : ∃ R2, txt (dataL (s.f3.drop (a + 32))) ++ R = R2 := ⟨_, rfl⟩
            rw [List.append_assoc, hR2, List.append_assoc, ← List.append_assoc l5, List.append_assoc (twos _)] at hT
            obtain ⟨ch, hchd⟩ : ∃ ch, (s.f3.drop a).take 32 = ch := ⟨_, rfl⟩
            rw [hchd] at hT hbc hchl hra hcutS
            rw [hchl] at hcutS
            obtain ⟨nc, hnc⟩ : ∃ nc, m - a = nc := ⟨_, rfl⟩
            rw [hnc] at hcutS hchl
            have hnc32 : nc ≤ 32 := by omega
            have HR2 := Lib.hid hR2
            have HRA := Lib.hid hra
            have HCL := Lib.hid hchl
            have HBC := Lib.hid hbc
            clear HT hR2 hra hchl hbc hchd hnc hA8 hC8 hi0 hsz5 hch hmn
            have HT := Lib.hid hT
            clear hT
            obtain ⟨l6, hl6⟩ : ∃ l6, l5 ++ wData.data.toList = l6 := ⟨_, rfl⟩
            obtain ⟨k6, hk6⟩ : ∃ k6, k4 + 3 * a + 1 = k6 := ⟨_, rfl⟩
            rw [hl6] at HT
            rw [hl6, hk6] at HS
            have HK6 := Lib.hid hk6
            have hk6b : k6 ≤ 20000000 := by omega
            clear hl6 hk6 qc3
            have qc3 := HS.out.c3
            go_wp2
            clear hcutS E1 hm qc3 p4
            have HS0 := HS
            clear HS
            go_loopg [85] nc (fun gm v85 wx => ∃ (j : Nat) (l7 : List UInt8), v85 = .int .i64 (j : Int) ∧ j ≤ nc ∧ Hid (gm + j = nc) ∧ Hid (PS2 w g bb gp ram c mt (.slice (some ad) np cp) (.slice Aw nw cw) s (.slice A3 n3 c3) (k6 + 2 * j) l7 wx) ∧ Hid (l7 ++ (twos (ch.drop j) ++ ([10] ++ R2)) = T))
            case atStart => exact ⟨0, l6, rfl, Nat.zero_le _, Lib.hid rfl, HS0, by rw [List.drop_zero]; exact HT⟩
            case round =>
              clear HS0 HT
              obtain ⟨j, l7, rfl, hj, HJ, HS, HT⟩ := hrel
              by_cases hlj : j < nc
              · obtain ⟨gm2, rfl⟩ : ∃ q, gk = q + 1 := ⟨gk - 1, by have := HJ.out; omega⟩
                have p0 := eq_true (show (0 : Int) ≤ (j : Int) by omega)
                have p5 := eq_true (show (j : Int) < (nc : Int) by omega)
                obtain ⟨ad8, e8, xb0⟩ := ReadsOf.at_ HRA.out (j : Int) (by omega) (by rw [HCL.out]; omega)
                subst e8
                have hjc : j < ch.length := by rw [HCL.out]; exact hlj
                have hrd : rdOf (0 : Int) ch (j : Int) = ch[j] := by
                  unfold rdOf
                  rw [Int.toNat_natCast, List.getD_eq_getElem?_getD, List.getElem?_eq_getElem hjc]
                  rfl
                obtain ⟨hb0, hb1⟩ := HBC.out _ (List.getElem_mem hjc)
                have hT := HT.out
                rw [List.drop_eq_getElem_cons hjc] at hT
                rw [hrd, Int.toNat_natCast] at xb0
                obtain ⟨bv, hbv⟩ : ∃ bv, ch[j] = bv := ⟨_, rfl⟩
                rw [hbv] at xb0 hb0 hb1 hT
                obtain ⟨nb, rfl⟩ := Int.eq_ofNat_of_zero_le hb0
                have hnb : nb < 256 := by omega
                have hd1 := idx_dig (nb / 16) (by omega)
                have hd2 := idx_dig (nb % 16) (by omega)
                have hb15 := band15 ⟨nb, hnb⟩
                dsimp only at hb15
                rw [show ((nb / 16 : Nat) : Int) = (nb : Int) / 16 by omega] at hd1
                have hd3 := hd2
                rw [show ((nb % 16 : Nat) : Int) = (nb : Int) % 16 by omega] at hd3
                have xb := (HS.out.q.b.cell (World.block_lt_of_cell? w _ xb0)).trans xb0
                have hT2 : l7 ++ [dig (nb / 16)] ++ [dig (nb % 16)] ++ (twos (ch.drop (j + 1)) ++ ([10] ++ R2)) = T := by
                  rw [← hT]
                  unfold twos two
                  simp only [List.flatMap_cons, List.append_assoc, Int.toNat_natCast, List.cons_append, List.nil_append]
                obtain ⟨d1, hdd1⟩ : ∃ d1, dig (nb / 16) = d1 := ⟨_, rfl⟩
                obtain ⟨d2, hdd2⟩ : ∃ d2, dig (nb % 16) = d2 := ⟨_, rfl⟩
                simp only [hdd1] at hd1 hT2
                simp only [hdd2] at hd2 hd3 hT2
                have HT2 := Lib.hid hT2
                clear hT hT2 hbv hrd xb0 hb0 hb1 HT hdd1 hdd2 hb15
                go_upto_region 20 with (first
                  | (go_at_call 15; refine (HS.out.wb1 d1 (by omega)).mono ?_; rintro e wE ⟨rfl, hS2⟩; clear HS; have HS := Lib.hid hS2; clear hS2))
                clear hd1
                go_wp2_with (first
                  | (go_at_call 15; refine (HS.out.wb1 d2 (by omega)).mono ?_; rintro e wF ⟨rfl, hS2⟩; clear HS; have HS := Lib.hid hS2; clear hS2))
                go_roundg gm2
                case measure => omega
                case rel => exact ⟨j + 1, _, by go_num, by omega, Lib.hid (by have := HJ.out; omega), Lib.hid { HS.out with q := HS.out.q.more (by omega) }, HT2⟩
              · have p5 := eq_false (show ¬ (j : Int) < (nc : Int) by omega)
                have hT := HT.out
                rw [List.drop_of_length_le (by rw [HCL.out]; omega)] at hT
                have hT2 : l7 ++ [10] ++ (txt (dataL (s.f3.drop (a + 32))) ++ R) = T := by
                  rw [← hT, HR2.out, List.append_assoc]
                  rfl
                have HT2 := Lib.hid hT2
                clear hT hT2
                go_wp2_with (first
                  | (go_at_call 15; refine (HS.out.wb10 (by omega)).mono ?_; rintro e wE ⟨rfl, hS2⟩; clear HS; have HS := Lib.hid hS2; clear hS2))
                go_roundg (n3 - a)
                case measure => have := HA.out; omega
                case rel => exact ⟨a + 32, l7 ++ [10], by go_num, by omega, Lib.hid (by omega), Lib.hid { HS.out with q := HS.out.q.more (by have := HK6.out; omega) }, HT2⟩
          · have p4 := eq_false (show ¬ (a : Int) < (n3 : Int) by omega)
            have hT := HT.out
            rw [List.drop_of_length_le (by rw [HN3.out]; omega), dataL_nil] at hT
            go_wp2
            go_roundg gm
            case measure => omega
            case rel => exact ⟨i + 1, l5, by go_num, by omega, Lib.hid (by have := HI.out; omega), Lib.hid (HS.out.q.more (by have := HK4.out; omega)), Lib.hid (by rw [HR.out]; exact hT)⟩
      · have hin : np = i := by omega
        have hT := HT.out
        rw [List.drop_of_length_le (by rw [HNP.out]; omega)] at hT
        replace hT : l = T := (List.append_nil l).symm.trans hT
        subst hin
        have hS := HS.out.more (show 3000000 + 200000 * np ≤ 10000000 by omega)
        rw [hT] at hS
        clear HS HT hT
        have HS := Lib.hid hS
        clear hS
        have q85 := HS.out.d.c85
        obtain ⟨xs, hxs⟩ : ∃ xs, ws.map wordsB = xs := ⟨_, rfl⟩
        have hxl : xs.length = nw := by rw [← hxs, List.length_map, HNW.out]
        have hxat : ∀ j (h : j < nw), xs[j]? = some (wordsB (rd_T48 ws (j : Int))) := fun j h => by
          have hj : j < ws.length := by rw [HNW.out]; exact h
          rw [← hxs, List.getElem?_map, List.getElem?_eq_getElem hj, rd48 hj]
          rfl
        have hT2 : T ++ txt (runs xs) = DT := by rw [← hxs]; exact HD2.out
        have HT2 := Lib.hid hT2
        clear HD2
        have HXL := Lib.hid hxl
        have HXA := Lib.hid hxat
        have HXS := Lib.hid hxs
        clear hT2 hxl hxat hxs
        go_wp2
        have HS0 := HS
        clear HS q85
        go_loopg [10] nw (fun gm v10 wx => ∃ (i : Nat) (l : List UInt8), v10 = .int .i64 (i : Int) ∧ i ≤ nw ∧ Hid (gm = nw - i) ∧ Hid (PS w g bb ram c mt (.slice Ap np cp) (.slice Aw nw cw) (10000000 + i) l wx) ∧ Hid (l ++ txt (runs (xs.drop i)) = DT))
        case atStart => exact ⟨0, T, rfl, Nat.zero_le _, Lib.hid rfl, HS0, HT2⟩
        case round =>
          clear HS0 HT2
          obtain ⟨i, l, rfl, hi, HI2, HS, HT⟩ := hrel
          have q85 := HS.out.d.c85
          by_cases hlt : i < nw
          · have p0 := eq_true (show (0 : Int) ≤ (i : Int) by omega)
            have p1 := eq_true (show (i : Int) < (nw : Int) by omega)
            obtain ⟨ad, A3, c3, e, x0, x1, x2, x3, hl3, hC3⟩ := world_at HWS.out HS.out.b hlt
            subst e
            have hiw : i < ws.length := by rw [HNW.out]; exact hlt
            have hwb := HWT.out _ (List.getElem_mem hiw)
            have hx := HXA.out i hlt
            rw [rd48 hiw] at x0 x1 x2 x3 hl3 hC3 hx
            obtain ⟨x, hxd⟩ : ∃ x, ws[i] = x := ⟨_, rfl⟩
            rw [hxd] at x0 x1 x2 x3 hl3 hC3 hx hwb
            have hwc := fun W (hb : Below wr.heap.size wr W) => words_c x A3 c3 W hwb.1 (by omega) hl3 (Kd.C_below hC3 hb)
            have hsz := words_size x hwb.2
            obtain ⟨sw, hsw⟩ : ∃ sw, wordsB x = sw := ⟨_, rfl⟩
            rw [hsw] at hwc hsz hx
            have HWC := Lib.hid hwc
            have HX := Lib.hid hx
            have HSZ := Lib.hid hsz
            clear hwc hx hsz hxd hsw hwb hl3 hC3
            go_upto_region 27 with (first
              | (go_at_call 16; refine (HWC.out _ (Below.refl _ _)).mono ?_; rintro e wA ⟨rfl, hd⟩; have hS2 := HS.out.below hd; clear HS hd q85; have HS := Lib.hid hS2; clear hS2))
            have hS := HS.out
            clear HS x0 x1 x2 x3
            have hT := HT.out
            have hxs := HX.out
            rw [drop_at hxs, runs_cons, txt_cons] at hT
            clear HT hxs HX HWC
            have HT := Lib.hid hT
            have HS := Lib.hid hS
            clear hT hS
            have HS0 := HS
            clear HS
            go_loopg [12] nw (fun gm v12 wx => ∃ n : Nat, v12 = .int .i64 (n : Int) ∧ 1 ≤ n ∧ i + n ≤ nw ∧ Hid (gm + n = nw + 1) ∧ Hid (PS w g bb ram c mt (.slice Ap np cp) (.slice (some ad) nw cw) (10000000 + i) l wx) ∧ Hid (1 + runN sw (xs.drop (i + 1)) = n + runN sw (xs.drop (i + n))))
            case atStart => exact ⟨1, rfl, Nat.le_refl _, by omega, Lib.hid rfl, HS0, Lib.hid rfl⟩
            case round =>
              clear HS0
              obtain ⟨n, rfl, hn1, hn, HN, HS, HR⟩ := hrel
              have q85 := HS.out.d.c85
              have E1 : IntKind.i64.wrap ((i : Int) + (n : Int)) = (i : Int) + (n : Int) := by rw [IntKind.wrap_i64]; omega
              by_cases hln : i + n < nw
              · obtain ⟨gm2, rfl⟩ : ∃ q, gk = q + 1 := ⟨gk - 1, by have := HN.out; omega⟩
                have p2 := eq_true (show (i : Int) + (n : Int) < (nw : Int) by omega)
                have p3 : decide ((i : Int) + (n : Int) < (nw : Int)) = true := decide_eq_true (by omega)
                have p4 := eq_true (show (0 : Int) ≤ (i : Int) + (n : Int) by omega)
                obtain ⟨ad2, A4, c4, e2, x0, x1, x2, x3, hl4, hC4⟩ := world_at HWS.out HS.out.b hln
                injection e2 with e2
                subst e2
                have hiw : i + n < ws.length := by rw [HNW.out]; exact hln
                have hwb := HWT.out _ (List.getElem_mem hiw)
                have hx := HXA.out (i + n) hln
                rw [rd48 hiw] at x0 x1 x2 x3 hl4 hC4 hx
                obtain ⟨y, hyd⟩ : ∃ y, ws[i + n] = y := ⟨_, rfl⟩
                rw [hyd] at x0 x1 x2 x3 hl4 hC4 hx hwb
                have hwc := fun W (hb : Below wr.heap.size wr W) => words_c y A4 c4 W hwb.1 (by omega) hl4 (Kd.C_below hC4 hb)
                have hin : ((i : Int) + (n : Int)).toNat = i + n := by omega
                obtain ⟨tw, htw⟩ : ∃ tw, wordsB y = tw := ⟨_, rfl⟩
                rw [htw] at hwc hx
                have HWC := Lib.hid hwc
                have HX := Lib.hid hx
                clear hwc hx hyd htw hwb hl4 hC4
                by_cases hts : tw = sw
                · have b1 : (tw.toList == sw.toList) = true := by rw [hts]; exact beq_self_eq_true _
                  have hr := runN_more HX.out hts
                  have HTS := Lib.hid hr
                  clear hts hr
                  go_upto_if 132 with (first
                    | (go_at_call 16; refine (HWC.out _ (Below.refl _ _)).mono ?_; rintro e wB ⟨rfl, hd⟩; have hS2 := HS.out.below hd; clear HS hd q85; have HS := Lib.hid hS2; clear hS2))
                  go_wp2
                  go_roundg gm2
                  case measure => omega
                  case rel => exact ⟨n + 1, by go_num, by omega, by omega, Lib.hid (by have := HN.out; omega), HS, Lib.hid (by have h1 := HR.out; have h2 := HTS.out; rw [Nat.add_assoc] at h2; omega)⟩
                · have b1 : (tw.toList == sw.toList) = false := str_ne hts
                  have hr := runN_stop HX.out hts
                  have h1 : 1 + runN sw (xs.drop (i + 1)) = n := by rw [HR.out, hr]; rfl
                  have H1 := Lib.hid h1
                  clear hts hr h1 HR
                  go_upto_if 132 with (first
                    | (go_at_call 16; refine (HWC.out _ (Below.refl _ _)).mono ?_; rintro e wB ⟨rfl, hd⟩; have hS2 := HS.out.below hd; clear HS hd q85; have HS := Lib.hid hS2; clear hS2))
                  clear x0 x1 x2 x3 HX HWC b1 hin E1 p2 p3 p4
                  go_upto_if 136 with (fail)
                  have hT3 : l ++ lnT (stepL sw n) ++ txt (runs (xs.drop (i + n))) = DT := by
                    have h := HT.out
                    have h1 := H1.out
                    rw [h1, List.drop_drop, show i + 1 + runN sw (xs.drop (i + 1)) = i + n by omega] at h
                    rw [List.append_assoc]
                    exact h
                  have HT3 := Lib.hid hT3
                  clear hT3 HT H1
                  go_cut [] (fun wx => Hid (PS w g bb ram c mt (.slice Ap np cp) (.slice (some ad) nw cw) (10000000 + i + 1) (l ++ lnT (stepL sw n)) wx))
                  case first =>
                    by_cases hn1e : n = 1
                    · subst hn1e
                      have hz := HSZ.out
                      have z1 := eq_true (show 4 + sw.size ≤ 9223372036854775807 by omega)
                      have z2 := eq_true (show 4 + sw.size + 1 ≤ 9223372036854775807 by omega)
                      have y1 : (9223372036854775807 < 4 + sw.size) = False := eq_false (by omega)
                      have y2 : (9223372036854775807 < 4 + sw.size + 1) = False := eq_false (by omega)
                      go_wp2_with (first
                        | (go_at_call 9; refine (HS.out.ws (wStep ++ sw ++ nlB) (step_size hz) (by omega)).mono ?_; rintro e wC ⟨rfl, hS2⟩; clear HS; have HS := Lib.hid hS2; clear hS2))
                      go_meet
                      rw [ln_eq, stepL, if_pos rfl]
                      exact HS
                    · have hz := HSZ.out
                      have hne : ((n : Int) == 1) = false := beq_eq_false_iff_ne.mpr (by omega)
                      have hne2 : decide ((n : Int) = 1) = false := decide_eq_false (by omega)
                      have hiz := itoa_size n (by omega)
                      have hci := fun W hG => itoa_c (n : Int) (by omega) (by omega) W hG
                      obtain ⟨I, hI⟩ : ∃ I, itoaB (n : Int) = I := ⟨_, rfl⟩
                      rw [hI] at hiz
                      simp only [hI] at hci
                      have HCI := Lib.hid hci
                      have HI3 := Lib.hid hI
                      have hN1 := Lib.hid hn1e
                      clear hci hI hn1e
                      have z1 := eq_true (show 6 + I.size ≤ 9223372036854775807 by omega)
                      have z2 := eq_true (show 6 + I.size + sw.size ≤ 9223372036854775807 by omega)
                      have z3 := eq_true (show 6 + I.size + sw.size + 1 ≤ 9223372036854775807 by omega)
                      have y1 : (9223372036854775807 < 6 + I.size) = False := eq_false (by omega)
                      have y2 : (9223372036854775807 < 6 + I.size + sw.size) = False := eq_false (by omega)
                      have y3 : (9223372036854775807 < 6 + I.size + sw.size + 1) = False := eq_false (by omega)
                      go_wp2_with (first
                        | (go_at_call 10; refine (HCI.out _ HS.out.gl).mono ?_; rintro e wD ⟨rfl, hd⟩; have hS2 := HS.out.below hd; clear HS hd; have HS := Lib.hid hS2; clear hS2)
                        | (go_at_call 9; refine (HS.out.ws (wSteps ++ I ++ sw ++ nlB) (steps_size hiz hz) (by omega)).mono ?_; rintro e wC ⟨rfl, hS2⟩; clear HS; have HS := Lib.hid hS2; clear hS2))
                      go_meet
                      rw [ln_eq, stepL, if_neg hN1.out, HI3.out]
                      exact HS
                  case rest =>
                    clear HS
                    have HS := hcut
                    go_wp2
                    go_roundg (nw - (i + n))
                    case measure => have := HI2.out; omega
                    case rel => exact ⟨i + n, _, by go_num, by omega, Lib.hid rfl, Lib.hid (HS.out.more (by omega)), HT3⟩
              · have h1 : 1 + runN sw (xs.drop (i + 1)) = n := by rw [HR.out, runN_end (by rw [HXL.out]; omega)]; rfl
                have H1 := Lib.hid h1
                clear h1 HR
                have p2 := eq_false (show ¬ ((i : Int) + (n : Int) < (nw : Int)) by omega)
                have p3 : decide ((i : Int) + (n : Int) < (nw : Int)) = false := decide_eq_false (by omega)
                go_upto_if 132 with (fail)
                clear q85 E1 p2 p3
                go_upto_if 136 with (fail)
                have hT3 : l ++ lnT (stepL sw n) ++ txt (runs (xs.drop (i + n))) = DT := by
                  have h := HT.out
                  have h1 := H1.out
                  rw [h1, List.drop_drop, show i + 1 + runN sw (xs.drop (i + 1)) = i + n by omega] at h
                  rw [List.append_assoc]
                  exact h
                have HT3 := Lib.hid hT3
                clear hT3 HT H1
                go_cut [] (fun wx => Hid (PS w g bb ram c mt (.slice Ap np cp) (.slice (some ad) nw cw) (10000000 + i + 1) (l ++ lnT (stepL sw n)) wx))
                case first =>
                  by_cases hn1e : n = 1
                  · subst hn1e
                    have hz := HSZ.out
                    have z1 := eq_true (show 4 + sw.size ≤ 9223372036854775807 by omega)
                    have z2 := eq_true (show 4 + sw.size + 1 ≤ 9223372036854775807 by omega)
                    have y1 : (9223372036854775807 < 4 + sw.size) = False := eq_false (by omega)
                    have y2 : (9223372036854775807 < 4 + sw.size + 1) = False := eq_false (by omega)
                    go_wp2_with (first
                      | (go_at_call 9; refine (HS.out.ws (wStep ++ sw ++ nlB) (step_size hz) (by omega)).mono ?_; rintro e wC ⟨rfl, hS2⟩; clear HS; have HS := Lib.hid hS2; clear hS2))
                    go_meet
                    rw [ln_eq, stepL, if_pos rfl]
                    exact HS
                  · have hz := HSZ.out
                    have hne : ((n : Int) == 1) = false := beq_eq_false_iff_ne.mpr (by omega)
                    have hne2 : decide ((n : Int) = 1) = false := decide_eq_false (by omega)
                    have hiz := itoa_size n (by omega)
                    have hci := fun W hG => itoa_c (n : Int) (by omega) (by omega) W hG
                    obtain ⟨I, hI⟩ : ∃ I, itoaB (n : Int) = I := ⟨_, rfl⟩
                    rw [hI] at hiz
                    simp only [hI] at hci
                    have HCI := Lib.hid hci
                    have HI3 := Lib.hid hI
                    have hN1 := Lib.hid hn1e
                    clear hci hI hn1e
                    have z1 := eq_true (show 6 + I.size ≤ 9223372036854775807 by omega)
                    have z2 := eq_true (show 6 + I.size + sw.size ≤ 9223372036854775807 by omega)
                    have z3 := eq_true (show 6 + I.size + sw.size + 1 ≤ 9223372036854775807 by omega)
                    have y1 : (9223372036854775807 < 6 + I.size) = False := eq_false (by omega)
                    have y2 : (9223372036854775807 < 6 + I.size + sw.size) = False := eq_false (by omega)
                    have y3 : (9223372036854775807 < 6 + I.size + sw.size + 1) = False := eq_false (by omega)
                    go_wp2_with (first
                      | (go_at_call 10; refine (HCI.out _ HS.out.gl).mono ?_; rintro e wD ⟨rfl, hd⟩; have hS2 := HS.out.below hd; clear HS hd; have HS := Lib.hid hS2; clear hS2)
                      | (go_at_call 9; refine (HS.out.ws (wSteps ++ I ++ sw ++ nlB) (steps_size hiz hz) (by omega)).mono ?_; rintro e wC ⟨rfl, hS2⟩; clear HS; have HS := Lib.hid hS2; clear hS2))
                    go_meet
                    rw [ln_eq, stepL, if_neg hN1.out, HI3.out]
                    exact HS
                case rest =>
                  clear HS
                  have HS := hcut
                  go_wp2
                  go_roundg (nw - (i + n))
                  case measure => have := HI2.out; omega
                  case rel => exact ⟨i + n, _, by go_num, by omega, Lib.hid rfl, Lib.hid (HS.out.more (by omega)), HT3⟩
          · have hin : i = nw := by omega
            have hT := HT.out
            rw [List.drop_of_length_le (by rw [HXL.out]; omega), runs_nil] at hT
            replace hT : l = DT := (List.append_nil l).symm.trans hT
            rw [hT] at HS
            have hS := HS.out
            clear HS HT hT HXA HXS HXL
            have HS := Lib.hid hS
            clear hS
            have p1 := eq_false (show ¬ ((i : Int) < (nw : Int)) by omega)
            by_cases hbig : 400000 < DT.length
            · have b1 : decide ((400000 : Int) < (DT.length : Int)) = true := decide_eq_true (by omega)
              have b2 : decide (400000 < DT.length) = true := decide_eq_true hbig
              have HB := Lib.hid hbig
              clear hbig
              go_wp2_with (first | (go_at_call 17; refine (len_c HS.out.isb).mono ?_; rintro e w17 ⟨rfl, hw⟩; subst hw))
              go_ret2
              rw [outT, if_pos HB.out]
              exact ⟨rfl, HS.out.b⟩
            · have b1 : decide ((400000 : Int) < (DT.length : Int)) = false := decide_eq_false (by omega)
              have b2 : decide (400000 < DT.length) = false := decide_eq_false hbig
              have HB := Lib.hid hbig
              clear hbig
              go_wp2_with (first
                | (go_at_call 17; refine (len_c HS.out.isb).mono ?_; rintro e w17 ⟨rfl, hw⟩; subst hw)
                | (go_at_call 18; refine (str_c HS.out.isb).mono ?_; rintro e w18 ⟨rfl, hk⟩; have hbl := HS.out.b.trans (hk.1.mono HS.out.wb); have HBL := Lib.hid hbl; clear hk hbl))
              go_ret2
              rw [outT, if_neg HB.out]
              exact ⟨rfl, HBL.out⟩
end Go.Proofs.YtbmnifnahbehbaaDoor

/- anvilref14.Copied: a deck that shares nothing with the one that came in. -/
set_option linter.unusedVariables false
namespace Go.Proofs.YtbmnifnahbehbaaDoor
open Go.RowKit Go.Lib Go.Shelf Go.Proofs.YtbmnifnahbehbaaDoorW.PrintWords Go.Proofs.YtbmnifnahbehbaaDoorW.PrintMore Go.Proofs.YtbmnifnahbehbaaDoorW.PrintLast
open PPr
theorem grown_none {W W1 : World} (h : W.grownBy W1 (Value.slice none 0 0).ownBlock) : Below W.heap.size W W1 := ⟨h.os, h.tape, h.output, h.size, fun i hi => h.block i hi (by simp [Value.ownBlock])⟩
theorem dkA_84 (ram : Int) (c : Cp) (mt : Int) (p u q : Value) : (dkA ram c mt p u).setIfInBounds 84 q = dkA ram c mt q u := by
  unfold dkA
  rw [List.setIfInBounds_toArray, List.set_cons_succ, List.set_append_right _ _ (by rw [cpuL_len]; omega), cpuL_len]
  rfl
theorem dkA_85 (ram : Int) (c : Cp) (mt : Int) (p u q : Value) : (dkA ram c mt p u).setIfInBounds 85 q = dkA ram c mt p q := by
  unfold dkA
  rw [List.setIfInBounds_toArray, List.set_cons_succ, List.set_append_right _ _ (by rw [cpuL_len]; omega), cpuL_len]
  rfl
theorem dkA_one (ram : Int) (c : Cp) (mt : Int) {p u : Value} (hp : p.oneCell' = true) (hu : u.oneCell' = true) : (dkA ram c mt p u).all (·.oneCell') = true := by
  rw [Array.all_eq_true_iff_forall_mem]
  intro v hv
  unfold dkA at hv
  rw [List.mem_toArray] at hv
  rcases List.mem_cons.1 hv with rfl | hv
  · rfl
  rcases List.mem_append.1 hv with hv | hv
  · have := Array.all_eq_true_iff_forall_mem.1 (cellsL_one c 0 82) v (by rw [List.mem_toArray]; exact hv)
    exact this
  · simp only [List.mem_cons, List.not_mem_nil, or_false] at hv
    rcases hv with rfl | rfl | rfl
    · rfl
    · exact hp
    · exact hu
/-- The world of Copied: the box g1 of what came in, the result's box g2 (not written yet), the copy's box g3; the rows that the copy has. -/
structure CoS (w : World) (g1 g2 g3 : Nat) (ram : Int) (c : Cp) (mt : Int) (pv wv : Value) (vx ux v u : Value) (okv oku : Nat → Prop) (L : List S46) (M : List S48) (W : World) : Prop where
  b : Below w.heap.size w W
  d : DBox W g1 ram c mt pv wv
  z : W.heap[g2]? = some (.cells Tryd.zeroCells35 35 (0, 0))
  x : DBox W g3 ram c mt vx ux
  r : Kd.R k46 46 W w.heap.size okv v L
  s : Kd.R k48 48 W w.heap.size oku u M
  o : ∀ k, okv k → k ≠ g1 ∧ k ≠ g2 ∧ k ≠ g3
  p : ∀ k, oku k → k ≠ g1 ∧ k ≠ g2 ∧ k ≠ g3
  a : ∀ k, okv k → ¬ oku k
  n : g1 ≠ g3 ∧ g2 ≠ g3 ∧ w.heap.size ≤ g3 ∧ w.heap.size ≤ g2
section
variable {w W W1 : World} {g1 g2 g3 : Nat} {ram : Int} {c : Cp} {mt : Int} {pv wv vx ux v u v1 : Value} {okv oku : Nat → Prop} {L L1 : List S46} {M M1 : List S48}
theorem CoS.below (h : CoS w g1 g2 g3 ram c mt pv wv vx ux v u okv oku L M W) (hb : Below W.heap.size W W1) : CoS w g1 g2 g3 ram c mt pv wv vx ux v u okv oku L M W1 :=
  ⟨h.b.trans (hb.mono h.b.size), blk_below h.d hb, blk_below h.z hb, blk_below h.x hb, Kd.R_below h.r hb, Kd.R_below h.s hb, h.o, h.p, h.a, h.n⟩
theorem CoS.grown (h : CoS w g1 g2 g3 ram c mt pv wv vx ux v u okv oku L M W) (hb : Below w.heap.size w W1) (hg : W.grownBy W1 v.ownBlock) (hR : Kd.R k46 46 W1 w.heap.size okv v1 L1) : CoS w g1 g2 g3 ram c mt pv wv vx ux v1 u okv oku L1 M W1 :=
  have ne : ∀ k, ¬ okv k → some k ≠ v.ownBlock := fun k hk e => hk (h.r.1 k e.symm)
  ⟨hb, blk_grown h.d hg (ne _ (fun e => (h.o _ e).1 rfl)), blk_grown h.z hg (ne _ (fun e => (h.o _ e).2.1 rfl)), blk_grown h.x hg (ne _ (fun e => (h.o _ e).2.2 rfl)), hR,
    Kd.R_grown h.s hg (fun k hk => ne k (fun e => h.a k e hk)), h.o, h.p, h.a, h.n⟩
theorem CoS.grown2 (h : CoS w g1 g2 g3 ram c mt pv wv vx ux v u okv oku L M W) (hb : Below w.heap.size w W1) (hg : W.grownBy W1 u.ownBlock) (hR : Kd.R k48 48 W1 w.heap.size oku v1 M1) : CoS w g1 g2 g3 ram c mt pv wv vx ux v v1 okv oku L M1 W1 :=
  have ne : ∀ k, ¬ oku k → some k ≠ u.ownBlock := fun k hk e => hk (h.s.1 k e.symm)
  ⟨hb, blk_grown h.d hg (ne _ (fun e => (h.p _ e).1 rfl)), blk_grown h.z hg (ne _ (fun e => (h.p _ e).2.1 rfl)), blk_grown h.x hg (ne _ (fun e => (h.p _ e).2.2 rfl)),
    Kd.R_grown h.r hg (fun k hk => ne k (fun e => h.a k hk e)), hR, h.o, h.p, h.a, h.n⟩
theorem CoS.own_lt (h : CoS w g1 g2 g3 ram c mt pv wv vx ux v u okv oku L M W) {k : Nat} (e : v.ownBlock = some k) : k < W.heap.size := ((Kd.R_bound h.r).1 k e).2.2.1
theorem CoS.own_lt2 (h : CoS w g1 g2 g3 ram c mt pv wv vx ux v u okv oku L M W) {k : Nat} (e : u.ownBlock = some k) : k < W.heap.size := ((Kd.R_bound h.s).1 k e).2.2.1
theorem CoS.set84 (h : CoS w g1 g2 g3 ram c mt pv wv vx ux v u okv oku L M W) (q : Value) : CoS w g1 g2 g3 ram c mt pv wv q ux v u okv oku L M (W.setCell ⟨g3, 84, none⟩ q) :=
  ⟨Below.setCell h.b (p := ⟨g3, 84, none⟩) h.n.2.2.1 q, blk_far h.d (p := ⟨g3, 84, none⟩) h.n.1 q, blk_far h.z (p := ⟨g3, 84, none⟩) h.n.2.1 q, blk_put h.x 84 q (dkA_84 ..),
    Kd.R_move h.r (fun k hk => Below.heap_setCell W ⟨g3, 84, none⟩ q k (h.o k hk).2.2), Kd.R_move h.s (fun k hk => Below.heap_setCell W ⟨g3, 84, none⟩ q k (h.p k hk).2.2), h.o, h.p, h.a, h.n⟩
theorem CoS.set85 (h : CoS w g1 g2 g3 ram c mt pv wv vx ux v u okv oku L M W) (q : Value) : CoS w g1 g2 g3 ram c mt pv wv vx q v u okv oku L M (W.setCell ⟨g3, 85, none⟩ q) :=
  ⟨Below.setCell h.b (p := ⟨g3, 85, none⟩) h.n.2.2.1 q, blk_far h.d (p := ⟨g3, 85, none⟩) h.n.1 q, blk_far h.z (p := ⟨g3, 85, none⟩) h.n.2.1 q, blk_put h.x 85 q (dkA_85 ..),
    Kd.R_move h.r (fun k hk => Below.heap_setCell W ⟨g3, 85, none⟩ q k (h.o k hk).2.2), Kd.R_move h.s (fun k hk => Below.heap_setCell W ⟨g3, 85, none⟩ q k (h.p k hk).2.2), h.o, h.p, h.a, h.n⟩
/-- Behind the parts: the worlds' rows lie above all that is there. -/
theorem CoS.turn (h : CoS w g1 g2 g3 ram c mt pv wv vx ux v u okv oku L M W) (hu : u = .slice none 0 0) (hM : M = []) : CoS w g1 g2 g3 ram c mt pv wv vx ux v u (fun k => okv k ∧ k < W.heap.size) (fun k => W.heap.size ≤ k) L M W := by
  subst hu hM
  have l1 := blk_lt h.d
  have l2 := blk_lt h.z
  have l3 := blk_lt h.x
  exact ⟨h.b, h.d, h.z, h.x, Kd.R_mono (Kd.R_bound h.r) (fun k hk => ⟨hk.1, hk.2.2.1⟩), Kd.R_nil _ _ _ _ _, fun k hk => h.o k hk.1, fun k hk => ⟨by omega, by omega, by omega⟩, fun k hk e => by omega, h.n⟩
end
theorem blk_new1 (w : World) (o o' : Obj) : ((w.alloc o).alloc o').heap[w.heap.size + 1]? = some o' := by
  have h := blk_new (w.alloc o) o'
  rw [World.size_alloc] at h
  exact h
/-- A deck is handed out that reads as the one told. -/
def OutD (w : World) (ram : Int) (c : Cp) (mt : Int) (ps : List S46) (ws : List S48) (e : Ending) (w' : World) : Prop :=
  ∃ A1 c1 A2 c2, e = .returned (.agg (dkA ram c mt (.slice A1 ps.length c1) (.slice A2 ws.length c2))) ∧ Kd.C k46 w' A1 ps.length ps ∧ Kd.C k48 w' A2 ws.length ws ∧ Below w.heap.size w w'
/-- A row that was made for an element, behind a store to the element's box. -/
theorem row_put {W w8 : World} {base gp : Nat} {dv : Value} {D : List Int} (h : Kd.R (Kd.int .u8) 5 W base (fun k => w8.heap.size ≤ k) dv D) (hg : gp < w8.heap.size) (q : Value) (o : Nat) : Kd.R (Kd.int .u8) 5 (W.setCell ⟨gp, o, none⟩ q) base (fun k => w8.heap.size ≤ k) dv D :=
  Kd.R_move h (fun k hk => Below.heap_setCell W ⟨gp, o, none⟩ q k (by show k ≠ gp; omega))
set_option maxHeartbeats 8000000 in
set_option maxRecDepth 100000 in
theorem copied_c (ram : Int) (c : Cp) (mt : Int) (ps : List S46) (ws : List S48) (Ap Aw : Option Addr) (cp cw : Nat) (w : World) (hps : Kd.C k46 w Ap ps.length ps) (hws : Kd.C k48 w Aw ws.length ws) (hpl : ps.length ≤ 2000000) (hwl : ws.length ≤ 2000000) (hpd : ∀ s ∈ ps, s.f3.length ≤ 2000000) (hwd : ∀ s ∈ ws, s.f3.length ≤ 2000000) :
    Calls Tryd.prog 4 #[.agg (dkA ram c mt (.slice Ap ps.length cp) (.slice Aw ws.length cw))] w (OutD w ram c mt ps ws) := by
  obtain ⟨np, hnp⟩ : ∃ np, ps.length = np := ⟨_, rfl⟩
  obtain ⟨nw, hnw⟩ : ∃ nw, ws.length = nw := ⟨_, rfl⟩
  rw [hnp] at hps hpl ⊢
  rw [hnw] at hws hwl ⊢
  have HNP := Lib.hid hnp
  have HNW := Lib.hid hnw
  have HPS := Lib.hid hps
  have HWS := Lib.hid hws
  have HPD := Lib.hid hpd
  have HWD := Lib.hid hwd
  clear hnp hnw hps hws hpd hwd
  obtain ⟨DA, hDA⟩ : ∃ DA, dkA ram c mt (.slice Ap np cp) (.slice Aw nw cw) = DA := ⟨_, rfl⟩
  have hsz : DA.size = 86 := by rw [← hDA]; exact dkA_size _ _ _ _ _
  have hone : DA.all (·.oneCell') = true := by rw [← hDA]; exact dkA_one ram c mt rfl rfl
  have HONE := Lib.hid hone
  have HSZ := Lib.hid hsz
  rw [hDA]
  have HDA := Lib.hid hDA
  clear hDA hone hsz
  go_enter Tryd.func4, Tryd.ntmps4
  go_upto_region 2 with (first
    | ((with_reducible refine gate_dst (N := 1) rfl ?_); refine box_event ?hg (N := 1) ?hd (cs := DA) (t := 35) ?hr ?_; (case hd => rfl); (case hg => rfl); (case hr => rfl); intro g1 hg w1 hb1 hd1; clear hg; have HX := Lib.hid hb1; have HD := Lib.hid hd1; clear hb1 hd1)
    | ((with_reducible refine gate_ (.load 35 (.tmp 1)) rfl ?_); refine wpList_load_row rfl 35 (.tmp 1) rfl g1 rfl 35 DA (0, 0) _ (blk_alloc HX.out _) Tryd.underlying35 rfl (by rw [HSZ.out]; kernel_rfl) ?_)
    | ((with_reducible refine gate_ (.store 35 (.tmp 3) (.tmp 8)) rfl ?_); refine wpl_storeA 35 (.tmp 3) (.tmp 8) rfl rfl (cs := DA) (blk_new1 _ _ _) (by rw [HSZ.out]; kernel_rfl) rfl rfl (by rw [HSZ.out]; kernel_rfl) HONE.out ?_; intro w3 hR3 hk3 hb3 hs3))
  have e1 := World.size_alloc w1 (Obj.cells Tryd.zeroCells35 35)
  have l1 := blk_lt HX.out
  have hx1 := (hk3 g1 (by omega)).trans (blk_alloc (blk_alloc HX.out (Obj.cells Tryd.zeroCells35 35)) (Obj.cells Tryd.zeroCells35 35))
  have hx2 := (hk3 w1.heap.size (by omega)).trans (blk_alloc (blk_new w1 (Obj.cells Tryd.zeroCells35 35)) (Obj.cells Tryd.zeroCells35 35))
  have hd3 : Below w.heap.size w w3 := hb3 _ _ (by have := HD.out.size; omega) ((HD.out.alloc HD.out.size _).alloc (by have := HD.out.size; omega) _)
  have hs3' : w3.heap.size = w1.heap.size + 1 + 1 := by rw [hs3, World.size_alloc, e1]
  have hw1 := HD.out.size
  obtain ⟨g2, hg2⟩ : ∃ g2, w1.heap.size = g2 := ⟨_, rfl⟩
  rw [hg2] at hx2 l1 hR3 hs3' hw1
  rw [hg2]
  obtain ⟨g3, hg3⟩ : ∃ g3, g2 + 1 = g3 := ⟨_, rfl⟩
  rw [hg3] at hR3 hs3'
  rw [hg3]
  obtain ⟨pv, hpv⟩ : ∃ pv, Value.slice Ap np cp = pv := ⟨_, rfl⟩
  obtain ⟨wv, hwv⟩ : ∃ wv, Value.slice Aw nw cw = wv := ⟨_, rfl⟩
  have hS : CoS w g1 g2 g3 ram c mt pv wv pv wv (.slice none 0 0) (.slice none 0 0) (fun j => g3 + 1 ≤ j) (fun _ => False) [] [] w3 := by
    have e0 := HDA.out
    rw [hpv, hwv] at e0
    exact ⟨hd3, by unfold DBox; rw [e0]; exact hx1, hx2, by unfold DBox; rw [e0]; exact hR3, Kd.R_nil _ _ _ _ _, Kd.R_nil _ _ _ _ _, fun j hj => ⟨by omega, by omega, by omega⟩, fun _ h => h.elim, fun _ _ h => h, ⟨by omega, by omega, by omega, by omega⟩⟩
  have HS := Lib.hid hS
  have HPV := Lib.hid hpv.symm
  have HWV := Lib.hid hwv.symm
  clear hS hx1 hx2 hd3 hs3' hw1 hg2 hg3 hpv hwv l1 e1 hR3 hk3 hb3 hs3 HX HD
  have q84 := HS.out.x.c84
  have f84 := blk_frozen HS.out.x 84
  go_upto_region 3 with (fail)
  have hS := HS.out.set84 (.slice none 0 0)
  obtain ⟨w4, hw4⟩ : ∃ w4, w3.setCell ⟨g3, 84, none⟩ (.slice none 0 0) = w4 := ⟨_, rfl⟩
  rw [hw4] at hS
  rw [hw4]
  clear HS hw4 q84 f84
  have HS := Lib.hid hS
  clear hS
  have q85 := HS.out.x.c85
  have f85 := blk_frozen HS.out.x 85
  go_upto_region 4 with (fail)
  have hS := HS.out.set85 (.slice none 0 0)
  obtain ⟨w5, hw5⟩ : ∃ w5, w4.setCell ⟨g3, 85, none⟩ (.slice none 0 0) = w5 := ⟨_, rfl⟩
  rw [hw5] at hS
  rw [hw5]
  clear HS hw5 q85 f85
  have HS := Lib.hid hS
  clear hS
  have HBS := Lib.hid (show g3 + 1 ≤ w5.heap.size by have := blk_lt HS.out.x; omega)
  have q84 := HS.out.d.c84
  rw [HPV.out] at q84
  go_wp2
  clear q84
  have HS0 := HS
  clear HS
  go_loopg [4] np (fun gm v4 wx => ∃ (i : Nat) (v : Value), v4 = .int .i64 (i : Int) ∧ i ≤ np ∧ Hid (gm + i = np) ∧ Hid (g3 + 1 ≤ wx.heap.size) ∧ Hid (CoS w g1 g2 g3 ram c mt pv wv v (.slice none 0 0) v (.slice none 0 0) (fun j => g3 + 1 ≤ j) (fun _ => False) (ps.take i) [] wx))
  case atStart => exact ⟨0, .slice none 0 0, rfl, Nat.zero_le _, Lib.hid rfl, HBS, HS0⟩
  case round =>
    clear HS0 HBS
    obtain ⟨i, v, rfl, hi, HI, HBS, HS⟩ := hrel
    have q84 := HS.out.d.c84
    rw [HPV.out] at q84
    by_cases hlt : i < np
    · obtain ⟨gm, rfl⟩ : ∃ q, gk = q + 1 := ⟨gk - 1, by have := HI.out; omega⟩
      have p0 := eq_true (show (0 : Int) ≤ (i : Int) by omega)
      have p1 := eq_true (show (i : Int) < (np : Int) by omega)
      obtain ⟨ad, A3, c3, e, x0, x1, x2, x3, hl3, hC3⟩ := seg_at HPS.out HS.out.b hlt
      subst e
      have hip : i < ps.length := by rw [HNP.out]; exact hlt
      have hd := HPD.out _ (List.getElem_mem hip)
      have htk : ps.take (i + 1) = ps.take i ++ [ps[i]] := by rw [List.take_add_one, List.getElem?_eq_getElem hip]; rfl
      rw [rd46 hip] at x0 x1 x2 x3 hl3 hC3
      obtain ⟨s, hs⟩ : ∃ s, ps[i] = s := ⟨_, rfl⟩
      rw [hs] at x0 x1 x2 x3 hl3 hC3 hd htk
      obtain ⟨f0, f1, f2, D⟩ := s
      dsimp only at x0 x1 x2 x3 hl3 hC3 hd
      obtain ⟨n3, hn3⟩ : ∃ n3, D.length = n3 := ⟨_, rfl⟩
      rw [hn3] at x3 hl3 hC3 hd
      have hC3' : Kd.C (Kd.int .u8) wr A3 n3 D := Kd.C_below hC3 HS.out.b
      have HC3 := Lib.hid hC3'
      have HTK := Lib.hid htk
      have HN3 := Lib.hid hn3
      clear hs hC3 hC3' htk hn3
      go_upto_region 8 with (fail)
      obtain ⟨gp, hgp⟩ : ∃ gp, wr.heap.size = gp := ⟨_, rfl⟩
      have hbx := blk_new wr (Obj.cells #[.int .u64 f0, .int .u64 f1, .int .i64 f2, .slice A3 n3 c3] 46)
      have hb8 := (Below.refl _ wr).alloc (Nat.le_refl _) (Obj.cells #[.int .u64 f0, .int .u64 f1, .int .i64 f2, .slice A3 n3 c3] 46)
      have hs8 : gp < (wr.alloc (Obj.cells #[.int .u64 f0, .int .u64 f1, .int .i64 f2, .slice A3 n3 c3] 46)).heap.size := by rw [World.size_alloc]; omega
      obtain ⟨w8, hw8⟩ : ∃ w8, wr.alloc (Obj.cells #[.int .u64 f0, .int .u64 f1, .int .i64 f2, .slice A3 n3 c3] 46) = w8 := ⟨_, rfl⟩
      rw [hw8, hgp] at hbx
      rw [hw8] at hb8 hs8
      rw [hw8, hgp]
      have HB8 := Lib.hid hb8
      have HBX := Lib.hid hbx
      have HGP := Lib.hid hgp
      have qx := blk_cell hbx 3
      replace qx : w8.cell? ⟨gp, 3, none⟩ = some (.slice A3 n3 c3) := qx
      have fx := blk_frozen hbx 3
      clear x0 x1 x2 x3 q84 hw8 hbx hb8 hgp
      have HC8 := Lib.hid (Kd.C_below HC3.out HB8.out)
      go_upto_region 9 with (first
        | ((with_reducible refine gate_builtin (b := .append) (xs := #[.const (.slice none 0 0), .tmp 24]) rfl ?_); at_builtin; refine Kd.R_append_rows (Kd.int .u8) (w0 := w) w.heap.size rfl (.const (.slice none 0 0)) (.tmp 24) 44 5 (.int .u8 0) 1 rfl Tryd.underlying44 info5 rfl (by decide) (by omega) (.slice none 0 0) ([] : List Int) D A3 n3 c3 (fun j => w8.heap.size ≤ j) (fun _ => False) rfl rfl (Kd.R_nil _ _ _ _ _) HC8.out (fun _ _ h => h) (fun _ h => h.elim) (fun _ h => h) (HS.out.b.trans (HB8.out.mono HS.out.b.size)) (Nat.le_trans HS.out.b.size HB8.out.size) (by simp only [List.length_nil]; omega) ?_; intro dv w9 hD1 hb1 hg1 hat1; rw [List.nil_append] at hD1; have e9 := Kd.R_slice hD1; rw [HN3.out] at e9; obtain ⟨A9, c9, e9⟩ := e9; subst e9; have hbg := grown_none hg1; have hbx2 := blk_below HBX.out hbg; have HBX2 := Lib.hid hbx2; have HB9 := Lib.hid (HB8.out.trans (hbg.mono HB8.out.size)); have HDV := Lib.hid hD1; clear qx fx hD1 hb1 hg1 hat1 hbg; have qx := blk_cell hbx2 3; replace qx : w9.cell? ⟨gp, 3, none⟩ = some (.slice A3 n3 c3) := qx; have fx := blk_frozen hbx2 3; clear hbx2))
      have hb10 : Below wr.heap.size wr (w9.setCell ⟨gp, 3, none⟩ (.slice A9 n3 c9)) := Below.setCell HB9.out (p := ⟨gp, 3, none⟩) (by rw [← HGP.out]; exact Nat.le_refl _) _
      have hbx3 := blk_put HBX2.out 3 (.slice A9 n3 c9) rfl
      have hdv := row_put HDV.out hs8 (.slice A9 n3 c9) 3
      obtain ⟨w10, hw10⟩ : ∃ w10, w9.setCell ⟨gp, 3, none⟩ (.slice A9 n3 c9) = w10 := ⟨_, rfl⟩
      rw [hw10] at hb10 hbx3 hdv
      rw [hw10]
      have hS10 := HS.out.below hb10
      have hown := fun k (e : v.ownBlock = some k) => HS.out.own_lt e
      have hle := HB8.out.size
      have hz5 := HBS.out
      have hz10 := hb10.size
      have hM : (k46).M w10 w.heap.size (fun j => w8.heap.size ≤ j) (S46.mk f0 f1 f2 D) [.int .u64 f0, .int .u64 f1, .int .i64 f2, .slice A9 n3 c9] := k46_mkM w10 w.heap.size _ (S46.mk f0 f1 f2 D) hdv
      have HMM := Lib.hid hM
      have HS10 := Lib.hid hS10
      have HOWN := Lib.hid hown
      have HZ := Lib.hid (And.intro hle (And.intro hz5 hz10))
      have g0 := blk_cell hbx3 0
      have g1' := blk_cell hbx3 1
      have g2' := blk_cell hbx3 2
      have g3' := blk_cell hbx3 3
      replace g0 : w10.cell? ⟨gp, 0, none⟩ = some (.int .u64 f0) := g0
      replace g1' : w10.cell? ⟨gp, 1, none⟩ = some (.int .u64 f1) := g1'
      replace g2' : w10.cell? ⟨gp, 2, none⟩ = some (.int .i64 f2) := g2'
      replace g3' : w10.cell? ⟨gp, 3, none⟩ = some (.slice A9 n3 c9) := g3'
      have q84 := HS10.out.x.c84
      have f84 := blk_frozen HS10.out.x 84
      have hlen : (ps.take i).length ≤ 2000000 := by rw [List.length_take]; omega
      have HLEN := Lib.hid hlen
      clear hb10 hbx3 hdv hw10 hS10 hown hM HS HDV HBX2 HB9 HB8 HBX qx fx HC8 hle hz5 hz10 hlen HBS
      go_upto_region 6 with (first
        | ((with_reducible refine gate_builtin (b := .append) (xs := #[.tmp 28, .tmp 30]) rfl ?_); at_builtin; refine Kd.R_append k46 (w0 := w) w.heap.size rfl (.tmp 28) (.tmp 30) 32 46 (.agg #[.int .u64 0, .int .u64 0, .int .i64 0, .slice none 0 0]) 48 rfl Tryd.underlying32 (by kernel_rfl) rfl (by decide) (by omega) v (ps.take i) (S46.mk f0 f1 f2 D) [.int .u64 f0, .int .u64 f1, .int .i64 f2, .slice A9 n3 c9] (fun j => g3 + 1 ≤ j) (fun j => w8.heap.size ≤ j) rfl rfl HMM.out (fun j hj => ⟨by have := HZ.out; omega, fun e => by have := HOWN.out j e.symm; have := HZ.out; omega⟩) (fun j hj => by have := HZ.out; omega) HS10.out.r HS10.out.b HS10.out.b.size (by have := HLEN.out; omega) ?_; intro v1 w11 hR hb hg hat; obtain ⟨A11, c11, e11⟩ := Kd.R_slice hR; obtain ⟨n11, hn11⟩ : ∃ n11, (ps.take i ++ [S46.mk f0 f1 f2 D]).length = n11 := ⟨_, rfl⟩; rw [hn11] at e11; subst e11; clear hn11; have hS2 := HS10.out.grown hb hg hR; have HBS := Lib.hid (show g3 + 1 ≤ w11.heap.size by have := hg.size; have := HZ.out; omega); clear HS10 hR hb hg hat q84 f84; have HS := Lib.hid hS2; clear hS2; have q84 := HS.out.x.c84; have f84 := blk_frozen HS.out.x 84))
      have hS := HS.out.set84 (.slice A11 n11 c11)
      rw [← HTK.out] at hS
      have hsz := World.size_setCell w11 ⟨g3, 84, none⟩ (.slice A11 n11 c11)
      obtain ⟨w12, hw12⟩ : ∃ w12, w11.setCell ⟨g3, 84, none⟩ (.slice A11 n11 c11) = w12 := ⟨_, rfl⟩
      rw [hw12] at hS hsz
      rw [hw12]
      have HBS2 := Lib.hid (show g3 + 1 ≤ w12.heap.size by have := HBS.out; omega)
      clear HS HBS hw12 hsz q84 f84 g0 g1' g2' g3' HMM HOWN HZ HC3 HN3 HTK HGP hs8
      have HS := Lib.hid hS
      clear hS
      go_wp2
      go_roundg gm
      case measure => omega
      case rel => exact ⟨i + 1, _, by go_num, by omega, Lib.hid (by have := HI.out; omega), HBS2, HS⟩
    · have hin : i = np := by omega
      subst hin
      have hS := HS.out
      rw [List.take_of_length_le (by rw [HNP.out]; exact Nat.le_refl _)] at hS
      have hS := hS.turn rfl rfl
      obtain ⟨B6, hB6⟩ : ∃ B6, wr.heap.size = B6 := ⟨_, rfl⟩
      rw [hB6] at hS
      have HBS2 := Lib.hid (show B6 ≤ wr.heap.size by omega)
      have p1 := eq_false (show ¬ ((i : Int) < (i : Int)) by omega)
      clear HBS HS hB6 HI hi hlt
      have HS := Lib.hid hS
      clear hS
      go_upto_region 10 with (fail)
      clear q84 p1
      obtain ⟨vp, hvp⟩ : ∃ vp, vp = v := ⟨_, rfl⟩
      subst hvp
      have HBS := HBS2
      clear HBS2
      go_wp2
      have HS0 := HS
      clear HS
      go_loopg [6] nw (fun gm v4 wx => ∃ (j : Nat) (v : Value), v4 = .int .i64 (j : Int) ∧ j ≤ nw ∧ Hid (gm + j = nw) ∧ Hid (B6 ≤ wx.heap.size) ∧ Hid (CoS w g1 g2 g3 ram c mt pv wv vp v vp v (fun j => g3 + 1 ≤ j ∧ j < B6) (fun j => B6 ≤ j) ps (ws.take j) wx))
      case atStart => exact ⟨0, .slice none 0 0, rfl, Nat.zero_le _, Lib.hid rfl, HBS, HS0⟩
      case round =>
        clear HS0 HBS
        obtain ⟨j, v, rfl, hi, HI, HBS, HS⟩ := hrel
        have q84 := HS.out.d.c85
        rw [HWV.out] at q84
        by_cases hlt : j < nw
        · obtain ⟨gm, rfl⟩ : ∃ q, gk = q + 1 := ⟨gk - 1, by have := HI.out; omega⟩
          have p0 := eq_true (show (0 : Int) ≤ (j : Int) by omega)
          have p1 := eq_true (show (j : Int) < (nw : Int) by omega)
          obtain ⟨ad, A3, c3, e, x0, x1, x2, x3, hl3, hC3⟩ := world_at HWS.out HS.out.b hlt
          subst e
          have hip : j < ws.length := by rw [HNW.out]; exact hlt
          have hd := HWD.out _ (List.getElem_mem hip)
          have htk : ws.take (j + 1) = ws.take j ++ [ws[j]] := by rw [List.take_add_one, List.getElem?_eq_getElem hip]; rfl
          rw [rd48 hip] at x0 x1 x2 x3 hl3 hC3
          obtain ⟨s, hs⟩ : ∃ s, ws[j] = s := ⟨_, rfl⟩
          rw [hs] at x0 x1 x2 x3 hl3 hC3 hd htk
          obtain ⟨f0, f1, f2, D⟩ := s
          dsimp only at x0 x1 x2 x3 hl3 hC3 hd
          obtain ⟨n3, hn3⟩ : ∃ n3, D.length = n3 := ⟨_, rfl⟩
          rw [hn3] at x3 hl3 hC3 hd
          have hC3' : Kd.C (Kd.int .u8) wr A3 n3 D := hC3
          have HC3 := Lib.hid hC3'
          have HTK := Lib.hid htk
          have HN3 := Lib.hid hn3
          clear hs hC3 hC3' htk hn3
          go_upto_region 14 with (fail)
          obtain ⟨gp, hgp⟩ : ∃ gp, wr.heap.size = gp := ⟨_, rfl⟩
          have hbx := blk_new wr (Obj.cells #[.bool f0, .bool f1, .bool f2, .slice A3 n3 c3] 48)
          have hb8 := (Below.refl _ wr).alloc (Nat.le_refl _) (Obj.cells #[.bool f0, .bool f1, .bool f2, .slice A3 n3 c3] 48)
          have hs8 : gp < (wr.alloc (Obj.cells #[.bool f0, .bool f1, .bool f2, .slice A3 n3 c3] 48)).heap.size := by rw [World.size_alloc]; omega
          obtain ⟨w8, hw8⟩ : ∃ w8, wr.alloc (Obj.cells #[.bool f0, .bool f1, .bool f2, .slice A3 n3 c3] 48) = w8 := ⟨_, rfl⟩
          rw [hw8, hgp] at hbx
          rw [hw8] at hb8 hs8
          rw [hw8, hgp]
          have HB8 := Lib.hid hb8
          have HBX := Lib.hid hbx
          have HGP := Lib.hid hgp
          have qx := blk_cell hbx 3
          replace qx : w8.cell? ⟨gp, 3, none⟩ = some (.slice A3 n3 c3) := qx
          have fx := blk_frozen hbx 3
          clear x0 x1 x2 x3 q84 hw8 hbx hb8 hgp
          have HC8 := Lib.hid (Kd.C_below HC3.out HB8.out)
          go_upto_region 15 with (first
            | ((with_reducible refine gate_builtin (b := .append) (xs := #[.const (.slice none 0 0), .tmp 46]) rfl ?_); at_builtin; refine Kd.R_append_rows (Kd.int .u8) (w0 := w) w.heap.size rfl (.const (.slice none 0 0)) (.tmp 46) 44 5 (.int .u8 0) 1 rfl Tryd.underlying44 info5 rfl (by decide) (by omega) (.slice none 0 0) ([] : List Int) D A3 n3 c3 (fun jj => w8.heap.size ≤ jj) (fun _ => False) rfl rfl (Kd.R_nil _ _ _ _ _) HC8.out (fun _ _ h => h) (fun _ h => h.elim) (fun _ h => h) (HS.out.b.trans (HB8.out.mono HS.out.b.size)) (Nat.le_trans HS.out.b.size HB8.out.size) (by simp only [List.length_nil]; omega) ?_; intro dv w9 hD1 hb1 hg1 hat1; rw [List.nil_append] at hD1; have e9 := Kd.R_slice hD1; rw [HN3.out] at e9; obtain ⟨A9, c9, e9⟩ := e9; subst e9; have hbg := grown_none hg1; have hbx2 := blk_below HBX.out hbg; have HBX2 := Lib.hid hbx2; have HB9 := Lib.hid (HB8.out.trans (hbg.mono HB8.out.size)); have HDV := Lib.hid hD1; clear qx fx hD1 hb1 hg1 hat1 hbg; have qx := blk_cell hbx2 3; replace qx : w9.cell? ⟨gp, 3, none⟩ = some (.slice A3 n3 c3) := qx; have fx := blk_frozen hbx2 3; clear hbx2))
          have hb10 : Below wr.heap.size wr (w9.setCell ⟨gp, 3, none⟩ (.slice A9 n3 c9)) := Below.setCell HB9.out (p := ⟨gp, 3, none⟩) (by rw [← HGP.out]; exact Nat.le_refl _) _
          have hbx3 := blk_put HBX2.out 3 (.slice A9 n3 c9) rfl
          have hdv := row_put HDV.out hs8 (.slice A9 n3 c9) 3
          obtain ⟨w10, hw10⟩ : ∃ w10, w9.setCell ⟨gp, 3, none⟩ (.slice A9 n3 c9) = w10 := ⟨_, rfl⟩
          rw [hw10] at hb10 hbx3 hdv
          rw [hw10]
          have hS10 := HS.out.below hb10
          have hown := fun k (e : v.ownBlock = some k) => HS.out.own_lt2 e
          have hle := HB8.out.size
          have hz5 := HBS.out
          have hz10 := hb10.size
          have hM : (k48).M w10 w.heap.size (fun jj => w8.heap.size ≤ jj) (S48.mk f0 f1 f2 D) [.bool f0, .bool f1, .bool f2, .slice A9 n3 c9] := k48_mkM w10 w.heap.size _ (S48.mk f0 f1 f2 D) hdv
          have HMM := Lib.hid hM
          have HS10 := Lib.hid hS10
          have HOWN := Lib.hid hown
          have HZ := Lib.hid (And.intro hle (And.intro hz5 hz10))
          have g0 := blk_cell hbx3 0
          have g1' := blk_cell hbx3 1
          have g2' := blk_cell hbx3 2
          have g3' := blk_cell hbx3 3
          replace g0 : w10.cell? ⟨gp, 0, none⟩ = some (.bool f0) := g0
          replace g1' : w10.cell? ⟨gp, 1, none⟩ = some (.bool f1) := g1'
          replace g2' : w10.cell? ⟨gp, 2, none⟩ = some (.bool f2) := g2'
          replace g3' : w10.cell? ⟨gp, 3, none⟩ = some (.slice A9 n3 c9) := g3'
          have q84 := HS10.out.x.c85
          have f84 := blk_frozen HS10.out.x 85
          have hlen : (ws.take j).length ≤ 2000000 := by rw [List.length_take]; omega
          have HLEN := Lib.hid hlen
          clear hb10 hbx3 hdv hw10 hS10 hown hM HS HDV HBX2 HB9 HB8 HBX qx fx HC8 hle hz5 hz10 hlen HBS
          go_upto_region 12 with (first
            | ((with_reducible refine gate_builtin (b := .append) (xs := #[.tmp 50, .tmp 52]) rfl ?_); at_builtin; refine Kd.R_append k48 (w0 := w) w.heap.size rfl (.tmp 50) (.tmp 52) 33 48 (.agg #[.bool false, .bool false, .bool false, .slice none 0 0]) 32 rfl Tryd.underlying33 (by kernel_rfl) rfl (by decide) (by omega) v (ws.take j) (S48.mk f0 f1 f2 D) [.bool f0, .bool f1, .bool f2, .slice A9 n3 c9] (fun jj => B6 ≤ jj) (fun jj => w8.heap.size ≤ jj) rfl rfl HMM.out (fun jj hj => ⟨by have := HZ.out; omega, fun e => by have := HOWN.out jj e.symm; have := HZ.out; omega⟩) (fun jj hj => by have := HZ.out; omega) HS10.out.s HS10.out.b HS10.out.b.size (by have := HLEN.out; omega) ?_; intro v1 w11 hR hb hg hat; obtain ⟨A11, c11, e11⟩ := Kd.R_slice hR; obtain ⟨n11, hn11⟩ : ∃ n11, (ws.take j ++ [S48.mk f0 f1 f2 D]).length = n11 := ⟨_, rfl⟩; rw [hn11] at e11; subst e11; clear hn11; have hS2 := HS10.out.grown2 hb hg hR; have HBS := Lib.hid (show B6 ≤ w11.heap.size by have := hg.size; have := HZ.out; omega); clear HS10 hR hb hg hat q84 f84; have HS := Lib.hid hS2; clear hS2; have q84 := HS.out.x.c85; have f84 := blk_frozen HS.out.x 85))
          have hS := HS.out.set85 (.slice A11 n11 c11)
          rw [← HTK.out] at hS
          have hsz := World.size_setCell w11 ⟨g3, 85, none⟩ (.slice A11 n11 c11)
          obtain ⟨w12, hw12⟩ : ∃ w12, w11.setCell ⟨g3, 85, none⟩ (.slice A11 n11 c11) = w12 := ⟨_, rfl⟩
          rw [hw12] at hS hsz
          rw [hw12]
          have HBS2 := Lib.hid (show B6 ≤ w12.heap.size by have := HBS.out; omega)
          clear HS HBS hw12 hsz q84 f84 g0 g1' g2' g3' HMM HOWN HZ HC3 HN3 HTK HGP hs8
          have HS := Lib.hid hS
          clear hS
          go_wp2
          go_roundg gm
          case measure => omega
          case rel => exact ⟨j + 1, _, by go_num, by omega, Lib.hid (by have := HI.out; omega), HBS2, HS⟩
        · have hin : j = nw := by omega
          subst hin
          have hS := HS.out
          rw [List.take_of_length_le (by rw [HNW.out]; exact Nat.le_refl _)] at hS
          have p1 := eq_false (show ¬ ((j : Int) < (j : Int)) by omega)
          clear HBS HS HI hi hlt
          have HS := Lib.hid hS
          clear hS
          go_upto_region 16 with (fail)
          clear q84 p1
          obtain ⟨A1, k1, e1, _, hC1⟩ := Kd.R_reads HS.out.r
          obtain ⟨A2, k2, e2, _, hC2⟩ := Kd.R_reads HS.out.s
          rw [HNP.out] at e1
          rw [HNW.out] at e2
          subst e1
          subst e2
          have HXX := Lib.hid (show wr.heap[g3]? = some (.cells (dkA ram c mt (.slice A1 i k1) (.slice A2 j k2)) 35 (0, 0)) from HS.out.x)
          have hz1 := dkA_size ram c mt (.slice A1 i k1) (.slice A2 j k2)
          have hz2 := dkA_one ram c mt (p := .slice A1 i k1) (u := .slice A2 j k2) rfl rfl
          obtain ⟨DB, hDB⟩ : ∃ DB, dkA ram c mt (.slice A1 i k1) (.slice A2 j k2) = DB := ⟨_, rfl⟩
          rw [hDB] at HXX hz1 hz2
          have HDB := Lib.hid hDB
          have HZ1 := Lib.hid hz1
          have HZ2 := Lib.hid hz2
          clear hDB hz1 hz2 hC1 hC2
          go_upto_region 17 with (first
            | ((with_reducible refine gate_ (.load 35 (.tmp 3)) rfl ?_); refine wpList_load_row rfl 35 (.tmp 3) rfl g3 rfl 35 DB (0, 0) _ HXX.out Tryd.underlying35 rfl (by rw [HZ1.out]; kernel_rfl) ?_)
            | ((with_reducible refine gate_ (.store 35 (.tmp 2) (.tmp 55)) rfl ?_); refine wpl_storeA 35 (.tmp 2) (.tmp 55) rfl rfl (cs := DB) HS.out.z (by rw [HZ1.out]; kernel_rfl) rfl rfl (by rw [HZ1.out]; kernel_rfl) HZ2.out ?_; intro w13 hR3 hk3 hb3 hs3; have HR3 := Lib.hid hR3; have HK3 := Lib.hid hk3; have HB3 := Lib.hid hb3; clear hR3 hk3 hb3 hs3))
          refine bodyPost_ret (results_cell_row rfl _ _ g2 35 _ (0, 0) _ rfl HR3.out Tryd.underlying35 rfl (by rw [HZ1.out]; kernel_rfl)) rfl ⟨A1, k1, A2, k2, by rw [HNP.out, HNW.out, HDB.out], ?_, ?_, HB3.out _ _ HS.out.n.2.2.2 HS.out.b⟩
          · have h := Kd.R_move HS.out.r (w1 := w13) (fun k hk => HK3.out k (HS.out.o k hk).2.1)
            exact (Kd.R_reads' h).2.2
          · have h := Kd.R_move HS.out.s (w1 := w13) (fun k hk => HK3.out k (HS.out.p k hk).2.1)
            exact (Kd.R_reads' h).2.2
end Go.Proofs.YtbmnifnahbehbaaDoor

/- A Cpu is equal to itself. -/
set_option linter.unusedVariables false
namespace Go.Proofs.YtbmnifnahbehbaaDoor
open Go.RowKit Go.Lib Go.Proofs.YtbmnifnahbehbaaDoorW.PrintWords
section
variable {P : Program} {w : World} {d : Nat} {xs : Array Value}
/-- The part of that type at that place is equal to itself. -/
def Self (P : Program) (w : World) (d : Nat) (t : TypeId) (xs : Array Value) (off : Nat) : Prop := ∃ a, (part t xs off).run P w = .ok a w ∧ (Op.equalIn d t a a).run P w = .ok true w
theorem self_int {t : TypeId} {k : IntKind} {off : Nat} {v : Int} (hp : P.plainKey t = true) (hu : P.underlying t = some (.int k)) (hg : xs[off]? = some (.int k v)) : Self P w (d + 1) t xs off :=
  ⟨_, run_part_plain w hp hg, by rw [run_equalIn_int w d t k k v v hu, beq_self_eq_true]⟩
theorem self_bool {t : TypeId} {off : Nat} {v : Bool} (hp : P.plainKey t = true) (hu : P.underlying t = some .bool) (hg : xs[off]? = some (.bool v)) : Self P w (d + 1) t xs off :=
  ⟨_, run_part_plain w hp hg, by rw [run_equalIn_bool' w d t v v hu, beq_self_eq_true]⟩
theorem items_self {e : TypeId} {c : Nat} : ∀ is : List Nat, (∀ i ∈ is, Self P w d e xs (i * c)) → (Op.eqItems d e c xs xs is).run P w = .ok true w
  | [], _ => by simp [Op.eqItems]
  | i :: is, h => by
    obtain ⟨a, h1, h2⟩ := h i (List.mem_cons_self ..)
    have h3 := items_self is (fun j hj => h j (List.mem_cons_of_mem _ hj))
    simp only [Op.eqItems, Sem.run_bind, h1, h2, Result.andThen_ok]
    simpa using h3
theorem fields_self : ∀ fs : List Field, (∀ f ∈ fs, (f.name == "_") = false ∧ Self P w d f.type xs f.offset) → (Op.eqFields d xs xs fs).run P w = .ok true w
  | [], _ => eqf_nil
  | f :: fs, h => by
    obtain ⟨hn, a, h1, h2⟩ := h f (List.mem_cons_self ..)
    exact eqf_cons (s := true) hn h1 h1 h2 (fields_self fs (fun g hg => h g (List.mem_cons_of_mem _ hg)))
theorem arr_self {t e : TypeId} {n : Nat} {i : TypeInfo} (hu : P.underlying t = some (.array n e)) (hi : P.info? e = some i) (h1 : P.cellsOf e = 1) (h : ∀ j, j < n → Self P w d e xs j) : (Op.equalIn (d + 1) t (.agg xs) (.agg xs)).run P w = .ok true w := by
  rw [run_equalIn_array w d xs xs hu hi]
  refine items_self _ (fun j hj => ?_)
  rw [h1, Nat.mul_one]
  exact h j (List.mem_range.1 hj)
end
theorem cellE_u64 {c : Cp} {o n i : Nat} (h : i < n) (h1 : ¬ (o + i = 33 ∨ o + i = 81)) (h2 : ¬ (o + i = 34 ∨ o + i = 79)) (h3 : ¬ (47 ≤ o + i ∧ o + i < 63)) : (cellsL c o n).toArray[i]? = some (.int .u64 (c (o + i))) := by
  rw [List.getElem?_toArray, cellsL_get h]
  unfold cellOf
  rw [if_neg h1, if_neg h2, if_neg h3]
theorem cellE_u8 {c : Cp} {o n i : Nat} (h : i < n) (h3 : 47 ≤ o + i ∧ o + i < 63) : (cellsL c o n).toArray[i]? = some (.int .u8 (c (o + i))) := by
  rw [List.getElem?_toArray, cellsL_get h]
  unfold cellOf
  rw [if_neg (by omega), if_neg (by omega), if_pos h3]
theorem inf22 : ∃ i, Tryd.prog.info? 22 = some i := Option.isSome_iff_exists.1 (by kernel_rfl)
theorem inf5 : ∃ i, Tryd.prog.info? 5 = some i := Option.isSome_iff_exists.1 (by kernel_rfl)
theorem x_self (c : Cp) (w : World) (d : Nat) : (Op.equalIn (d + 2) 23 (.agg (cellsL c 1 32).toArray) (.agg (cellsL c 1 32).toArray)).run Tryd.prog w = .ok true w := by
  obtain ⟨i0, hi0⟩ := inf22
  exact arr_self Tryd.underlying23 hi0 (by kernel_rfl) (fun j hj => self_int (k := .u64) (by kernel_rfl) Tryd.underlying22 (cellE_u64 hj (by omega) (by omega) (by omega)))
theorem cfg_self (c : Cp) (w : World) (d : Nat) : (Op.equalIn (d + 2) 24 (.agg (cellsL c 47 16).toArray) (.agg (cellsL c 47 16).toArray)).run Tryd.prog w = .ok true w := by
  obtain ⟨i0, hi0⟩ := inf5
  exact arr_self Tryd.underlying24 hi0 (by kernel_rfl) (fun j hj => self_int (k := .u8) (by kernel_rfl) Tryd.underlying5 (cellE_u8 hj (by omega)))
theorem addr_self (c : Cp) (w : World) (d : Nat) : (Op.equalIn (d + 2) 25 (.agg (cellsL c 63 16).toArray) (.agg (cellsL c 63 16).toArray)).run Tryd.prog w = .ok true w := by
  obtain ⟨i0, hi0⟩ := inf22
  exact arr_self Tryd.underlying25 hi0 (by kernel_rfl) (fun j hj => self_int (k := .u64) (by kernel_rfl) Tryd.underlying22 (cellE_u64 hj (by omega) (by omega) (by omega)))
theorem pmp_self (c : Cp) (w : World) (d : Nat) : (Op.equalIn (d + 3) 27 (.agg (cellsL c 47 32).toArray) (.agg (cellsL c 47 32).toArray)).run Tryd.prog w = .ok true w := by
  refine eqA_of Tryd.underlying27 (by kernel_rfl) (fields_self _ ?_)
  intro f hf
  simp only [List.mem_cons, List.not_mem_nil, or_false] at hf
  rcases hf with rfl | rfl
  · exact ⟨rfl, _, by kernel_rfl, cfg_self c w d⟩
  · exact ⟨rfl, _, by kernel_rfl, addr_self c w d⟩
theorem res_self (c : Cp) (w : World) (d : Nat) : (Op.equalIn (d + 2) 29 (.agg (cellsL c 79 3).toArray) (.agg (cellsL c 79 3).toArray)).run Tryd.prog w = .ok true w := by
  refine eqA_of Tryd.underlying29 (by kernel_rfl) (fields_self _ ?_)
  intro f hf
  simp only [List.mem_cons, List.not_mem_nil, or_false] at hf
  rcases hf with rfl | rfl | rfl
  · exact ⟨rfl, self_bool (by kernel_rfl) Tryd.underlying4 rfl⟩
  · exact ⟨rfl, self_int (k := .u64) (by kernel_rfl) Tryd.underlying22 rfl⟩
  · exact ⟨rfl, self_int (k := .i64) (by kernel_rfl) Tryd.underlying3 rfl⟩
theorem cpu_self (c : Cp) (w : World) : (Op.equalIn 10000 31 (.agg (cpuL c).toArray) (.agg (cpuL c).toArray)).run Tryd.prog w = .ok true w := by
  refine eqA_of (d := 9999) Tryd.underlying31 (by kernel_rfl) (fields_self _ ?_)
  intro f hf
  simp only [List.mem_cons, List.not_mem_nil, or_false] at hf
  rcases hf with rfl | rfl | rfl | rfl | rfl | rfl | rfl | rfl | rfl | rfl | rfl | rfl | rfl | rfl | rfl | rfl | rfl | rfl
  · exact ⟨rfl, self_int (k := .u64) (by kernel_rfl) Tryd.underlying22 rfl⟩
  · exact ⟨rfl, _, by kernel_rfl, x_self c w _⟩
  · exact ⟨rfl, self_int (k := .i64) (by kernel_rfl) Tryd.underlying3 rfl⟩
  · exact ⟨rfl, self_bool (by kernel_rfl) Tryd.underlying4 rfl⟩
  · exact ⟨rfl, self_int (k := .u64) (by kernel_rfl) Tryd.underlying22 rfl⟩
  · exact ⟨rfl, self_int (k := .u64) (by kernel_rfl) Tryd.underlying22 rfl⟩
  · exact ⟨rfl, self_int (k := .u64) (by kernel_rfl) Tryd.underlying22 rfl⟩
  · exact ⟨rfl, self_int (k := .u64) (by kernel_rfl) Tryd.underlying22 rfl⟩
  · exact ⟨rfl, self_int (k := .u64) (by kernel_rfl) Tryd.underlying22 rfl⟩
  · exact ⟨rfl, self_int (k := .u64) (by kernel_rfl) Tryd.underlying22 rfl⟩
  · exact ⟨rfl, self_int (k := .u64) (by kernel_rfl) Tryd.underlying22 rfl⟩
  · exact ⟨rfl, self_int (k := .u64) (by kernel_rfl) Tryd.underlying22 rfl⟩
  · exact ⟨rfl, self_int (k := .u64) (by kernel_rfl) Tryd.underlying22 rfl⟩
  · exact ⟨rfl, self_int (k := .u64) (by kernel_rfl) Tryd.underlying22 rfl⟩
  · exact ⟨rfl, self_int (k := .u64) (by kernel_rfl) Tryd.underlying22 rfl⟩
  · exact ⟨rfl, self_int (k := .u64) (by kernel_rfl) Tryd.underlying22 rfl⟩
  · exact ⟨rfl, _, by kernel_rfl, pmp_self c w _⟩
  · exact ⟨rfl, _, by kernel_rfl, res_self c w _⟩
theorem cpu_neq (c : Cp) (w : World) : (binOp .neq 31 (.agg (cpuL c).toArray) (.agg (cpuL c).toArray)).run Tryd.prog w = .ok (.bool false) w := by
  rw [run_neq_struct, cpu_self]
  rfl
end Go.Proofs.YtbmnifnahbehbaaDoor

/- anvilref14.SameDeck at two decks with the same content. -/
set_option linter.unusedVariables false
namespace Go.Proofs.YtbmnifnahbehbaaDoor
open Go.RowKit Go.Lib Go.Shelf Go.Proofs.YtbmnifnahbehbaaDoorW.PrintWords Go.Proofs.YtbmnifnahbehbaaDoorW.PrintMore Go.Proofs.YtbmnifnahbehbaaDoorW.PrintLast
open PPr
theorem cellB {w0 W : World} (h : Below w0.heap.size w0 W) {p : Addr} {x : Value} (q : w0.cell? p = some x) : W.cell? p = some x := (h.cell (World.block_lt_of_cell? w0 _ q)).trans q
set_option maxHeartbeats 8000000 in
set_option maxRecDepth 100000 in
theorem same_c (ram : Int) (c : Cp) (mt : Int) (ps : List S46) (ws : List S48) (A1 A2 B1 B2 : Option Addr) (c1 c2 d1 d2 : Nat) (w : World) (h1 : Kd.C k46 w A1 ps.length ps) (h2 : Kd.C k48 w A2 ws.length ws) (k1 : Kd.C k46 w B1 ps.length ps) (k2 : Kd.C k48 w B2 ws.length ws) :
    Calls Tryd.prog 7 #[.agg (dkA ram c mt (.slice A1 ps.length c1) (.slice A2 ws.length c2)), .agg (dkA ram c mt (.slice B1 ps.length d1) (.slice B2 ws.length d2))] w fun e w' => e = .returned (.bool true) ∧ Below w.heap.size w w' := by
  obtain ⟨np, hnp⟩ : ∃ np, ps.length = np := ⟨_, rfl⟩
  obtain ⟨nw, hnw⟩ : ∃ nw, ws.length = nw := ⟨_, rfl⟩
  have hpl : ps.length ≤ 9223372036854775807 := h1.2.1
  have hwl : ws.length ≤ 9223372036854775807 := h2.2.1
  rw [hnp] at h1 k1 hpl ⊢
  rw [hnw] at h2 k2 hwl ⊢
  have HNP := Lib.hid hnp
  have HNW := Lib.hid hnw
  have H1 := Lib.hid h1
  have H2 := Lib.hid h2
  have K1 := Lib.hid k1
  have K2 := Lib.hid k2
  clear hnp hnw h1 h2 k1 k2
  obtain ⟨DA, hDA⟩ : ∃ DA, dkA ram c mt (.slice A1 np c1) (.slice A2 nw c2) = DA := ⟨_, rfl⟩
  obtain ⟨DB, hDB⟩ : ∃ DB, dkA ram c mt (.slice B1 np d1) (.slice B2 nw d2) = DB := ⟨_, rfl⟩
  rw [hDA, hDB]
  have HDA := Lib.hid hDA
  have HDB := Lib.hid hDB
  clear hDA hDB
  go_enter Tryd.func7, Tryd.ntmps7
  go_upto_region 1 with (first
    | ((with_reducible refine gate_dst (N := 2) rfl ?_); refine box_event ?hg (N := 2) ?hd (cs := DA) (t := 35) ?hr ?_; (case hd => rfl); (case hg => rfl); (case hr => rfl); intro ga hg wa hba hda; clear hg; have HXA := Lib.hid hba; have HD := Lib.hid hda; clear hba hda)
    | ((with_reducible refine gate_dst (N := 3) rfl ?_); refine box_event ?hg (N := 3) ?hd (cs := DB) (t := 35) ?hr ?_; (case hd => rfl); (case hg => rfl); (case hr => rfl); intro gb hg w1 hbb hdb; clear hg; have HXB := Lib.hid hbb; have HD2 := Lib.hid hdb; clear hbb hdb))
  have hA : DBox w1 ga ram c mt (.slice A1 np c1) (.slice A2 nw c2) := by have h := blk_below HXA.out HD2.out; rw [← HDA.out] at h; exact h
  have hB : DBox w1 gb ram c mt (.slice B1 np d1) (.slice B2 nw d2) := by have h := HXB.out; rw [← HDB.out] at h; exact h
  have hb1 : Below w.heap.size w w1 := HD.out.trans (HD2.out.mono HD.out.size)
  have HA := Lib.hid hA
  have HB := Lib.hid hB
  have HB1 := Lib.hid hb1
  clear hA hB hb1 HXA HXB HD HD2
  have qa0 := HA.out.c0
  have qb0 := HB.out.c0
  have qa3 := HA.out.c83
  have qb3 := HB.out.c83
  have qa4 := HA.out.c84
  have qb4 := HB.out.c84
  have qa5 := HA.out.c85
  have qb5 := HB.out.c85
  have b0 : (ram != ram) = false := bne_self_eq_false _
  have b1 : (mt != mt) = false := bne_self_eq_false _
  have hn := cpu_neq c
  have hpe : Tryd.prog.eqGuardType Tryd.prog.depth 31 = false := by kernel_rfl
  obtain ⟨CV, hCV⟩ : ∃ CV, (cpuL c).toArray = CV := ⟨_, rfl⟩
  rw [hCV] at hn
  have HCV := Lib.hid hCV
  have HN := Lib.hid hn
  clear hCV hn
  go_upto_if 46 with (fail)
  refine wp_load_mid 31 (.tmp 16) rfl ga 1 rfl (cpuL c) _ HA.out.cpu Tryd.underlying31 rfl (by rw [cpuL_len]; kernel_rfl) ?_
  rw [HCV.out]
  rename_i hK
  refine hK _ _ ?_
  clear hK
  go_upto_if 46 with (fail)
  refine wp_load_mid 31 (.tmp 18) rfl gb 1 rfl (cpuL c) _ HB.out.cpu Tryd.underlying31 rfl (by rw [cpuL_len]; kernel_rfl) ?_
  rw [HCV.out]
  rename_i hK
  refine hK _ _ ?_
  clear hK
  have hn := HN.out
  go_upto_if 46 with (fail)
  clear hn qa0 qb0 qa3 qb3 qa4 qb4 qa5 qb5 b0 b1 hpe HN HCV
  have HS := Lib.hid (Below.refl w1.heap.size w1)
  have HQ := Lib.hid (And.intro HA.out.c84 (And.intro HB.out.c84 (And.intro HA.out.c85 HB.out.c85)))
  have HP1 := Lib.hid (Kd.C_below H1.out HB1.out)
  have HP2 := Lib.hid (Kd.C_below H2.out HB1.out)
  have HP3 := Lib.hid (Kd.C_below K1.out HB1.out)
  have HP4 := Lib.hid (Kd.C_below K2.out HB1.out)
  clear HA HB H1 H2 K1 K2 HDA HDB
  go_wp2
  have HS0 := HS
  clear HS
  go_loopg [5] np (fun gm v5 wx => ∃ i : Nat, v5 = .int .i64 (i : Int) ∧ i ≤ np ∧ Hid (gm + i = np) ∧ Hid (Below w1.heap.size w1 wx))
  case atStart => exact ⟨0, rfl, Nat.zero_le _, Lib.hid rfl, HS0⟩
  case round =>
    clear HS0
    obtain ⟨i, rfl, hi, HI, HS⟩ := hrel
    have qa4 := cellB HS.out HQ.out.1
    have qb4 := cellB HS.out HQ.out.2.1
    by_cases hlt : i < np
    · obtain ⟨gm, rfl⟩ : ∃ q, gk = q + 1 := ⟨gk - 1, by have := HI.out; omega⟩
      have p0 := eq_true (show (0 : Int) ≤ (i : Int) by omega)
      have p1 := eq_true (show (i : Int) < (np : Int) by omega)
      go_upto_region 6 with (fail)
      have hS := HS.out.trans ((below_drew (Below.refl _ _)).mono HS.out.size)
      clear HS qa4 qb4
      have HS := Lib.hid hS
      clear hS
      have q1 := HQ.out.1
      have q2 := HQ.out.2.1
      obtain ⟨ad, A3, c3, e, x0, x1, x2, x3, hl3, hC3⟩ := seg_at HP1.out (Below.refl _ _) hlt
      subst e
      obtain ⟨bd, B3, d3, e, y0, y1, y2, y3, hm3, hD3⟩ := seg_at HP3.out (Below.refl _ _) hlt
      subst e
      have hip : i < ps.length := by rw [HNP.out]; exact hlt
      rw [rd46 hip] at x0 x1 x2 x3 hl3 hC3 y0 y1 y2 y3 hm3 hD3
      obtain ⟨s, hs⟩ : ∃ s, ps[i] = s := ⟨_, rfl⟩
      rw [hs] at x0 x1 x2 x3 hl3 hC3 y0 y1 y2 y3 hm3 hD3
      have hsc := fun W (hb : Below w1.heap.size w1 W) => seg_c s A3 B3 c3 d3 W (Kd.C_below hC3 hb) hl3 (Kd.C_below hD3 hb) hm3
      have HSC := Lib.hid hsc
      have hf : ∀ w', Below w1.heap.size w1 w' → w'.cell? ⟨ga, 84, none⟩ = some (.slice (some ad) np c1) ∧ w'.cell? ⟨gb, 84, none⟩ = some (.slice (some bd) np d1) ∧ w'.cell? (ad.add (i * 4)) = some (.int .u64 s.f0) ∧ w'.cell? ⟨(ad.add (i * 4)).block, (ad.add (i * 4)).off + 1, none⟩ = some (.int .u64 s.f1) ∧ w'.cell? ⟨(ad.add (i * 4)).block, (ad.add (i * 4)).off + 2, none⟩ = some (.int .i64 s.f2) ∧ w'.cell? ⟨(ad.add (i * 4)).block, (ad.add (i * 4)).off + 3, none⟩ = some (.slice A3 s.f3.length c3) ∧ w'.cell? (bd.add (i * 4)) = some (.int .u64 s.f0) ∧ w'.cell? ⟨(bd.add (i * 4)).block, (bd.add (i * 4)).off + 1, none⟩ = some (.int .u64 s.f1) ∧ w'.cell? ⟨(bd.add (i * 4)).block, (bd.add (i * 4)).off + 2, none⟩ = some (.int .i64 s.f2) ∧ w'.cell? ⟨(bd.add (i * 4)).block, (bd.add (i * 4)).off + 3, none⟩ = some (.slice B3 s.f3.length d3) := fun W hb => ⟨cellB hb q1, cellB hb q2, cellB hb x0, cellB hb x1, cellB hb x2, cellB hb x3, cellB hb y0, cellB hb y1, cellB hb y2, cellB hb y3⟩
      have HF := Lib.hid hf
      clear hsc hs hl3 hC3 hm3 hD3 hf q1 q2 x0 x1 x2 x3 y0 y1 y2 y3
      obtain ⟨qa4, qb4, x0, x1, x2, x3, y0, y1, y2, y3⟩ := HF.out _ HS.out
      go_region_held2 (fun w' => w'.cell? ⟨ga, 84, none⟩ = some (.slice (some ad) np c1) ∧ w'.cell? ⟨gb, 84, none⟩ = some (.slice (some bd) np d1) ∧ w'.cell? (ad.add (i * 4)) = some (.int .u64 s.f0) ∧ w'.cell? ⟨(ad.add (i * 4)).block, (ad.add (i * 4)).off + 1, none⟩ = some (.int .u64 s.f1) ∧ w'.cell? ⟨(ad.add (i * 4)).block, (ad.add (i * 4)).off + 2, none⟩ = some (.int .i64 s.f2) ∧ w'.cell? ⟨(ad.add (i * 4)).block, (ad.add (i * 4)).off + 3, none⟩ = some (.slice A3 s.f3.length c3) ∧ w'.cell? (bd.add (i * 4)) = some (.int .u64 s.f0) ∧ w'.cell? ⟨(bd.add (i * 4)).block, (bd.add (i * 4)).off + 1, none⟩ = some (.int .u64 s.f1) ∧ w'.cell? ⟨(bd.add (i * 4)).block, (bd.add (i * 4)).off + 2, none⟩ = some (.int .i64 s.f2) ∧ w'.cell? ⟨(bd.add (i * 4)).block, (bd.add (i * 4)).off + 3, none⟩ = some (.slice B3 s.f3.length d3))
        (first | exact HF.out _ HS.out | go_keep) (first
        | (go_at_call 27; refine (HSC.out _ HS.out).mono ?_; rintro e wA ⟨rfl, hd⟩; have hS2 := HS.out.trans (hd.mono HS.out.size); clear HS hd qa4 qb4 x0 x1 x2 x3 y0 y1 y2 y3; have HS := Lib.hid hS2; clear hS2; obtain ⟨qa4, qb4, x0, x1, x2, x3, y0, y1, y2, y3⟩ := HF.out _ HS.out))
      clear x0 x1 x2 x3 y0 y1 y2 y3 qa4 qb4 HSC HF
      go_wp2
      go_roundg gm
      case measure => omega
      case rel => exact ⟨i + 1, by go_num, by omega, Lib.hid (by have := HI.out; omega), HS⟩
    · have p1 := eq_false (show ¬ ((i : Int) < (np : Int)) by omega)
      go_upto_region 9 with (fail)
      clear p1 qa4 qb4 HI hi
      go_wp2
      have HS0 := HS
      clear HS
      go_loopg [7] nw (fun gm v7 wx => ∃ j : Nat, v7 = .int .i64 (j : Int) ∧ j ≤ nw ∧ Hid (gm + j = nw) ∧ Hid (Below w1.heap.size w1 wx))
      case atStart => exact ⟨0, rfl, Nat.zero_le _, Lib.hid rfl, HS0⟩
      case round =>
        clear HS0
        obtain ⟨j, rfl, hj, HJ, HS⟩ := hrel
        have qa5 := cellB HS.out HQ.out.2.2.1
        have qb5 := cellB HS.out HQ.out.2.2.2
        by_cases hlj : j < nw
        · obtain ⟨gm, rfl⟩ : ∃ q, gk = q + 1 := ⟨gk - 1, by have := HJ.out; omega⟩
          have p0 := eq_true (show (0 : Int) ≤ (j : Int) by omega)
          have p1 := eq_true (show (j : Int) < (nw : Int) by omega)
          obtain ⟨ad, A3, c3, e, x0, x1, x2, x3, hl3, hC3⟩ := world_at HP2.out HS.out hlj
          subst e
          obtain ⟨bd, B3, d3, e, y0, y1, y2, y3, hm3, hD3⟩ := world_at HP4.out HS.out hlj
          subst e
          have hip : j < ws.length := by rw [HNW.out]; exact hlj
          rw [rd48 hip] at x0 x1 x2 x3 hl3 hC3 y0 y1 y2 y3 hm3 hD3
          obtain ⟨s, hs⟩ : ∃ s, ws[j] = s := ⟨_, rfl⟩
          rw [hs] at x0 x1 x2 x3 hl3 hC3 y0 y1 y2 y3 hm3 hD3
          obtain ⟨f0, f1, f2, D⟩ := s
          dsimp only at x0 x1 x2 x3 hl3 hC3 y0 y1 y2 y3 hm3 hD3
          have HC3 := Lib.hid hC3
          have HD3 := Lib.hid hD3
          clear hs hl3 hC3 hm3 hD3
          go_upto_region 13 with (fail)
          have hbx := blk_new wr (Obj.cells #[.bool f0, .bool f1, .bool f2, .slice A3 D.length c3] 48)
          have hb8 := (Below.refl _ wr).alloc (Nat.le_refl _) (Obj.cells #[.bool f0, .bool f1, .bool f2, .slice A3 D.length c3] 48)
          obtain ⟨gx, hgx⟩ : ∃ gx, wr.heap.size = gx := ⟨_, rfl⟩
          obtain ⟨w8, hw8⟩ : ∃ w8, wr.alloc (Obj.cells #[.bool f0, .bool f1, .bool f2, .slice A3 D.length c3] 48) = w8 := ⟨_, rfl⟩
          rw [hw8, hgx] at hbx
          rw [hw8] at hb8
          rw [hw8, hgx]
          have hS := HS.out.trans (hb8.mono HS.out.size)
          have yy0 := cellB hb8 y0
          have yy1 := cellB hb8 y1
          have yy2 := cellB hb8 y2
          have yy3 := cellB hb8 y3
          have HC8 := Lib.hid (Kd.C_below HC3.out hb8)
          have HD8 := Lib.hid (Kd.C_below HD3.out hb8)
          have HBX := Lib.hid hbx
          clear HS hw8 hgx hb8 qa5 qb5 x0 x1 x2 x3 y0 y1 y2 y3 HC3 HD3 hbx
          have HS := Lib.hid hS
          clear hS
          have qb5 := cellB HS.out HQ.out.2.2.2
          go_upto_region 14 with (fail)
          have hby := blk_new w8 (Obj.cells #[.bool f0, .bool f1, .bool f2, .slice B3 D.length d3] 48)
          have hb9 := (Below.refl _ w8).alloc (Nat.le_refl _) (Obj.cells #[.bool f0, .bool f1, .bool f2, .slice B3 D.length d3] 48)
          obtain ⟨gy, hgy⟩ : ∃ gy, w8.heap.size = gy := ⟨_, rfl⟩
          obtain ⟨w9, hw9⟩ : ∃ w9, w8.alloc (Obj.cells #[.bool f0, .bool f1, .bool f2, .slice B3 D.length d3] 48) = w9 := ⟨_, rfl⟩
          rw [hw9, hgy] at hby
          rw [hw9] at hb9
          rw [hw9, hgy]
          have hS := HS.out.trans (hb9.mono HS.out.size)
          have hbx := blk_below HBX.out hb9
          have hcv1 := Kd.C_string (P := Tryd.prog) (A := A3) (c := c3) Tryd.underlying44 Tryd.underlying5 Tryd.underlying9 (Kd.C_below HC8.out hb9)
          have hcv2 := Kd.C_string (P := Tryd.prog) (A := B3) (c := d3) Tryd.underlying44 Tryd.underlying5 Tryd.underlying9 (Kd.C_below HD8.out hb9)
          clear HS hw9 hgy hb9 qb5 yy0 yy1 yy2 yy3 HC8 HD8 HBX
          have HS := Lib.hid hS
          clear hS
          have x0 := blk_cell hbx 0
          have x1 := blk_cell hbx 1
          have x2 := blk_cell hbx 2
          have x3 := blk_cell hbx 3
          have y0 := blk_cell hby 0
          have y1 := blk_cell hby 1
          have y2 := blk_cell hby 2
          have y3 := blk_cell hby 3
          replace x0 : w9.cell? ⟨gx, 0, none⟩ = some (.bool f0) := x0
          replace x1 : w9.cell? ⟨gx, 1, none⟩ = some (.bool f1) := x1
          replace x2 : w9.cell? ⟨gx, 2, none⟩ = some (.bool f2) := x2
          replace x3 : w9.cell? ⟨gx, 3, none⟩ = some (.slice A3 D.length c3) := x3
          replace y0 : w9.cell? ⟨gy, 0, none⟩ = some (.bool f0) := y0
          replace y1 : w9.cell? ⟨gy, 1, none⟩ = some (.bool f1) := y1
          replace y2 : w9.cell? ⟨gy, 2, none⟩ = some (.bool f2) := y2
          replace y3 : w9.cell? ⟨gy, 3, none⟩ = some (.slice B3 D.length d3) := y3
          have b0 : (f0 != f0) = false := bne_self_eq_false _
          have b1 : (f1 != f1) = false := bne_self_eq_false _
          have b2 : (f2 != f2) = false := bne_self_eq_false _
          have b3 : ((strOfNums D).toList != (strOfNums D).toList) = false := bne_self_eq_false _
          have b4 : ((strOfNums D).toList == (strOfNums D).toList) = true := beq_self_eq_true _
          clear hbx hby
          go_upto_if 111 with (fail)
          clear x0 x1 x2 x3 y0 y1 y2 y3 b0 b1 b2 b3 b4 hcv1 hcv2
          go_wp2
          go_roundg gm
          case measure => omega
          case rel => exact ⟨j + 1, by go_num, by omega, Lib.hid (by have := HJ.out; omega), HS⟩
        · have p1 := eq_false (show ¬ ((j : Int) < (nw : Int)) by omega)
          go_wp2
          go_ret
          exact ⟨rfl, HB1.out.trans (HS.out.mono HB1.out.size)⟩
end Go.Proofs.YtbmnifnahbehbaaDoor

/- DeckPrints: the law's walk, given what both Prints answer. -/
set_option linter.unusedVariables false
namespace Go.Proofs.YtbmnifnahbehbaaDoor
open Go.RowKit Go.Lib Go.Shelf Go.Proofs.YtbmnifnahbehbaaDoorW.PrintWords Go.Proofs.YtbmnifnahbehbaaDoorW.PrintMore Go.Proofs.YtbmnifnahbehbaaDoorW.PrintLast
open PPr
/-- What a function answers of every deck with this content. -/
def Answers (f : Nat) (ram : Int) (c : Cp) (mt : Int) (ps : List S46) (ws : List S48) (R1 : ByteArray) (R2 : Int) : Prop :=
  ∀ (Ap Aw : Option Addr) (cp cw : Nat) (w : World), Glob w → Kd.C k46 w Ap ps.length ps → Kd.C k48 w Aw ws.length ws →
    Calls Tryd.prog f #[.agg (dkA ram c mt (.slice Ap ps.length cp) (.slice Aw ws.length cw))] w fun e w' => e = .returned (.tuple #[.string R1, .int .i64 R2]) ∧ Below w.heap.size w w'
set_option maxHeartbeats 8000000 in
set_option maxRecDepth 100000 in
theorem law_c (ram : Int) (c : Cp) (mt : Int) (ps : List S46) (ws : List S48) (R1 : ByteArray) (R2 : Int) (h5 : Answers 5 ram c mt ps ws R1 R2) (h6 : Answers 6 ram c mt ps ws R1 R2) (Ap Aw : Option Addr) (cp cw : Nat) (w : World) (hG : Glob w) (hps : Kd.C k46 w Ap ps.length ps) (hws : Kd.C k48 w Aw ws.length ws) (hpl : ps.length ≤ 2000000) (hwl : ws.length ≤ 2000000) (hpd : ∀ s ∈ ps, s.f3.length ≤ 2000000) (hwd : ∀ s ∈ ws, s.f3.length ≤ 2000000) :
    Calls Tryd.prog 3 #[.agg (dkA ram c mt (.slice Ap ps.length cp) (.slice Aw ws.length cw))] w fun e w' => e = .returned (.bool true) ∧ Below w.heap.size w w' := by
  have h4 := fun W (hb : Below w.heap.size w W) => copied_c ram c mt ps ws Ap Aw cp cw W (Kd.C_below hps hb) (Kd.C_below hws hb) hpl hwl hpd hwd
  have h6b := fun W (hb : Below w.heap.size w W) => h6 Ap Aw cp cw W (Glob.step hG hb) (Kd.C_below hps hb) (Kd.C_below hws hb)
  have h5b := fun (A1 A2 : Option Addr) (c1 c2 : Nat) (w2 W : World) (k1 : Kd.C k46 w2 A1 ps.length ps) (k2 : Kd.C k48 w2 A2 ws.length ws) (hb2 : Below w.heap.size w w2) (hb : Below w2.heap.size w2 W) => h5 A1 A2 c1 c2 W (Glob.step hG (hb2.trans (hb.mono hb2.size))) (Kd.C_below k1 hb) (Kd.C_below k2 hb)
  have h7b := fun (A1 A2 : Option Addr) (c1 c2 : Nat) (w2 W : World) (k1 : Kd.C k46 w2 A1 ps.length ps) (k2 : Kd.C k48 w2 A2 ws.length ws) (hb2 : Below w.heap.size w w2) (hb : Below w2.heap.size w2 W) => same_c ram c mt ps ws A1 A2 Ap Aw c1 c2 cp cw W (Kd.C_below k1 hb) (Kd.C_below k2 hb) (Kd.C_below hps (hb2.trans (hb.mono hb2.size))) (Kd.C_below hws (hb2.trans (hb.mono hb2.size)))
  have hsz : ∀ p u, (dkA ram c mt p u).size = 86 := fun p u => dkA_size _ _ _ _ _
  obtain ⟨DA, hDA⟩ : ∃ DA, dkA ram c mt (.slice Ap ps.length cp) (.slice Aw ws.length cw) = DA := ⟨_, rfl⟩
  have hsA := hsz (.slice Ap ps.length cp) (.slice Aw ws.length cw)
  simp only [hDA] at h4 h6b h7b hsA
  rw [hDA]
  have H4 := Lib.hid h4
  have H5 := Lib.hid h5b
  have H6 := Lib.hid h6b
  have H7 := Lib.hid h7b
  have HSA := Lib.hid hsA
  have HSZ := Lib.hid hsz
  have b1 : (R1.toList == R1.toList) = true := beq_self_eq_true _
  have b2 : (R2 == R2) = true := beq_self_eq_true _
  clear h4 h5b h6b h7b hsA hsz h5 h6 hG hps hws hpl hwl hpd hwd hDA
  go_enter Tryd.func3, Tryd.ntmps3
  go_upto_region 1 with (first
    | ((with_reducible refine gate_dst (N := 1) rfl ?_); refine box_event ?hg (N := 1) ?hd (cs := DA) (t := 35) ?hr ?_; (case hd => rfl); (case hg => rfl); (case hr => rfl); intro g1 hg w1 hb1 hd1; clear hg; have HX := Lib.hid hb1; have HD := Lib.hid hd1; clear hb1 hd1))
  go_upto_region 2 with (first
    | ((with_reducible refine gate_ (.load 35 (.tmp 1)) rfl ?_); refine wpList_load_row rfl 35 (.tmp 1) rfl g1 rfl 35 DA (0, 0) _ HX.out Tryd.underlying35 rfl (by rw [HSA.out]; kernel_rfl) ?_)
    | (go_at_call 4; refine (H4.out _ HD.out).mono ?_; rintro e w2 ⟨A1, c1, A2, c2, rfl, hk1, hk2, hd⟩; have HK1 := Lib.hid hk1; have HK2 := Lib.hid hk2; have hX := blk_below HX.out hd; have hD := HD.out.trans (hd.mono HD.out.size); clear HX HD hd hk1 hk2; have HX := Lib.hid hX; have HD := Lib.hid hD; clear hX hD; have HW2 := Lib.hid (Below.refl w2.heap.size w2))
    | ((with_reducible refine gate_ (.store 35 (.tmp 3) (.tmp 10)) rfl ?_); refine wpl_storeA 35 (.tmp 3) (.tmp 10) rfl rfl (cs := dkA ram c mt (.slice A1 ps.length c1) (.slice A2 ws.length c2)) (blk_new _ _) (by rw [HSZ.out]; kernel_rfl) rfl rfl (by rw [HSZ.out]; kernel_rfl) (dkA_one ram c mt rfl rfl) ?_; intro w3 hR3 hk3 hb3 hs3; have HY := Lib.hid hR3; have HE := Lib.hid (hb3 _ _ (Nat.le_refl _) ((Below.refl _ w2).alloc (Nat.le_refl _) _)); clear hR3 hk3 hb3 hs3))
  obtain ⟨g3, hg3⟩ : ∃ g3, w2.heap.size = g3 := ⟨_, rfl⟩
  have hy := HY.out
  rw [hg3] at hy
  rw [hg3]
  have hx := blk_below HX.out HE.out
  have hsD := HSZ.out (.slice A1 ps.length c1) (.slice A2 ws.length c2)
  have c5 := fun W (hb : Below w2.heap.size w2 W) => H5.out A1 A2 c1 c2 w2 W HK1.out HK2.out HD.out hb
  have c7 := fun W (hb : Below w2.heap.size w2 W) => H7.out A1 A2 c1 c2 w2 W HK1.out HK2.out HD.out hb
  obtain ⟨DC, hDC⟩ : ∃ DC, dkA ram c mt (.slice A1 ps.length c1) (.slice A2 ws.length c2) = DC := ⟨_, rfl⟩
  rw [hDC] at hy hsD
  simp only [hDC] at c5 c7
  rw [hDC]
  have C5 := Lib.hid c5
  have C7 := Lib.hid c7
  have HSD := Lib.hid hsD
  clear HX HY hg3 c5 c7 hDC hsD
  have HX := Lib.hid hx
  have HY := Lib.hid hy
  clear hx hy
  have h6 := fun W (hb : Below w2.heap.size w2 W) => H6.out W (HD.out.trans (hb.mono HD.out.size))
  have C6 := Lib.hid h6
  clear h6
  go_wp2_with (first
    | ((with_reducible refine gate_ (.load 35 (.tmp 3)) rfl ?_); refine wpList_load_row rfl 35 (.tmp 3) rfl g3 rfl 35 DC (0, 0) _ HY.out Tryd.underlying35 rfl (by rw [HSD.out]; kernel_rfl) ?_)
    | ((with_reducible refine gate_ (.load 35 (.tmp 1)) rfl ?_); refine wpList_load_row rfl 35 (.tmp 1) rfl g1 rfl 35 DA (0, 0) _ HX.out Tryd.underlying35 rfl (by rw [HSA.out]; kernel_rfl) ?_)
    | (go_at_call 5; refine (C5.out _ HE.out).mono ?_; rintro e w5 ⟨rfl, hd⟩; have hx := blk_below HX.out hd; have hy := blk_below HY.out hd; have he := HE.out.trans (hd.mono HE.out.size); clear HX HY HE hd; have HX := Lib.hid hx; have HY := Lib.hid hy; have HE := Lib.hid he; clear hx hy he)
    | (go_at_call 6; refine (C6.out _ HE.out).mono ?_; rintro e w6 ⟨rfl, hd⟩; have hx := blk_below HX.out hd; have hy := blk_below HY.out hd; have he := HE.out.trans (hd.mono HE.out.size); clear HX HY HE hd; have HX := Lib.hid hx; have HY := Lib.hid hy; have HE := Lib.hid he; clear hx hy he)
    | (go_at_call 7; refine (C7.out _ HE.out).mono ?_; rintro e w7 ⟨rfl, hd⟩; have he := HE.out.trans (hd.mono HE.out.size); clear HX HY HE hd; have HE := Lib.hid he; clear he))
  go_ret
  exact ⟨rfl, HD.out.trans (HE.out.mono HD.out.size)⟩
end Go.Proofs.YtbmnifnahbehbaaDoor

/- What a deck that came in can hold; what a Cpu made proper can hold; both Prints answer alike. -/
set_option linter.unusedVariables false
namespace Go.Proofs.YtbmnifnahbehbaaDoor
open Go.RowKit Go.Lib Go.Shelf Go.Proofs.YtbmnifnahbehbaaDoorW.PrintWords Go.Proofs.YtbmnifnahbehbaaDoorW.PrintMore Go.Proofs.YtbmnifnahbehbaaDoorW.PrintLast
open PPr
theorem bits64 (op : BinOp) (a b : Int) : Ok64 (bits op .u64 a b) := by
  unfold Ok64 Go.bits
  dsimp only
  rw [IntKind.wrap_u64]
  omega
theorem bits8 (op : BinOp) (a b : Int) : Ok64 (bits op .u8 a b) := by
  unfold Ok64 Go.bits
  dsimp only
  rw [IntKind.wrap_u8]
  omega
theorem ok_of {x : Int} {op : BinOp} {a b : Int} (e : x = bits op .u64 a b) : Ok64 x := by rw [e]; exact bits64 _ _ _
theorem ok0 : Ok64 0 := by unfold Ok64; omega
structure DeckOk (c : Cp) (mt : Int) (ps : List S46) (ws : List S48) : Prop where
  x : ∀ i, i < 32 → Ok64 (c (1 + i))
  m : ∀ i, i < 12 → Ok64 (c (35 + i))
  r : Ok64 (c 80)
  mt : Ok64 mt
  p : ∀ s ∈ ps, Ok64 s.f0 ∧ Ok64 s.f1 ∧ BytesI s.f3 ∧ s.f3.length ≤ 2000000
  w : ∀ s ∈ ws, BytesI s.f3 ∧ s.f3.length ≤ 2000000
  np : ps.length ≤ 2000000
  nw : ws.length ≤ 2000000
theorem byteS_ok (v : Int) : Ok64 (byteS v) := by
  unfold byteS
  split
  · exact bits8 _ _ _
  · exact bits8 _ _ _
theorem cpu_ok {c : Cp} {mt : Int} {ps : List S46} {ws : List S48} (h : DeckOk c mt ps ws) : CpuOk (cpuS c) := by
  refine ⟨ok_of (show cpuS c 0 = bits .andNot .u64 (c 0) 1 from rfl), fun i hi => ?_, fun i hi => ?_, fun i hi => ⟨?_, ?_⟩, ?_, ?_⟩
  · by_cases h0 : i = 0
    · subst h0
      exact ok0
    · have e : cpuS c (1 + i) = c (1 + i) := by
        unfold cpuS mix upd
        rw [if_neg (by omega), if_neg (by omega), if_neg (by omega), if_neg (by omega), if_neg (by omega), if_neg (by omega), if_neg (by omega), if_neg (by omega), if_neg (by omega), if_neg (by omega), if_neg (by omega), if_neg (by omega)]
      rw [e]
      exact h.x i hi
  · match i, hi with
    | 0, _ => exact ok_of (show cpuS c 35 = bits .or .u64 (bits .or .u64 (bits .and .u64 (c 35) 2228360) (mppS (c 35))) 8589934592 from rfl)
    | 1, _ => exact ok_of (show cpuS c 36 = bits .andNot .u64 (c 36) 2 from rfl)
    | 2, _ => exact ok_of (show cpuS c 37 = bits .and .u64 (c 37) 2184 from rfl)
    | 3, _ => exact ok_of (show cpuS c 38 = bits .and .u64 (c 38) 7 from rfl)
    | 4, _ => exact ok_of (show cpuS c 39 = bits .and .u64 (c 39) 5 from rfl)
    | 5, _ => exact ok_of (show cpuS c 40 = bits .and .u64 (c 40) 1 from rfl)
    | 6, _ => exact h.m 6 (by omega)
    | 7, _ => exact ok_of (show cpuS c 42 = bits .andNot .u64 (c 42) 1 from rfl)
    | 8, _ => exact h.m 8 (by omega)
    | 9, _ => exact h.m 9 (by omega)
    | 10, _ => exact h.m 10 (by omega)
    | 11, _ => exact h.m 11 (by omega)
  · have e : cpuS c (47 + i) = byteS (c (47 + i)) := by
      unfold cpuS mix
      rw [if_neg (by omega), if_pos (by omega)]
      unfold pmpS pmpP
      rw [if_pos (by omega)]
    rw [e]
    exact byteS_ok _
  · have e : cpuS c (63 + i) = bits .and .u64 (c (63 + i)) 18014398509481983 := by
      unfold cpuS mix
      rw [if_neg (by omega), if_pos (by omega)]
      unfold pmpS pmpP
      rw [if_neg (by omega), if_pos (by omega)]
    rw [e]
    exact bits64 _ _ _
  · have e : cpuS c 80 = if resOk c then c 80 else 0 := rfl
    rw [e]
    split
    · exact h.r
    · exact ok0
  · have e : cpuS c 81 = if resOk c then c 81 else 0 := rfl
    rw [e]
    split
    · rename_i hr
      have := hr.2.1
      omega
    · omega
theorem part_ok {ram : Int} {c : Cp} {mt : Int} {ps : List S46} {ws : List S48} (h : DeckOk c mt ps ws) (hok : (validB ram ps ws && ps.all flagB) = true) : ∀ s ∈ ps, PtOk s := fun s hs => by
  obtain ⟨h0, h1, h3, _⟩ := h.p s hs
  obtain ⟨hv, hf⟩ := Bool.and_eq_true_iff.1 hok
  have hr := (valid_le hv).2.2
  unfold validB at hv
  rw [Bool.and_eq_true, Bool.and_eq_true] at hv
  have hseg := List.all_eq_true.1 hv.2.1 s hs
  unfold segB at hseg
  rw [Bool.and_eq_true] at hseg
  have hflag := of_decide_eq_true (List.all_eq_true.1 hf s hs)
  have hfit := hseg.1
  unfold fitsB at hfit
  rw [Bool.and_eq_true] at hfit
  have hsz := of_decide_eq_true hfit.1
  have hw : IntKind.u64.wrap ram = ram := u64_small (by omega) (by omega)
  rw [hw] at hsz
  have hlen := hseg.2
  unfold lenB at hlen
  have hl : ¬ (s.f1 < (s.f3.length : Int)) := by simpa using hlen
  exact ⟨h0, ⟨h1.1, by omega⟩, hflag, h3, by omega⟩
theorem world_ok {ram : Int} {c : Cp} {mt : Int} {ps : List S46} {ws : List S48} (h : DeckOk c mt ps ws) (hok : (validB ram ps ws && ps.all flagB) = true) : ∀ x ∈ ws, BytesI x.f3 ∧ x.f3.length ≤ 64 := fun x hx => by
  obtain ⟨hv, hf⟩ := Bool.and_eq_true_iff.1 hok
  unfold validB at hv
  rw [Bool.and_eq_true, Bool.and_eq_true] at hv
  exact ⟨(h.w x hx).1, of_decide_eq_true (List.all_eq_true.1 hv.2.2 x hx)⟩
/-- DeckPrints answers true. -/
theorem deck_c (ram : Int) (c : Cp) (mt : Int) (ps : List S46) (ws : List S48) (h : DeckOk c mt ps ws) (Ap Aw : Option Addr) (cp cw : Nat) (w : World) (hG : Glob w) (hps : Kd.C k46 w Ap ps.length ps) (hws : Kd.C k48 w Aw ws.length ws) :
    Calls Tryd.prog 3 #[.agg (dkA ram c mt (.slice Ap ps.length cp) (.slice Aw ws.length cw))] w fun e w' => e = .returned (.bool true) ∧ Below w.heap.size w w' := by
  by_cases hok : (validB ram ps ws && ps.all flagB) = true
  · have hr := (valid_le (Bool.and_eq_true_iff.1 hok).1).2.2
    have hr2 : 0 ≤ ram ∧ ram < 1000000 := by omega
    exact law_c ram c mt ps ws _ _ (fun A1 A2 c1 c2 W hG h1 h2 => print_c ram c mt ps ws A1 A2 c1 c2 W hG h1 h2 hok hr2 (part_ok h hok) (world_ok h hok) h.mt (cpu_ok h))
      (fun A1 A2 c1 c2 W hG h1 h2 => print2_c ram c mt ps ws A1 A2 c1 c2 W hG h1 h2 hok hr2 (part_ok h hok) (world_ok h hok) h.mt (h.m 0 (by omega)) h.r (cpu_ok h))
      Ap Aw cp cw w hG hps hws h.np h.nw (fun s hs => (h.p s hs).2.2.2) (fun s hs => (h.w s hs).2)
  · have hno : (validB ram ps ws && ps.all flagB) = false := by simpa using hok
    exact law_c ram c mt ps ws _ _ (fun A1 A2 c1 c2 W hG h1 h2 => print_no ram c mt ps ws A1 A2 c1 c2 W h1 h2 hno)
      (fun A1 A2 c1 c2 W hG h1 h2 => print2_no ram c mt ps ws A1 A2 c1 c2 W h1 h2 hno)
      Ap Aw cp cw w hG hps hws h.np h.nw (fun s hs => (h.p s hs).2.2.2) (fun s hs => (h.w s hs).2)
end Go.Proofs.YtbmnifnahbehbaaDoor
