/- ImageOwn walked: what is handed out is nobody else's. -/
import Derived.Test.YtbnlifldnjgpmaaGreatDoorBOwnS
import Derived.Deep.DeepCutAuto
import Derived.Deep.RegionWith
set_option linter.unusedVariables false
set_option linter.unusedSimpArgs false
namespace Go.Proofs.YtbnlifldnjgpmaaGreatDoor.PWri
open Go.RowKit Go.Lib Go.Proofs.YtbnlifldnjgpmaaGreatDoorW.PrintWords Go.Proofs.YtbnlifldnjgpmaaGreatDoorW.PrintLast

theorem sample_own (w : World) : Calls Tryz.prog 21 #[] w fun en w' => ∃ B1 d1 B2 d2, en = .returned (ImgV 2147483648 B1 sl1.length d1 B2 sl2.length d2) ∧
      Kd.N k55 55 w' w.heap.size (fun k => w.heap.size ≤ k) (.slice B1 sl1.length d1) sl1 ∧ Kd.R k82 82 w' w.heap.size (fun k => w.heap.size ≤ k) (.slice B2 sl2.length d2) sl2 ∧ Below w.heap.size w w' := by
  refine (anvillaw02_sample.calls 2147483648 sl1 sl2 w rfl).mono ?_
  rintro en w' ⟨v1, v2, rfl, hN, hR, hb⟩
  have hN2 := Kd.N_mono hN (ok' := fun k => w.heap.size ≤ k) (fun k hk => hk.1)
  obtain ⟨B1, d1, rfl⟩ := Kd.N_slice hN2
  obtain ⟨B2, d2, rfl⟩ := Kd.R_slice hR
  exact ⟨B1, d1, B2, d2, rfl, hN2, hR, hb⟩
theorem box3 {W : World} {p : Nat} {a b c : Value} {T : TypeId} (h : W.heap[p]? = some (.cells #[a, b, c] T (0, 0))) (x y z : Value) : (((W.setCell ⟨p, 0, none⟩ x).setCell ⟨p, 1, none⟩ y).setCell ⟨p, 2, none⟩ z).heap[p]? = some (.cells #[x, y, z] T (0, 0)) :=
  blk_put (blk_put (blk_put h 0 x rfl) 1 y rfl) 2 z rfl
structure Base5 (w wc W : World) : Prop where
  below : Below w.heap.size w W
  glob : Glob W
  errT : ErrT W
  bc : Below wc.heap.size wc W
theorem XS.C {Bx By n c : Nat} {A : Option Addr} {ps : List PV} {W : World} {m1 : List Seg} (h : XS Bx By (.slice A n c) ps W) (hm : ps.map (·.1) = m1) : Kd.C k55 W A m1.length m1 ∧ m1.length ≤ c := by
  subst hm
  obtain ⟨a, _, b⟩ := h.po.C
  rw [List.length_map]
  exact ⟨a, b⟩
/-- A row of bytes below a size. -/
theorem still_lt {w : World} {base : Nat} {v : Value} {l : List Int} (h : Kd.R (Kd.int .u8) 5 w base (fun _ => True) v l) : Still w (fun W => Kd.R (Kd.int .u8) 5 W base (fun k => k < w.heap.size) v l ∧ w.heap.size ≤ W.heap.size) := fun W hb => ⟨Kd.R_below (Kd.R_mono (Kd.R_bound h) (fun k hk => hk.2.2.1)) hb, hb.size⟩
theorem file_first {e : Int} {l1 : List Seg} {l2 : List Sym} (hz : sizeS l1 l2 ≤ 200000) : (fileB e l1 l2).getD 0 0 = 127 := by
  obtain ⟨_, _, se, cnt, tb, tx, ti, S, _⟩ := file_shows (e := e) hz
  exact (S.magic 0 (by decide)).2
/-- Of the parts' bytes those of the first i parts, and k of the next, are written full. -/
def Fill (ps qs : List PV) (i k : Nat) : Prop := qs.length = ps.length ∧ ∀ j (h : j < ps.length) (h2 : j < qs.length), (qs[j]).2 = (ps[j]).2 ∧ (qs[j]).1.f3.length = (ps[j]).1.f3.length ∧ ∀ t, t < (ps[j]).1.f3.length → (j < i ∨ (j = i ∧ t < k)) → (qs[j]).1.f3.getD t 0 = (j : Int) + 1
theorem Fill.start (ps : List PV) : Fill ps ps 0 0 := ⟨rfl, fun j h h2 => ⟨rfl, rfl, fun t ht h => by omega⟩⟩
theorem Fill.next {ps qs : List PV} {i n : Nat} (h : Fill ps qs i n) (hi : i < ps.length) (hn : (ps[i]).1.f3.length ≤ n) : Fill ps qs (i + 1) 0 := by
  refine ⟨h.1, fun j h1 h2 => ⟨(h.2 j h1 h2).1, (h.2 j h1 h2).2.1, fun t ht hh => (h.2 j h1 h2).2.2 t ht ?_⟩⟩
  rcases Nat.lt_or_ge j i with h3 | h3
  · exact .inl h3
  · have : j = i := by omega
    subst this
    exact .inr ⟨rfl, by omega⟩
theorem Fill.put {ps qs : List PV} {i k : Nat} (h : Fill ps qs i k) (hi : i < ps.length) (hi2 : i < qs.length) : Fill ps (qs.set i (⟨(qs[i]).1.f0, (qs[i]).1.f1, (qs[i]).1.f2, (qs[i]).1.f3.set k ((i : Int) + 1)⟩, (qs[i]).2)) i (k + 1) := by
  refine ⟨by rw [List.length_set]; exact h.1, fun j h1 h2 => ?_⟩
  have h2' : j < qs.length := by rw [List.length_set] at h2; exact h2
  obtain ⟨a, b, c⟩ := h.2 j h1 h2'
  rw [List.getElem_set]
  split
  · rename_i hij
    subst hij
    refine ⟨a, by simpa using b, fun t ht hh => ?_⟩
    show ((qs[i]).1.f3.set k ((i : Int) + 1)).getD t 0 = _
    by_cases htk : k = t
    · subst htk
      rw [List.getD_eq_getElem?_getD, List.getElem?_set_self (by rw [b]; exact ht)]
      rfl
    · rw [List.getD_eq_getElem?_getD, List.getElem?_set_ne htk, ← List.getD_eq_getElem?_getD]
      exact c t ht (by omega)
  · rename_i hij
    refine ⟨a, b, fun t ht hh => c t ht ?_⟩
    rcases hh with hh | ⟨hh, _⟩
    · exact .inl hh
    · exact absurd hh.symm hij
theorem XS.put {Bx By n cap g : Nat} {vx : Value} {ps : List PV} {W : World} (h : XS Bx By vx ps W) {i : Nat} (hi : i < ps.length) (hv : (ps[i]).2 = .slice (some ⟨g, 0, none⟩) n cap) (k x : Int) :
    XS Bx By vx (ps.set i (⟨(ps[i]).1.f0, (ps[i]).1.f1, (ps[i]).1.f2, (ps[i]).1.f3.set k.toNat x⟩, (ps[i]).2)) (W.setCell ⟨g, k.toNat, none⟩ (.int .u8 x)) := by
  refine ⟨h.po.put hi hv k x, fun p hp b hb => ?_, h.limv⟩
  obtain ⟨j, hj, rfl⟩ := List.getElem_of_mem hp
  rw [List.length_set] at hj
  rw [List.getElem_set] at hb
  split at hb
  · rename_i hij; subst hij; exact h.lim _ (List.getElem_mem hi) b hb
  · exact h.lim _ (List.getElem_mem hj) b hb
/-- An append, once its run is known. -/
theorem wpList_run {Pg : Program} {ops : Array Oper} {rest : List Oper} {o : Oper} {a : Act} {Q : Exit → Act → World → Prop} {w : World} (hgd : o.guard = none) (s x : Operand) (t : TypeId) (ho : o.op = .call { callee := .builtin .append, args := #[s, x], argTypes := #[t, t] })
    {v u v' : Value} {w' : World} (hs : a.eval s = v) (hx : a.eval x = u) (hr : (Builtin.append_ #[t, t] o.type #[v, u]).run Pg w = .ok v' w') (h : wpList Pg ops Q rest (a.put o.dst v') w') : wpList Pg ops Q (o :: rest) a w := by
  refine wpList_plain hgd fun K hK => ?_
  unfold Oper.wp execOp
  simp only [ho, resolve, invoke, builtin, Sem.run_bind, Sem.run_pure, Result.andThen_ok, List.map_toArray, List.map_cons, List.map_nil, hs, hx, hr]
  exact hK _ _ h
theorem own_app {Bx By Bz : Nat} {vx vg v : Value} {ps : List PV} {gs : List Value} {cs : List (List Int)} {k : Nat} {x : Int} {W : World} {P : World → Prop} (hO : Out_ Bx By Bz P) (hP : P W) (hX : XS Bx By vx ps W) (hG : GS Bx Bz ps gs cs vg W) (hV : VS Bx Bz ps gs v (List.replicate k x) W) (hk : k ≤ 64)
    (hB : By ≤ Bz ∧ Bx ≤ Bz ∧ (∀ W, P W → Bz ≤ W.heap.size) ∧ ∀ h : gs.length < ps.length, (ps[gs.length]).1.f3.length ≤ 1048576) (ty : TypeId) :
    ∃ v' W', (Builtin.append_ #[22, 22] ty #[v, .slice (some ⟨W.heap.size, 0, none⟩) 1 1]).run Tryz.prog (W.alloc (.cells #[.int .u8 x] 5)) = .ok v' W' ∧ P W' ∧ XS Bx By vx ps W' ∧ GS Bx Bz ps gs cs vg W' ∧ VS Bx Bz ps gs v' (List.replicate (k + 1) x) W' := by
  have hb := (Below.refl W.heap.size W).alloc (Nat.le_refl _) (.cells #[.int .u8 x] 5)
  have h3 := hB.2.2.1 W hP
  have h4 := hB.2.2.2 hV.i
  obtain ⟨v', W', hr, h1, h2, h5, h6, _⟩ := own_step hO (hO.below hP hb) (hX.below hb) (hG.below hb) (hV.below hb) hB.1 (by simp; omega) hB.2.1 (by rw [List.length_replicate]; omega) ⟨W.heap.size, 0, none⟩ 1 x (blk_cell (blk_new W _) 0) ty
  exact ⟨v', W', hr, h1, h2, h5, by rw [← List.replicate_append_replicate]; exact h6⟩
theorem own_put {Bx By Bz : Nat} {vx vg v : Value} {ps : List PV} {gs : List Value} {cs : List (List Int)} {ys : List Int} {W : World} {P : World → Prop} (hO : Out_ Bx By Bz P) (hP : P W) (hX : XS Bx By vx ps W) (hG : GS Bx Bz ps gs cs vg W) (hV : VS Bx Bz ps gs v ys W)
    (hB : By ≤ Bz ∧ Bx ≤ Bz ∧ (∀ W, P W → Bz ≤ W.heap.size) ∧ ∀ h : gs.length < ps.length, (ps[gs.length]).1.f3.length ≤ 1048576) (hps : ps.length ≤ 1048576) (ty : TypeId) :
    ∃ vg' W', (Builtin.append_ #[53, 53] ty #[vg, .slice (some ⟨W.heap.size, 0, none⟩) 1 1]).run Tryz.prog (W.alloc (.cells #[v] 22)) = .ok vg' W' ∧ P W' ∧ XS Bx By vx ps W' ∧ GS Bx Bz ps (gs ++ [v]) (cs ++ [(ps[gs.length]'hV.i).1.f3 ++ ys]) vg' W' := by
  have hb := (Below.refl W.heap.size W).alloc (Nat.le_refl _) (.cells #[v] 22)
  have h3 := hB.2.2.1 W hP
  obtain ⟨vg', W', hr, h1, h2, h5, _⟩ := own_row hO (hO.below hP hb) (hX.below hb) (hG.below hb) (hV.below hb) hB.1 (by simp; omega) hps ⟨W.heap.size, 0, none⟩ 1 (blk_cell (blk_new W _) 0) ty
  exact ⟨vg', W', hr, h1, h2, h5⟩
theorem _root_.Go.World.ownsRow.cellAt' {W : World} {base g n cap : Nat} {gs : List Value} {T : TypeId} (h : W.ownsRow base T 1 (.slice (some ⟨g, 0, none⟩) n cap) gs.length gs) (i : Nat) (hi : i < gs.length) : W.cell? ⟨g, i, none⟩ = some gs[i] := by
  have hn : n = gs.length := by
    obtain ⟨g2, cap2, he, _, _⟩ := h.form (by omega)
    injection he
  subst hn
  rw [h.cellAt i (by omega), List.getElem?_eq_getElem hi]
def CsOk (ws : List PV) (cs : List (List Int)) (i : Nat) : Prop := ∀ j, j < i → ∀ h : j < ws.length, cs.getD j [] = (ws[j]).1.f3 ++ List.replicate 64 ((j : Int) + 101)
theorem CsOk.push {ws : List PV} {cs : List (List Int)} {i : Nat} (h : CsOk ws cs i) (hi : i < ws.length) (hl : cs.length = i) : CsOk ws (cs ++ [(ws[i]).1.f3 ++ List.replicate 64 ((i : Int) + 101)]) (i + 1) := by
  intro j hj h2
  rcases Nat.lt_or_ge j i with h1 | h1
  · rw [List.getD_eq_getElem?_getD, List.getElem?_append_left (by omega), ← List.getD_eq_getElem?_getD]
    exact h j h1 h2
  · have : j = i := by omega
    subst this
    have ec : ∀ Z : List Int, (cs ++ [Z]).getD j [] = Z := fun Z => by rw [← hl]; simp
    rw [ec]
theorem sl_bytes : ∀ s ∈ sl1, Bytes s.f3 := fun s hs => by rw [List.mem_singleton.1 hs]; intro x hx; revert x; decide
set_option maxHeartbeats 16000000 in
set_option maxRecDepth 1000000 in
theorem imageOwn_c {e : Int} {l1 : List Seg} {l2 : List Sym} {A1 A2 : Option Addr} {c1 c2 : Nat} (H : Small l1 l2) (N : NumsL e l1 l2) (hB : ∀ s ∈ l1, Bytes s.f3) (w : World) (hr1 : Kd.C k55 w A1 l1.length l1) (hc1 : l1.length ≤ c1) (hr2 : Kd.C k82 w A2 l2.length l2) (hc2 : l2.length ≤ c2) (hG : Glob w) (hE : ErrT w) :
    Calls Tryz.prog 8 #[ImgV e A1 l1.length c1 A2 l2.length c2] w fun en w' => en = .returned (.bool true) ∧ Below w.heap.size w w' := by
  have HW0 := Lib.hid (And.intro hG hE)
  have HD := Lib.hid (And.intro H (And.intro N hB))
  have HS := Lib.hid (((still0 w hG hE).and (still_C ⟨hr1, hc1⟩)).and (still_C ⟨hr2, hc2⟩))
  clear hG hE hr1 hc1 hr2 hc2 H N hB
  go_enter Tryz.func8, Tryz.ntmps8
  go_upto_region 1 with fail
  have hS2 := (HS.out.alloc (.cells #[.int .u64 e, .slice A1 l1.length c1, .slice A2 l2.length c2] 28)).and (still_box w _)
  clear HS; have HS := Lib.hid hS2; clear hS2
  go_upto_region 3 with (first | (go_at_call 17; refine (first_c _ HS.out.now.1.1.1.glob HS.out.now.1.1.1.errT).mono ?_; rintro e w' ⟨he, hd⟩; subst he; have hS2 := HS.out.step hd; clear HS hd; have HS := Lib.hid hS2; clear hS2))
  have g0 := blk_cell HS.out.now.2 0; have g1 := blk_cell HS.out.now.2 1; have g2 := blk_cell HS.out.now.2 2
  go_upto_if 28 with fail
  go_cut [] (fun wx => Hid (∃ (e' : Int) (l1' : List Seg) (l2' : List Sym) (A1' A2' : Option Addr) (c1' c2' : Nat), (Small l1' l2' ∧ NumsL e' l1' l2' ∧ (∀ s ∈ l1', Bytes s.f3) ∧ 0 < l1'.length) ∧ Still wx (fun W => ((Base w W ∧ (Kd.C k55 W A1' l1'.length l1' ∧ l1'.length ≤ c1')) ∧ (Kd.C k82 W A2' l2'.length l2' ∧ l2'.length ≤ c2')) ∧ W.heap[w.heap.size]? = some (.cells #[.int .u64 e', .slice A1' l1'.length c1', .slice A2' l2'.length c2'] 28))))
  case first =>
    by_cases h0 : (l1.length : Int) = 0
    · have h0b : ((l1.length : Int) == 0) = true := by simp [h0]
      have f0 := blk_frozen HS.out.now.2 0
      go_wp2_with (first
        | (go_at_call 21; refine (sample_own _).mono ?_; have hbx := Lib.hid (blk_lt HS.out.now.2); rintro e w1 ⟨B1, d1, B2, d2, he, ha, hb, hd⟩; subst he; have HQ := Lib.hid (And.intro ha hb); have hS2 := HS.out.step hd; clear HS ha hb hd; have HS := Lib.hid hS2; clear hS2; have q0 := blk_cell HS.out.now.2 0; have q1 := blk_cell HS.out.now.2 1; have q2 := blk_cell HS.out.now.2 2; have z0 := blk_frozen HS.out.now.2 0; have z1 := blk_frozen HS.out.now.2 1; have z2 := blk_frozen HS.out.now.2 2))
      go_meet
      have hbelow := ((HS.out.now.1.1.1.below.setCell (p := ⟨w.heap.size, 0, none⟩) (Nat.le_refl _) (.int .u64 2147483648)).setCell (p := ⟨w.heap.size, 1, none⟩) (Nat.le_refl _) (.slice B1 sl1.length d1)).setCell (p := ⟨w.heap.size, 2, none⟩) (Nat.le_refl _) (.slice B2 sl2.length d2)
      have hne : ∀ k, w'.heap.size ≤ k → k ≠ w.heap.size := fun k hk => by have := hbx.out; omega
      have hN := Kd.N_far (Kd.N_far (Kd.N_far HQ.out.1 (p := ⟨w.heap.size, 0, none⟩) hne (.int .u64 2147483648)) (p := ⟨w.heap.size, 1, none⟩) hne (.slice B1 sl1.length d1)) (p := ⟨w.heap.size, 2, none⟩) hne (.slice B2 sl2.length d2)
      have hR := Kd.R_far (Kd.R_far (Kd.R_far HQ.out.2 (p := ⟨w.heap.size, 0, none⟩) hne (.int .u64 2147483648)) (p := ⟨w.heap.size, 1, none⟩) hne (.slice B1 sl1.length d1)) (p := ⟨w.heap.size, 2, none⟩) hne (.slice B2 sl2.length d2)
      have hbox := box3 HS.out.now.2 (.int .u64 2147483648) (.slice B1 sl1.length d1) (.slice B2 sl2.length d2)
      obtain ⟨_, a1, a2⟩ := Kd.N_reads' hN
      obtain ⟨_, a3, a4⟩ := Kd.R_reads' hR
      exact Lib.hid ⟨2147483648, sl1, sl2, B1, B2, d1, d2, ⟨sl_small, sl_nums, sl_bytes, by decide⟩, ((((still0 w HW0.out.1 HW0.out.2).step hbelow).and (still_C ⟨a2, a1⟩)).and (still_C ⟨a4, a3⟩)).and (fun W' hb => blk_below hbox hb)⟩
    · have h0b : ((l1.length : Int) == 0) = false := beq_eq_false_iff_ne.mpr h0
      go_wp2
      go_meet
      exact Lib.hid ⟨e, l1, l2, A1, A2, c1, c2, ⟨HD.out.1, HD.out.2.1, HD.out.2.2, by omega⟩, HS.out⟩
  case rest =>
    clear HS g0 g1 g2 HD
    obtain ⟨e', m1, m2, D1, D2, k1, k2, ⟨H, N, hB, hpos⟩, hS⟩ := hcut.out
    have H5 := Lib.hid hS.now
    have hS6 : Still wc (fun W => ((Base5 w wc W ∧ (Kd.C k55 W D1 m1.length m1 ∧ m1.length ≤ k1)) ∧ (Kd.C k82 W D2 m2.length m2 ∧ m2.length ≤ k2)) ∧ W.heap[w.heap.size]? = some (.cells #[.int .u64 e', .slice D1 m1.length k1, .slice D2 m2.length k2] 28)) := fun W hb => by
      have h := hS W hb
      exact ⟨⟨⟨⟨h.1.1.1.below, h.1.1.1.glob, h.1.1.1.errT, hb⟩, h.1.1.2⟩, h.1.2⟩, h.2⟩
    have HS := Lib.hid hS6
    clear hS6
    clear hS hcut
    have CW := Lib.hid (fun A1 c1 A2 c2 w hr1 hc1 hr2 hc2 hG => write_law (e := e') (l1 := m1) (l2 := m2) (A1 := A1) (A2 := A2) (c1 := c1) (c2 := c2) H N.en.1 w hr1 hc1 hr2 hc2 hG)
    have HL2 := Lib.hid H.lsyms
    obtain ⟨cz, hcz⟩ : ∃ cz, checkS e' m1 m2 = cz := ⟨_, rfl⟩
    obtain ⟨F, hF⟩ : ∃ F, fileS e' m1 m2 = F := ⟨_, rfl⟩
    have HF := Lib.hid (And.intro hcz hF)
    rw [hcz, hF] at CW
    have HD := Lib.hid (And.intro N (And.intro hB hpos))
    clear hcz hF N hB hpos
    have g0 := blk_cell HS.out.now.2 0; have g1 := blk_cell HS.out.now.2 1; have g2 := blk_cell HS.out.now.2 2
    go_upto_region 6 with (first
      | (go_at_call 19; refine (twin_law H _ HS.out.now.1.1.2.1 HS.out.now.1.1.2.2 HS.out.now.1.2.1 HS.out.now.1.2.2).mono ?_; rintro e w' ⟨B1, d1, B2, d2, he, ha, hb, hd⟩; subst he; have hS2 := ((HS.out.step hd).and (still_C ha)).and (still_C hb); clear HS ha hb hd; have HS := Lib.hid hS2; clear hS2)
      | (go_at_call 20; refine (CW.out B1 d1 B2 d2 _ HS.out.now.1.2.1 HS.out.now.1.2.2 HS.out.now.2.1 HS.out.now.2.2 HS.out.now.1.1.1.1.1.glob).mono ?_; rintro e w6 ⟨A, cp, he, hR, hd⟩; subst he; have hS2 := ((HS.out.step hd).imp (fun W' h => h.1.1)).and (still_lt (Kd.R_lower hR HS.out.now.1.1.1.1.1.bc.size)); clear HS hR hd; have HS := Lib.hid hS2; clear hS2))
    clear g0 g1 g2
    have g0 := blk_cell HS.out.now.1.2 0
    have g1 := blk_cell HS.out.now.1.2 1
    have g2 := blk_cell HS.out.now.1.2 2
    obtain ⟨sb, hsb⟩ : ∃ sb, w6.heap.size = sb := ⟨_, rfl⟩
    rw [hsb] at HS
    go_upto_region 7 with (first
      | (go_at_call 19; refine (twin_law H _ HS.out.now.1.1.1.2.1 HS.out.now.1.1.1.2.2 HS.out.now.1.1.2.1 HS.out.now.1.1.2.2).mono ?_; rintro e w7 ⟨B1, d1, B2, d2, he, ha, hb, hd⟩; subst he; have hS2 := ((HS.out.step hd).and (still_C ha)).and (still_C hb); clear HS ha hb hd; have HS := Lib.hid hS2; clear hS2)
      | (go_at_call 20; refine (CW.out B1 d1 B2 d2 _ HS.out.now.1.2.1 HS.out.now.1.2.2 HS.out.now.2.1 HS.out.now.2.2 HS.out.now.1.1.1.1.1.1.glob).mono ?_; rintro e w8 ⟨Ac, cpc, he, hR, hd⟩; subst he; have hS2 := ((HS.out.step hd).imp (fun W' h => h.1.1)).and (still_lt (Kd.R_lower hR HS.out.now.1.1.2.2)); clear HS hR hd; have HS := Lib.hid hS2; clear hS2))
    clear g0 g1 g2 hsb
    obtain ⟨sc, hsc⟩ : ∃ sc, w8.heap.size = sc := ⟨_, rfl⟩
    rw [hsc] at HS
    clear hsc
    by_cases hch : cz = 0
    · subst hch
      obtain ⟨hz1, hz2⟩ := HF.out
      rw [file_yes hz1] at hz2
      obtain ⟨G, hsz⟩ := (check_good HD.out.1).1 hz1
      have hlen := (file_shows (e := e') hsz).1
      have hend := (file_shows (e := e') hsz).2.1
      have hge := endN_ge (64 + 56 * m1.length) m1
      have hFB : Bytes F := hz2 ▸ fileB_bytes HD.out.2.1
      have hFR : readS F = .ok (e', m1, m2) := hz2 ▸ file_back G hsz
      rw [hz2] at hlen hend
      have CP := Lib.hid (fun A c (hc : F.length ≤ c) w hC hG hE => read_po (A := A) (c := c) hFB (by omega) hc G hFR w hC hG hE)
      have CR := Lib.hid (fun A c (hc : F.length ≤ c) w hC hG hE => read_yes (A := A) (c := c) hFB (by omega) hc G hFR w hC hG hE)
      have HFL := Lib.hid (show 64 ≤ F.length ∧ F.length ≤ 200000 by omega)
      have HF7 : Hid (F.getD 0 0 = 127) := Lib.hid (hz2 ▸ file_first hsz)
      have HM1 : Hid (m1.length ≤ 16) := Lib.hid G.c1
      clear hFB hFR hlen hend hge hz1 hz2 hsz G
      go_upto_region 10 with (first
        | (go_at_call 14; refine (anvillaw02_num.calls _ _ _ rfl).mono ?_; rintro e w' ⟨he, hdd⟩; subst he; have hd := hdd.below; clear hdd; have hS2 := HS.out.step hd; clear HS hd; have HS := Lib.hid hS2; clear hS2)
        | (go_at_call 11; have hpre0 := HS.out.now.1.1.1.1.1.bc.size; have hpre := HS.out.now.1.2.2; have hpre2 := HS.out.now.2.2; refine (CP.out A cp (R_as HS.out.now.1.2.1 rfl rfl).1 _ (R_as HS.out.now.1.2.1 rfl rfl).2 HS.out.now.1.1.1.1.1.glob HS.out.now.1.1.1.1.1.errT).mono ?_; rintro e wx ⟨E1, f1, E2, f2, ps, he, hpo, hps, hsy, hd⟩; subst he; have HPO := Lib.hid (And.intro hpo (And.intro hps hsy)); have HSZ := Lib.hid (And.intro hpre (And.intro hpre2 (And.intro hd.size hpre0))); have hS2 := HS.out.step hd; clear HS hpo hps hsy hd hpre hpre2 hpre0; have HS := Lib.hid hS2; clear hS2))
      obtain ⟨hpo, hps, hsy⟩ := HPO.out
      obtain ⟨Bx, hBx⟩ : ∃ Bx, w'.heap.size = Bx := ⟨_, rfl⟩
      obtain ⟨By, hBy⟩ : ∃ By, wx.heap.size = By := ⟨_, rfl⟩
      have hx : XS Bx By (.slice E1 m1.length f1) ps wx := ⟨hBx ▸ hpo, fun p hp k hk => hBy ▸ Kd.R_lt (hpo.data p hp) k hk, fun k hk => hBy ▸ own_lt hpo.own k hk⟩
      have hS2 := (((HS.out.and (fun W hb => hx.below hb : Still wx (fun W => XS Bx By (.slice E1 m1.length f1) ps W))).and (fun W hb => Kd.R_below hsy hb : Still wx (fun W => Kd.R k82 82 W w'.heap.size (fun k => w'.heap.size ≤ k) (.slice E2 m2.length f2) m2))).alloc (.cells #[.int .u64 e', .slice E1 m1.length f1, .slice E2 m2.length f2] 28)).and (still_box wx _)
      have HPS := Lib.hid hps
      have hsz := HSZ.out
      rw [hBx, hBy] at hsz
      rw [hBy] at hS2
      have HZ := Lib.hid hsz
      clear HS HPO HSZ hpo hps hsy hx hsz
      have HS := Lib.hid hS2
      obtain ⟨wb, hwb⟩ : ∃ wb, wx.alloc (.cells #[.int .u64 e', .slice E1 m1.length f1, .slice E2 m2.length f2] 28) = wb := ⟨_, rfl⟩
      have hwbs : wb.heap.size = By + 1 := by rw [← hwb, ← hBy]; simp
      rw [hwb] at HS ⊢
      rw [hBy]
      clear hS2 hwb hBy hBx
      have HWB := Lib.hid hwbs
      clear hwbs
      go_upto_region 11 with (first
        | (go_at_call 11; refine (CR.out A cp (R_as HS.out.now.1.1.1.1.2.1 rfl rfl).1 _ (R_as HS.out.now.1.1.1.1.2.1 rfl rfl).2 HS.out.now.1.1.1.1.1.1.1.1.glob HS.out.now.1.1.1.1.1.1.1.1.errT).mono ?_; rintro e wy ⟨Y1, gy1, Y2, gy2, he, ho, hd⟩; subst he; have HY := Lib.hid hd.size; have hS2 := (HS.out.step hd).and (still_own ho); clear HS ho hd; have HS := Lib.hid hS2; clear hS2))
      have hS2 := (HS.out.alloc (.cells #[.int .u64 e', .slice Y1 m1.length gy1, .slice Y2 m2.length gy2] 28)).and (still_box wy _)
      clear HS; have HS := Lib.hid hS2; clear hS2
      obtain ⟨p9, hp9⟩ : ∃ p9, wy.heap.size = p9 := ⟨_, rfl⟩
      obtain ⟨wd, hwd⟩ : ∃ wd, wy.alloc (.cells #[.int .u64 e', .slice Y1 m1.length gy1, .slice Y2 m2.length gy2] 28) = wd := ⟨_, rfl⟩
      rw [hwd, hp9] at HS ⊢
      have hy := HY.out
      rw [hp9, HWB.out] at hy
      have HP9 := Lib.hid hy
      clear hwd hp9 HY hy
      have hS2 := HS.out.imp (fun W h => And.intro h.1.1.1.1.1.1.1.1.1.1 (And.intro h.1.1.1.1.1.1.1.1.1.2 (And.intro h.1.1.1.1.1.1.1.1.2 (And.intro h.1.1.1.1.1.1.1.2 (And.intro h.1.1.1.1.1.1.2.1 (And.intro h.1.1.1.1.1.2.1 (And.intro h.1.1.1.1.2 (And.intro h.1.1.1.2 (And.intro h.1.1.2 (And.intro h.1.2 h.2))))))))))
      clear HS; have HS := Lib.hid hS2; clear hS2
      obtain ⟨hbs, hc1, hc2, hb1, hrb, hrc, hxs, hxy, hb7, hoy, hb9⟩ := HS.out.now
      have q0 := blk_cell hb7 0
      have q1 := blk_cell hb7 1
      have q2 := blk_cell hb7 2
      have g0 := blk_cell hb1 0
      have g1 := blk_cell hb1 1
      have g2 := blk_cell hb1 2
      clear hbs hc1 hc2 hb1 hrb hrc hxs hxy hb7 hoy hb9
      go_upto_region 13 with (first
        | (go_at_call_of 16 E1; obtain ⟨hbs, hc1, hc2, hb1, hrb, hrc, hxs, hxy, hb7, hoy, hb9⟩ := HS.out.now; refine (alike_two HL2.out _ (hxs.C HPS.out) ⟨(Kd.R_reads' hxy).2.2, (Kd.R_reads' hxy).2.1⟩ hc1 hc2).mono ?_; clear hbs hc1 hc2 hb1 hrb hrc hxs hxy hb7 hoy hb9; rintro e w' ⟨he, hd⟩; subst he; have hS2 := HS.out.step hd; clear HS hd; have HS := Lib.hid hS2; clear hS2; clear q0 q1 q2 g0 g1 g2; obtain ⟨hbs, hc1, hc2, hb1, hrb, hrc, hxs, hxy, hb7, hoy, hb9⟩ := HS.out.now; have q0 := blk_cell hb9 0; have q1 := blk_cell hb9 1; have q2 := blk_cell hb9 2; have g0 := blk_cell hb1 0; have g1 := blk_cell hb1 1; have g2 := blk_cell hb1 2; clear hbs hc1 hc2 hb1 hrb hrc hxs hxy hb7 hoy hb9)
        | (go_at_call 16; obtain ⟨hbs, hc1, hc2, hb1, hrb, hrc, hxs, hxy, hb7, hoy, hb9⟩ := HS.out.now; refine (alike_two HL2.out _ hoy.c1 hoy.c2 hc1 hc2).mono ?_; clear hbs hc1 hc2 hb1 hrb hrc hxs hxy hb7 hoy hb9; rintro e w' ⟨he, hd⟩; subst he; have hS2 := HS.out.step hd; clear HS hd; have HS := Lib.hid hS2; clear hS2; clear q0 q1 q2 g0 g1 g2; obtain ⟨hbs, hc1, hc2, hb1, hrb, hrc, hxs, hxy, hb7, hoy, hb9⟩ := HS.out.now; have q0 := blk_cell hb7 0; have q1 := blk_cell hb7 1; have q2 := blk_cell hb7 2; have g0 := blk_cell hb1 0; have g1 := blk_cell hb1 1; have g2 := blk_cell hb1 2; clear hbs hc1 hc2 hb1 hrb hrc hxs hxy hb7 hoy hb9))
      obtain ⟨wz, rfl⟩ : ∃ wz, wz = w' := ⟨_, rfl⟩
      obtain ⟨hbs, hc1, hc2, hb1, hrb, hrc, hxs, hxy, hb7, hoy, hb9⟩ := HS.out.now
      have hww : w.heap.size < wc.heap.size := blk_lt H5.out.2
      have hp9z := blk_lt hb9
      obtain ⟨Bz, hBz⟩ : ∃ Bz, wz.heap.size = Bz := ⟨_, rfl⟩
      rw [hBz] at hp9z
      have hp9y := HP9.out
      obtain ⟨z1, z2, z3, z4⟩ := HZ.out
      obtain ⟨P, hPd⟩ : ∃ P : World → Prop, P = (fun W => Below wc.heap.size wc W ∧ W.heap[By]? = some (.cells #[.int .u64 e', .slice E1 m1.length f1, .slice E2 m2.length f2] 28) ∧ W.heap[p9]? = some (.cells #[.int .u64 e', .slice Y1 m1.length gy1, .slice Y2 m2.length gy2] 28) ∧
        Kd.R k55 55 W wb.heap.size (fun k => By < k ∧ k < Bz) (.slice Y1 m1.length gy1) m1 ∧ Kd.R k82 82 W wb.heap.size (fun k => By < k ∧ k < Bz) (.slice Y2 m2.length gy2) m2 ∧
        Kd.R (Kd.int .u8) 5 W wc.heap.size (fun k => k < sb) (.slice A F.length cp) F ∧ Kd.R (Kd.int .u8) 5 W sb (fun k => k < sc) (.slice Ac F.length cpc) F ∧ Bz ≤ W.heap.size) := ⟨_, rfl⟩
      have hO : Out_ Bx By Bz P := by
        rw [hPd]
        refine (out_base z4 (by omega)).and ((out_box (fun h => by rcases h with h | h <;> omega)).and ((out_box (fun h => by rcases h with h | h <;> omega)).and ((out_R (fun k hk h => by rcases h with h | h <;> omega)).and ((out_R (fun k hk h => by rcases h with h | h <;> omega)).and ((out_R (fun k hk h => by rcases h with h | h <;> omega)).and ((out_R (fun k hk h => by rcases h with h | h <;> omega)).and (fun W W' hp hk => Nat.le_trans hp hk.1.1)))))))
      have hP : P wz := by
        rw [hPd]
        have hwbs := HWB.out
        exact ⟨hbs.bc, hb7, hb9, Kd.R_mono (Kd.R_bound hoy.1) (fun k hk => ⟨by have := hk.1; omega, hBz ▸ hk.2.2.1⟩), Kd.R_mono (Kd.R_bound hoy.2) (fun k hk => ⟨by have := hk.1; omega, hBz ▸ hk.2.2.1⟩), hrb, hrc, Nat.le_of_eq hBz.symm⟩
      have HO := Lib.hid hO
      have HP := Lib.hid hP
      have HX := Lib.hid hxs
      have HPD := Lib.hid hPd
      have HBz := Lib.hid (And.intro hp9y (And.intro hp9z hww))
      have hpl : ps.length = m1.length := by rw [← HPS.out, List.length_map]
      have HPL := Lib.hid hpl
      obtain ⟨gE, hgE, hxq⟩ := hxs.po.at_ (i := 0) (by rw [hpl]; exact HD.out.2.2)
      clear hxq
      subst hgE
      clear HS hbs hc1 hc2 hb1 hrb hrc hxs hxy hb7 hoy hb9 hww hp9z hp9y z1 z2 z3 z4 hPd hO hP hBz hpl CP HWB HP9 q0 q1 q2 g0 g1 g2
      go_wp2
      go_loopg [12] m1.length (fun gm v12 wx => ∃ i : Nat, v12 = .int .i64 (i : Int) ∧ i ≤ m1.length ∧ Hid (gm + i = m1.length) ∧ Hid (∃ qs, Fill ps qs i 0 ∧ P wx ∧ XS Bx By (.slice (some ⟨gE, 0, none⟩) m1.length f1) qs wx))
      case atStart => exact ⟨0, rfl, by omega, Lib.hid (by omega), Lib.hid ⟨ps, Fill.start ps, HP.out, HX.out⟩⟩
      case round =>
        clear HP HX
        obtain ⟨i, rfl, hi, HI, HQ⟩ := hrel
        obtain ⟨qs, hfi, hP, hX⟩ := HQ.out
        have HP := Lib.hid hP
        have HX := Lib.hid hX
        have HFI := Lib.hid hfi
        have hb7 := hP
        rw [HPD.out] at hb7
        have q1 := blk_cell hb7.2.1 1
        clear HQ hP hX hfi hb7
        by_cases him : (i : Int) < (m1.length : Int)
        · obtain ⟨gm, rfl⟩ : ∃ k, gk = k + 1 := ⟨gk - 1, by have := HI.out; omega⟩
          have himb : decide ((i : Int) < (m1.length : Int)) = true := decide_eq_true him
          have him2 : i < ps.length := by rw [HPL.out]; omega
          obtain ⟨len, hlen⟩ : ∃ len, (ps[i]).1.f3.length = len := ⟨_, rfl⟩
          have HLN := Lib.hid hlen
          have hlb : len ≤ 1048576 := by
            rw [← hlen]
            exact (HD.out.1.seg (ps[i]).1 (by rw [← HPS.out]; exact List.mem_map_of_mem (List.getElem_mem him2))).2.2.2.2
          have hm16 := HM1.out
          have hi0 : (0 : Int) ≤ (i : Int) := Int.natCast_nonneg _
          clear hlen
          go_wp2
          go_loopg [13] len (fun gj v13 wx => ∃ k : Nat, v13 = .int .i64 (k : Int) ∧ k ≤ len ∧ Hid (gj + k = len) ∧ Hid (∃ qs, Fill ps qs i k ∧ P wx ∧ XS Bx By (.slice (some ⟨gE, 0, none⟩) m1.length f1) qs wx))
          case atStart => exact ⟨0, rfl, by omega, Lib.hid (by omega), Lib.hid ⟨qs, HFI.out, HP.out, HX.out⟩⟩
          case round =>
            clear HP HX HFI q1
            obtain ⟨k, rfl, hk, HK, HQ⟩ := hrel
            obtain ⟨qs, hfi, hP, hX⟩ := HQ.out
            have hq : i < qs.length := by rw [hfi.1]; exact him2
            have hd := hX.po.data _ (List.getElem_mem hq)
            obtain ⟨Ai, ci, hAi⟩ := Kd.R_slice hd
            rw [(hfi.2 i him2 hq).2.1, HLN.out] at hAi
            obtain ⟨g2, he2, hseg⟩ := hX.po.at_ hq
            injection he2 with he2
            injection he2 with he2 _ _
            subst he2
            rw [hAi] at hseg
            have HP := Lib.hid hP
            have HX := Lib.hid hX
            have HFI := Lib.hid hfi
            have HAI := Lib.hid hAi
            have hb7 := hP
            rw [HPD.out] at hb7
            have q1 := blk_cell hb7.2.1 1
            have HDT := Lib.hid hd
            clear HQ hP hX hfi hb7 hAi hd
            by_cases hkl : k < len
            · obtain ⟨gj, rfl⟩ : ∃ k, gk = k + 1 := ⟨gk - 1, by have := HK.out; omega⟩
              have hklb : decide ((k : Int) < (len : Int)) = true := decide_eq_true (by omega)
              have hlq : (qs[i]).1.f3.length = len := ((HFI.out.2 i him2 hq).2.1).trans HLN.out
              obtain ⟨gi, capi, hgi, _, _, _⟩ := Kd.R_form HDT.out (by omega)
              rw [HAI.out] at hgi
              injection hgi with hgi _ hci
              subst hgi
              have hd2 := HDT.out
              rw [HAI.out] at hd2
              obtain ⟨hcell, hfroz⟩ := Kd.R_celln 0 hd2 (k : Int) (by omega) (by omega)
              rw [Int.toNat_natCast] at hcell hfroz
              have hin := HX.out.in_ (Bz := Bz) hq (k := gi) (by rw [HAI.out]; rfl)
              have hP2 := HO.out wr (wr.setCell ⟨gi, k, none⟩ (.int .u8 ((i : Int) + 1))) HP.out ((Kp.refl wr _).setCell (p := ⟨gi, k, none⟩) (.inl hin) _)
              have hX2 := HX.out.put hq HAI.out (k : Int) ((i : Int) + 1)
              rw [Int.toNat_natCast] at hX2
              have hF2 := HFI.out.put him2 hq
              have HN := Lib.hid (And.intro hF2 (And.intro hP2 hX2))
              have E1 : IntKind.i64.wrap ((i : Int) + 1) = (i : Int) + 1 := by rw [IntKind.wrap_i64]; omega
              have E2 : IntKind.u8.wrap ((i : Int) + 1) = (i : Int) + 1 := by rw [IntKind.wrap_u8]; omega
              clear hP2 hX2 hF2 hd2 hin hlq HP HX HFI HDT
              go_wp2
              go_roundg gj
              case measure => omega
              case rel => exact ⟨k + 1, by go_num, by omega, Lib.hid (by have := HK.out; omega), Lib.hid ⟨_, HN.out⟩⟩
            · have hklb : decide ((k : Int) < (len : Int)) = false := decide_eq_false (by omega)
              go_wp2
              go_roundg gm
              case measure => omega
              case rel => exact ⟨i + 1, by go_num, by omega, Lib.hid (by have := HI.out; omega), Lib.hid ⟨qs, HFI.out.next him2 (by rw [HLN.out]; omega), HP.out, HX.out⟩⟩
        · have himb : decide ((i : Int) < (m1.length : Int)) = false := decide_eq_false him
          have hie : i = m1.length := by omega
          rw [hie] at HFI
          clear hie
          have HWS := HFI
          obtain ⟨ws, hws⟩ : ∃ ws, ws = qs := ⟨_, rfl⟩
          rw [← hws] at HX HWS
          have hwl : ws.length = m1.length := by rw [HWS.out.1, HPL.out]
          have HWL := Lib.hid hwl
          have hbz := HP.out
          rw [HPD.out] at hbz
          have hm16 := HM1.out
          clear HFI hws hwl
          go_wp2
          clear himb him HI hi
          go_loopg [11, 14] m1.length (fun gm v11 v14 wx => ∃ (vg : Value) (i : Nat) (gs : List Value) (cs : List (List Int)), vg = v11 ∧ v14 = .int .i64 (i : Int) ∧ i ≤ m1.length ∧ Hid (gm + i = m1.length) ∧ Hid (gs.length = i ∧ P wx ∧ XS Bx By (.slice (some ⟨gE, 0, none⟩) m1.length f1) ws wx ∧ GS Bx Bz ws gs cs vg wx ∧ CsOk ws cs i))
          case atStart => exact ⟨_, 0, [], [], rfl, rfl, by omega, Lib.hid (by omega), Lib.hid ⟨rfl, HP.out, HX.out, ⟨rfl, World.ownsRow_nil _ _ _ _, fun j h => absurd h (by simp), fun j h => absurd h (by simp)⟩, fun j h => absurd h (by omega)⟩⟩
          case round =>
            clear HP HX q1 hbz
            obtain ⟨vg, i, gs, cs, hvg, rfl, hi, HI, HQ⟩ := hrel
            subst hvg
            obtain ⟨hgl, hP, hX, hGS, hCS⟩ := HQ.out
            have hb7 := hP
            rw [HPD.out] at hb7
            have q1 := blk_cell hb7.2.1 1
            clear hb7
            by_cases him : (i : Int) < (m1.length : Int)
            · obtain ⟨gm, rfl⟩ : ∃ k, gk = k + 1 := ⟨gk - 1, by have := HI.out; omega⟩
              have himb : decide ((i : Int) < (m1.length : Int)) = true := decide_eq_true him
              have hq : i < ws.length := by rw [HWL.out]; omega
              have hd := hX.po.data _ (List.getElem_mem hq)
              obtain ⟨Ai, ci, hAi⟩ := Kd.R_slice hd
              obtain ⟨g2, he2, hseg⟩ := hX.po.at_ hq
              injection he2 with he2
              injection he2 with he2 _ _
              subst he2
              rw [hAi] at hseg
              have HVS : Hid (VS Bx Bz ws gs (.slice Ai (ws[i]).1.f3.length ci) [] wr) := by
                subst hgl
                refine Lib.hid ⟨hq, ?_, .inl ⟨Ai, _, ci, hAi, rfl⟩⟩
                rw [List.append_nil, ← hAi]
                exact hd
              obtain ⟨len, hlen⟩ : ∃ len, (ws[i]).1.f3.length = len := ⟨_, rfl⟩
              rw [hlen] at hseg HVS
              have HGL := Lib.hid hgl
              have HCS := Lib.hid hCS
              have HP := Lib.hid hP
              have HX := Lib.hid hX
              have HGS := Lib.hid hGS
              have hi0 : (0 : Int) ≤ (i : Int) := Int.natCast_nonneg _
              have E1 : IntKind.i64.wrap ((i : Int) + 101) = (i : Int) + 101 := by rw [IntKind.wrap_i64]; omega
              have E2 : IntKind.u8.wrap ((i : Int) + 101) = (i : Int) + 101 := by rw [IntKind.wrap_u8]; omega
              have hlb : len ≤ 1048576 := by
                rw [← hlen]
                have hip : i < ps.length := by rw [HPL.out]; omega
                have hmem : (ps[i]).1 ∈ ps.map (·.1) := List.mem_map_of_mem (List.getElem_mem hip)
                rw [HPS.out] at hmem
                rw [(HWS.out.2 i hip hq).2.1]
                exact (HD.out.1.seg _ hmem).2.2.2.2
              have HBB : Hid (By ≤ Bz ∧ Bx ≤ Bz ∧ (∀ W, P W → Bz ≤ W.heap.size) ∧ ∀ h : gs.length < ws.length, (ws[gs.length]).1.f3.length ≤ 1048576) := by
                have h1 := HZ.out
                have h2 := HBz.out
                refine Lib.hid ⟨by omega, by omega, fun W h => ?_, fun h => ?_⟩
                · rw [HPD.out] at h
                  exact h.2.2.2.2.2.2.2
                · subst hgl
                  omega
              clear HQ hP hX hGS hCS hd hAi hlen hgl
              go_wp2
              go_loopg [15, 16] 64 (fun gj v15 v16 wx => ∃ (v : Value) (k : Nat), v = v15 ∧ v16 = .int .i64 (k : Int) ∧ k ≤ 64 ∧ Hid (gj + k = 64) ∧ Hid (P wx ∧ XS Bx By (.slice (some ⟨gE, 0, none⟩) m1.length f1) ws wx ∧ GS Bx Bz ws gs cs vg wx ∧ VS Bx Bz ws gs v (List.replicate k ((i : Int) + 101)) wx))
              case atStart => exact ⟨_, 0, rfl, rfl, by omega, Lib.hid (by omega), Lib.hid ⟨HP.out, HX.out, HGS.out, HVS.out⟩⟩
              case round =>
                clear HP HX HVS q1 hseg
                obtain ⟨v, k, hvv, rfl, hk, HK, HQ⟩ := hrel
                subst hvv
                by_cases hkl : (k : Int) < 64
                · obtain ⟨gj, rfl⟩ : ∃ k, gk = k + 1 := ⟨gk - 1, by have := HK.out; omega⟩
                  have hklb : decide ((k : Int) < 64) = true := decide_eq_true hkl
                  have hk1 : (0 : Int) ≤ (k : Int) := Int.natCast_nonneg _
                  go_wp2_with (first
                    | ((with_reducible refine gate_builtin (b := .append) (xs := #[.tmp 131, .tmp 135]) rfl ?_); at_builtin; go_loud (
                        have hst := own_app HO.out HQ.out.1 HQ.out.2.1 HQ.out.2.2.1 HQ.out.2.2.2 hk HBB.out 22
                        obtain ⟨v', W', hrun, hst⟩ := hst
                        refine wpList_run rfl (.tmp 131) (.tmp 135) 22 rfl rfl rfl hrun ?_
                        have HN := Lib.hid hst
                        clear hst hrun HQ)))
                  go_roundg gj
                  case measure => omega
                  case rel => exact ⟨_, k + 1, rfl, by go_num, by omega, Lib.hid (by have := HK.out; omega), Lib.hid HN.out⟩
                · have hklb : decide ((k : Int) < 64) = false := decide_eq_false hkl
                  have hk64 : k = 64 := by omega
                  rw [hk64] at HQ
                  clear hk64 hk
                  obtain ⟨Av, cv, hv⟩ := Kd.R_slice HQ.out.2.2.2.row
                  obtain ⟨nv, hnv⟩ : ∃ nv, ((ws[gs.length]'HQ.out.2.2.2.i).1.f3 ++ List.replicate 64 ((i : Int) + 101)).length = nv := ⟨_, rfl⟩
                  rw [hnv] at hv
                  clear hnv
                  subst hv
                  have hm0 : ws.length ≤ 1048576 := by rw [HWL.out]; omega
                  go_wp2_with (first
                    | ((with_reducible refine gate_builtin (b := .append) (xs := #[.tmp 137, .tmp 139]) rfl ?_); at_builtin; go_loud (
                        have hst := own_put HO.out HQ.out.1 HQ.out.2.1 HQ.out.2.2.1 HQ.out.2.2.2 HBB.out hm0 53
                        obtain ⟨v', W', hrun, hst⟩ := hst
                        refine wpList_run rfl (.tmp 137) (.tmp 139) 53 rfl rfl rfl hrun ?_
                        have HN := Lib.hid hst
                        clear hst hrun)))
                  go_roundg gm
                  case measure => omega
                  case rel =>
                    have hgl := HGL.out
                    subst hgl
                    have hcl := HGS.out.n
                    exact ⟨_, gs.length + 1, gs ++ [_], _, rfl, by go_num, by omega, Lib.hid (by have := HI.out; omega), Lib.hid ⟨by rw [List.length_append]; rfl, HN.out.1, HN.out.2.1, HN.out.2.2, HCS.out.push hq hcl.symm⟩⟩
            · have himb : decide ((i : Int) < (m1.length : Int)) = false := decide_eq_false him
              have hie : i = m1.length := by omega
              have HP := Lib.hid hP
              have HX := Lib.hid hX
              have HGS := Lib.hid hGS
              have HCS := Lib.hid hCS
              rw [hie] at HCS
              have HGL : Hid (gs.length = m1.length) := Lib.hid (hgl.trans hie)
              clear HQ hP hX hGS hCS hgl hie
              have hpos := HD.out.2.2
              obtain ⟨gG, capG, hvg, _, _⟩ := HGS.out.own.form (by rw [HGL.out]; exact hpos)
              rw [HGL.out] at hvg
              subst hvg
              go_wp2
              clear himb him HI hi
              obtain ⟨wq, hwq⟩ : ∃ wq : World, wq = wr := ⟨_, rfl⟩
              rw [← hwq] at HP HX HGS
              go_loopg [17] m1.length (fun gm v17 wx => ∃ i : Nat, v17 = .int .i64 (i : Int) ∧ i ≤ m1.length ∧ Hid (gm + i = m1.length) ∧ Hid (wq = wx))
              case atStart => exact ⟨0, rfl, by omega, Lib.hid (by omega), Lib.hid hwq⟩
              case round =>
                obtain ⟨i, rfl, hi, HI, HQ⟩ := hrel
                have hwr := HQ.out
                clear HQ hwq
                subst hwr
                have hb7 := HP.out
                rw [HPD.out] at hb7
                have q1 := blk_cell hb7.2.1 1
                clear hb7
                have hm16 := HM1.out
                by_cases him : (i : Int) < (m1.length : Int)
                · obtain ⟨gm, rfl⟩ : ∃ k, gk = k + 1 := ⟨gk - 1, by have := HI.out; omega⟩
                  have himb : decide ((i : Int) < (m1.length : Int)) = true := decide_eq_true him
                  have hi0 : (0 : Int) ≤ (i : Int) := Int.natCast_nonneg _
                  have hq : i < ws.length := by rw [HWL.out]; omega
                  have hig : i < gs.length := by rw [HGL.out]; omega
                  obtain ⟨Ai, ci, hAi⟩ := Kd.R_slice (HX.out.po.data _ (List.getElem_mem hq))
                  obtain ⟨g2, he2, hseg⟩ := HX.out.po.at_ hq
                  injection he2 with he2
                  injection he2 with he2 _ _
                  subst he2
                  rw [hAi] at hseg
                  have hrow := HGS.out.rows i hig
                  rw [HCS.out i (by omega) hq] at hrow
                  obtain ⟨len, hlen⟩ : ∃ len, (ws[i]).1.f3.length = len := ⟨_, rfl⟩
                  have hll : ((ws[i]).1.f3 ++ List.replicate 64 ((i : Int) + 101)).length = len + 64 := by rw [List.length_append, List.length_replicate, hlen]
                  obtain ⟨gi, capi, hgi, _, _, _⟩ := Kd.R_form hrow (by rw [hll]; omega)
                  rw [hll] at hgi
                  have hcg := HGS.out.own.cellAt' i hig
                  rw [hgi] at hcg hrow
                  rw [hlen] at hseg hAi
                  have hlb : len ≤ 1048576 := by
                    have hip : i < ps.length := by rw [HPL.out]; omega
                    have hmem : (ps[i]).1 ∈ ps.map (·.1) := List.mem_map_of_mem (List.getElem_mem hip)
                    rw [HPS.out] at hmem
                    rw [← hlen, (HWS.out.2 i hip hq).2.1]
                    exact (HD.out.1.seg _ hmem).2.2.2.2
                  have E1 : IntKind.i64.wrap ((i : Int) + 1) = (i : Int) + 1 := by rw [IntKind.wrap_i64]; omega
                  have E2 : IntKind.u8.wrap ((i : Int) + 1) = (i : Int) + 1 := by rw [IntKind.wrap_u8]; omega
                  have E3 : IntKind.i64.wrap ((i : Int) + 101) = (i : Int) + 101 := by rw [IntKind.wrap_i64]; omega
                  have E4 : IntKind.u8.wrap ((i : Int) + 101) = (i : Int) + 101 := by rw [IntKind.wrap_u8]; omega
                  have HLL := Lib.hid (And.intro hlen hAi)
                  obtain ⟨nn, hnn⟩ : ∃ nn, len + 64 = nn := ⟨_, rfl⟩
                  rw [hnn] at hcg hrow hll
                  have HROW := Lib.hid (And.intro hrow (And.intro hll hnn))
                  clear hrow hll hlen hAi hgi
                  have hnl : nn ≤ 2097152 := by omega
                  clear hnn
                  go_wp2
                  go_loopg [19] nn (fun gj v19 wx => ∃ k : Nat, v19 = .int .i64 (k : Int) ∧ k ≤ nn ∧ Hid (gj + k = nn) ∧ Hid (wq = wx))
                  case atStart => exact ⟨0, rfl, by omega, Lib.hid (by omega), Lib.hid rfl⟩
                  case round =>
                    obtain ⟨k, rfl, hk, HK, HQ⟩ := hrel
                    have hwr := HQ.out
                    clear HQ
                    subst hwr
                    obtain ⟨hrow, hll, hnn⟩ := HROW.out
                    by_cases hkl : (k : Int) < (nn : Int)
                    · obtain ⟨gj, rfl⟩ : ∃ k, gk = k + 1 := ⟨gk - 1, by have := HK.out; omega⟩
                      have hklb : decide ((k : Int) < (nn : Int)) = true := decide_eq_true hkl
                      obtain ⟨hcell, _⟩ := Kd.R_celln 0 hrow (k : Int) (by omega) (by omega)
                      rw [Int.toNat_natCast] at hcell
                      by_cases hkn : (k : Int) < (len : Int)
                      · have hknb : decide ((k : Int) < (len : Int)) = true := decide_eq_true hkn
                        have hkn2 : decide ((len : Int) ≤ (k : Int)) = false := decide_eq_false (by omega)
                        have hip : i < ps.length := by rw [HPL.out]; omega
                        have hv : (ws[i]).1.f3.getD k 0 = (i : Int) + 1 := (HWS.out.2 i hip hq).2.2 k (by rw [← (HWS.out.2 i hip hq).2.1, HLL.out.1]; omega) (.inl (by omega))
                        have hv2 : rdOf 0 ((ws[i]).1.f3 ++ List.replicate 64 ((i : Int) + 101)) (k : Int) = (i : Int) + 1 := by
                          rw [← hv]
                          show List.getD _ (Int.toNat (k : Int)) 0 = _
                          rw [Int.toNat_natCast, List.getD_eq_getElem?_getD, List.getElem?_append_left (by rw [HLL.out.1]; omega), ← List.getD_eq_getElem?_getD]
                        rw [hv2] at hcell
                        have hd2 := HX.out.po.data _ (List.getElem_mem hq)
                        rw [HLL.out.2] at hd2
                        obtain ⟨gd, capd, hgd, _, _, _⟩ := Kd.R_form hd2 (by rw [HLL.out.1]; omega)
                        have hga : Ai = some ⟨gd, 0, none⟩ := by injection hgd
                        clear hgd
                        subst hga
                        obtain ⟨hcell2, _⟩ := Kd.R_celln 0 hd2 (k : Int) (by omega) (by omega)
                        have hv3 : rdOf 0 (ws[i]).1.f3 (k : Int) = (i : Int) + 1 := by
                          rw [← hv]
                          show List.getD _ (Int.toNat (k : Int)) 0 = _
                          rw [Int.toNat_natCast]
                        rw [hv3, Int.toNat_natCast] at hcell2
                        clear hv hv2 hv3 hd2 hrow hll hnn
                        have hbn : ((i : Int) + 1 != (i : Int) + 1) = false := by simp
                        go_wp2
                        go_roundg gj
                        case measure => omega
                        case rel => exact ⟨k + 1, by go_num, by omega, Lib.hid (by have := HK.out; omega), Lib.hid rfl⟩
                      · have hknb : decide ((k : Int) < (len : Int)) = false := decide_eq_false hkn
                        have hkn2 : decide ((len : Int) ≤ (k : Int)) = true := decide_eq_true (by omega)
                        have hv2 : rdOf 0 ((ws[i]).1.f3 ++ List.replicate 64 ((i : Int) + 101)) (k : Int) = (i : Int) + 101 := by
                          show List.getD _ (Int.toNat (k : Int)) 0 = _
                          rw [Int.toNat_natCast, List.getD_eq_getElem?_getD, List.getElem?_append_right (by rw [HLL.out.1]; omega), List.getElem?_replicate, if_pos (by rw [HLL.out.1]; omega)]
                          rfl
                        rw [hv2] at hcell
                        clear hv2 hrow hll hnn
                        have hbn : ((i : Int) + 101 != (i : Int) + 101) = false := by simp
                        go_wp2
                        go_roundg gj
                        case measure => omega
                        case rel => exact ⟨k + 1, by go_num, by omega, Lib.hid (by have := HK.out; omega), Lib.hid rfl⟩
                    · have hklb : decide ((k : Int) < (nn : Int)) = false := decide_eq_false hkl
                      clear hrow hll hnn
                      go_wp2
                      go_roundg gm
                      case measure => omega
                      case rel => exact ⟨i + 1, by go_num, by omega, Lib.hid (by have := HI.out; omega), Lib.hid rfl⟩
                · have himb : decide ((i : Int) < (m1.length : Int)) = false := decide_eq_false him
                  go_upto_region 39 with fail
                  clear q1
                  have hP := HP.out
                  rw [HPD.out] at hP
                  obtain ⟨hbc, hb7, hb9, hy1, hy2, hrb, hrc, hzz⟩ := hP
                  obtain ⟨⟨⟨h5b, h5c1⟩, h5c2⟩, h5x⟩ := H5.out
                  have hS2 : Still wq (fun W => Base w W ∧ Below wc.heap.size wc W ∧ W.heap[p9]? = some (.cells #[.int .u64 e', .slice Y1 m1.length gy1, .slice Y2 m2.length gy2] 28) ∧
                      Kd.R k55 55 W wb.heap.size (fun k => By < k ∧ k < Bz) (.slice Y1 m1.length gy1) m1 ∧ Kd.R k82 82 W wb.heap.size (fun k => By < k ∧ k < Bz) (.slice Y2 m2.length gy2) m2 ∧
                      Kd.R (Kd.int .u8) 5 W wc.heap.size (fun k => k < sb) (.slice A F.length cp) F ∧ Kd.R (Kd.int .u8) 5 W sb (fun k => k < sc) (.slice Ac F.length cpc) F ∧ Bz ≤ W.heap.size) := fun W hb =>
                    ⟨((still0 w HW0.out.1 HW0.out.2).step h5b.below).step hbc W hb, hbc.trans (hb.mono hbc.size), blk_below hb9 hb, Kd.R_below hy1 hb, Kd.R_below hy2 hb, Kd.R_below hrb hb, Kd.R_below hrc hb, Nat.le_trans hzz hb.size⟩
                  have HS := Lib.hid hS2
                  have HQZ := Lib.hid hzz
                  clear hS2 hbc hb7 hb9 hy1 hy2 hrb hrc hzz h5b h5c1 h5c2 h5x
                  go_upto_region 40 with (first
                    | (go_at_call 11; refine (CR.out A cp (R_as HS.out.now.2.2.2.2.2.1 rfl rfl).1 _ (R_as HS.out.now.2.2.2.2.2.1 rfl rfl).2 HS.out.now.1.glob HS.out.now.1.errT).mono ?_; rintro e wz2 ⟨Z1, gz1, Z2, gz2, he, ho, hd⟩; subst he; have HY := Lib.hid hd.size; have hS2 := (HS.out.step hd).and (still_own ho); clear HS ho hd; have HS := Lib.hid hS2; clear hS2))
                  have hS2 := (HS.out.alloc (.cells #[.int .u64 e', .slice Z1 m1.length gz1, .slice Z2 m2.length gz2] 28)).and (still_box wz2 _)
                  clear HS; have HS := Lib.hid hS2; clear hS2
                  obtain ⟨p20, hp20⟩ : ∃ p20, wz2.heap.size = p20 := ⟨_, rfl⟩
                  obtain ⟨we, hwe⟩ : ∃ we, wz2.alloc (.cells #[.int .u64 e', .slice Z1 m1.length gz1, .slice Z2 m2.length gz2] 28) = we := ⟨_, rfl⟩
                  have hwes : we.heap.size = p20 + 1 := by rw [← hwe, ← hp20]; simp
                  rw [hwe, hp20] at HS ⊢
                  have hy := HY.out
                  rw [hp20] at hy
                  have hzz := HQZ.out
                  clear hwe hp20 HY HQZ
                  obtain ⟨⟨⟨hB, hbc, hb9, hy1, hy2, hrb, hrc, _⟩, ho⟩, hb20⟩ := HS.out.now
                  have hfl := HFL.out
                  obtain ⟨gb, capb, heb, hgb1, _, _⟩ := Kd.R_form hrb (by omega)
                  injection heb with heb _ _
                  subst heb
                  have hgb2 : gb < sb := hrb.1 gb rfl
                  obtain ⟨gc, capc, hec, _, _, _⟩ := Kd.R_form hrc (by omega)
                  injection hec with hec _ _
                  subst hec
                  obtain ⟨z1, z2, z3, z4⟩ := HZ.out
                  obtain ⟨hp9y, hp9z, hww⟩ := HBz.out
                  obtain ⟨Q, hQd⟩ : ∃ Q : World → Prop, Q = (fun W => Below wc.heap.size wc W ∧ W.heap[p9]? = some (.cells #[.int .u64 e', .slice Y1 m1.length gy1, .slice Y2 m2.length gy2] 28) ∧ W.heap[p20]? = some (.cells #[.int .u64 e', .slice Z1 m1.length gz1, .slice Z2 m2.length gz2] 28) ∧
                      Kd.R k55 55 W wb.heap.size (fun k => By < k ∧ k < Bz) (.slice Y1 m1.length gy1) m1 ∧ Kd.R k82 82 W wb.heap.size (fun k => By < k ∧ k < Bz) (.slice Y2 m2.length gy2) m2 ∧
                      Kd.R k55 55 W 0 (fun k => Bz ≤ k ∧ k ≤ p20) (.slice Z1 m1.length gz1) m1 ∧ Kd.R k82 82 W 0 (fun k => Bz ≤ k ∧ k ≤ p20) (.slice Z2 m2.length gz2) m2 ∧
                      Kd.R (Kd.int .u8) 5 W sb (fun k => sb ≤ k ∧ k < sc) (.slice (some ⟨gc, 0, none⟩) F.length cpc) F) := ⟨_, rfl⟩
                  have hO2 : Out_ gb (gb + 1) (p20 + 1) Q := by
                    rw [hQd]
                    refine (out_base hgb1 (by omega)).and ((out_box (fun h => by rcases h with h | h <;> omega)).and ((out_box (fun h => by rcases h with h | h <;> omega)).and ((out_R (fun k hk h => by rcases h with h | h <;> omega)).and ((out_R (fun k hk h => by rcases h with h | h <;> omega)).and ((out_R (fun k hk h => by rcases h with h | h <;> omega)).and ((out_R (fun k hk h => by rcases h with h | h <;> omega)).and (out_R (fun k hk h => by rcases h with h | h <;> omega))))))))
                  have hQ : Q we := by
                    rw [hQd]
                    exact ⟨hbc, hb9, hb20, hy1, hy2, Kd.R_lower (Kd.R_mono (Kd.R_bound ho.1) (fun k hk => ⟨by have := hk.1; omega, by have := hk.2.2.1; omega⟩)) (Nat.zero_le _), Kd.R_lower (Kd.R_mono (Kd.R_bound ho.2) (fun k hk => ⟨by have := hk.1; omega, by have := hk.2.2.1; omega⟩)) (Nat.zero_le _), Kd.R_mono (Kd.R_bound hrc) (fun k hk => ⟨hk.2.1, hk.1⟩)⟩
                  have HO2 := Lib.hid hO2
                  have HQD := Lib.hid hQd
                  have HQ := Lib.hid (And.intro hQ hrb)
                  clear HS hB hbc hb9 hy1 hy2 hrb hrc ho hb20 z1 z2 z3 z4 hp9y hp9z hww hgb2 hgb1 hO2 hQd hQ hzz hy hwes
                  clear HP HX HGS HCS HGL HO HPD HWS
                  go_wp2
                  go_loopg [22] F.length (fun gm v22 wx => ∃ i : Nat, v22 = .int .i64 (i : Int) ∧ i ≤ F.length ∧ Hid (gm + i = F.length) ∧ Hid (Q wx ∧ ∃ l : List Int, l.length = F.length ∧ Kd.R (Kd.int .u8) 5 wx wc.heap.size (fun k => k < sb) (.slice (some ⟨gb, 0, none⟩) F.length cp) l))
                  case atStart => exact ⟨0, rfl, by omega, Lib.hid (by omega), Lib.hid ⟨HQ.out.1, F, rfl, HQ.out.2⟩⟩
                  case round =>
                    clear HQ
                    obtain ⟨i, rfl, hi, HI, HR⟩ := hrel
                    obtain ⟨hQ, l, hl, hrow⟩ := HR.out
                    by_cases him : (i : Int) < (F.length : Int)
                    · obtain ⟨gm, rfl⟩ : ∃ k, gk = k + 1 := ⟨gk - 1, by have := HI.out; omega⟩
                      have himb : decide ((i : Int) < (F.length : Int)) = true := decide_eq_true him
                      obtain ⟨hcell, hfroz⟩ := Kd.R_celln 0 hrow (i : Int) (by omega) (by omega)
                      rw [Int.toNat_natCast] at hcell hfroz
                      have hQ2 := HO2.out wr (wr.setCell ⟨gb, i, none⟩ (.int .u8 238)) hQ ((Kp.refl wr _).setCell (p := ⟨gb, i, none⟩) (.inl (.inl ⟨Nat.le_refl _, Nat.lt_succ_self _⟩)) _)
                      have hr2 := Kd.R_putn hrow (i : Int) 238
                      rw [Int.toNat_natCast] at hr2
                      have HN := Lib.hid (And.intro hQ2 hr2)
                      have HL := Lib.hid hl
                      clear hQ2 hr2 hQ hrow hl HR
                      go_wp2
                      go_roundg gm
                      case measure => omega
                      case rel => exact ⟨i + 1, by go_num, by omega, Lib.hid (by have := HI.out; omega), Lib.hid ⟨HN.out.1, _, by rw [List.length_set]; exact HL.out, HN.out.2⟩⟩
                    · have himb : decide ((i : Int) < (F.length : Int)) = false := decide_eq_false him
                      rw [HQD.out] at hQ
                      obtain ⟨hbc, hb9, hb20, hy1, hy2, hz1, hz2, hrc⟩ := hQ
                      obtain ⟨⟨⟨h5b, h5c1⟩, h5c2⟩, h5x⟩ := H5.out
                      have hfl := HFL.out
                      have hS2 : Still wr (fun W => Base w W ∧ (Kd.C k55 W D1 m1.length m1 ∧ m1.length ≤ k1) ∧ (Kd.C k82 W D2 m2.length m2 ∧ m2.length ≤ k2) ∧ (Kd.C k55 W Y1 m1.length m1 ∧ m1.length ≤ gy1) ∧ (Kd.C k82 W Y2 m2.length m2 ∧ m2.length ≤ gy2) ∧ (Kd.C k55 W Z1 m1.length m1 ∧ m1.length ≤ gz1) ∧ (Kd.C k82 W Z2 m2.length m2 ∧ m2.length ≤ gz2) ∧
                          W.heap[w.heap.size]? = some (.cells #[.int .u64 e', .slice D1 m1.length k1, .slice D2 m2.length k2] 28) ∧ W.heap[p9]? = some (.cells #[.int .u64 e', .slice Y1 m1.length gy1, .slice Y2 m2.length gy2] 28) ∧ W.heap[p20]? = some (.cells #[.int .u64 e', .slice Z1 m1.length gz1, .slice Z2 m2.length gz2] 28) ∧
                          W.cell? ⟨gc, 0, none⟩ = some (.int .u8 127)) := fun W hb => by
                        have hbc2 := hbc.trans (hb.mono hbc.size)
                        have hcc := (Kd.R_celln 0 (Kd.R_below hrc hb) 0 (by omega) (by omega)).1
                        rw [show rdOf 0 F 0 = 127 from HF7.out] at hcc
                        refine ⟨((still0 w HW0.out.1 HW0.out.2).step h5b.below).step hbc W hb, ⟨Kd.C_below h5c1.1 hbc2, h5c1.2⟩, ⟨Kd.C_below h5c2.1 hbc2, h5c2.2⟩, ?_, ?_, ?_, ?_, blk_below h5x hbc2, blk_below hb9 hb, blk_below hb20 hb, hcc⟩
                        · obtain ⟨_, a, b⟩ := Kd.R_reads' (Kd.R_below hy1 hb); exact ⟨b, a⟩
                        · obtain ⟨_, a, b⟩ := Kd.R_reads' (Kd.R_below hy2 hb); exact ⟨b, a⟩
                        · obtain ⟨_, a, b⟩ := Kd.R_reads' (Kd.R_below hz1 hb); exact ⟨b, a⟩
                        · obtain ⟨_, a, b⟩ := Kd.R_reads' (Kd.R_below hz2 hb); exact ⟨b, a⟩
                      have HS := Lib.hid hS2
                      have g0 := blk_cell hS2.now.2.2.2.2.2.2.2.1 0
                      have g1 := blk_cell hS2.now.2.2.2.2.2.2.2.1 1
                      have g2 := blk_cell hS2.now.2.2.2.2.2.2.2.1 2
                      have q0 := blk_cell hS2.now.2.2.2.2.2.2.2.2.1 0
                      have q1 := blk_cell hS2.now.2.2.2.2.2.2.2.2.1 1
                      have q2 := blk_cell hS2.now.2.2.2.2.2.2.2.2.1 2
                      clear hS2 hbc hb9 hb20 hy1 hy2 hz1 hz2 hrc h5b h5c1 h5c2 h5x hrow hl HR HI HO2 HQD
                      go_wp2_with (first
                        | (go_at_call_of 16 Y1; obtain ⟨_, hc1, hc2, hy1, hy2, _, _, _, _, _, _⟩ := HS.out.now; refine (alike_two HL2.out _ hy1 hy2 hc1 hc2).mono ?_; clear hc1 hc2 hy1 hy2; rintro e w' ⟨he, hd⟩; subst he; have hS2 := HS.out.step hd; clear HS hd; have HS := Lib.hid hS2; clear hS2; clear g0 g1 g2 q0 q1 q2; obtain ⟨_, _, _, _, _, _, _, hb1, hb9, hb20, hcc⟩ := HS.out.now; have q0 := blk_cell hb20 0; have q1 := blk_cell hb20 1; have q2 := blk_cell hb20 2; have g0 := blk_cell hb1 0; have g1 := blk_cell hb1 1; have g2 := blk_cell hb1 2; clear hb1 hb9 hb20 hcc)
                        | (go_at_call_of 16 Z1; obtain ⟨_, hc1, hc2, _, _, hz1, hz2, _, _, _, _⟩ := HS.out.now; refine (alike_two HL2.out _ hz1 hz2 hc1 hc2).mono ?_; clear hc1 hc2 hz1 hz2; rintro e w' ⟨he, hd⟩; subst he; have hS2 := HS.out.step hd; clear HS hd; have HS := Lib.hid hS2; clear hS2; clear g0 g1 g2 q0 q1 q2)
                        | (go_at_call 14; refine (anvillaw02_num.calls _ _ _ rfl).mono ?_; rintro e w' ⟨he, hdd⟩; subst he; have hd := hdd.below; clear hdd; have hS2 := HS.out.step hd; clear HS hd; have HS := Lib.hid hS2; clear hS2; obtain ⟨_, _, _, _, _, _, _, _, _, _, hcc⟩ := HS.out.now))
                      go_ret
                      exact ⟨rfl, HS.out.now.1.below⟩
    · have hb1 : (cz != 0) = true := bne_iff_ne.mpr hch
      have hb2 : (cz == 0) = false := beq_eq_false_iff_ne.mpr hch
      go_wp2_with (first | (go_at_call 14; refine (anvillaw02_num.calls _ _ _ rfl).mono ?_; rintro e w' ⟨he, hdd⟩; subst he; have hd := hdd.below; clear hdd; have hS2 := HS.out.step hd; clear HS hd; have HS := Lib.hid hS2; clear hS2))
      go_ret
      exact ⟨rfl, HS.out.now.1.1.1.1.1.below⟩
end Go.Proofs.YtbnlifldnjgpmaaGreatDoor.PWri
