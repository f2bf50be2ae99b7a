/- The parts' rows and what is grown from them: one byte more, one row more. -/
import Derived.Test.YtbnlifldnjgpmaaGreatDoorBOwnL
set_option linter.unusedVariables false
set_option linter.unusedSimpArgs false
namespace Go.Proofs.YtbnlifldnjgpmaaGreatDoor.PWri
open Go.RowKit Go.Lib Go.Proofs.YtbnlifldnjgpmaaGreatDoorW.PrintWords Go.Proofs.YtbnlifldnjgpmaaGreatDoorW.PrintLast

theorem own_same (A : Option Addr) (n m c d : Nat) : (Value.slice A n c).ownBlock = (Value.slice A m d).ownBlock := by cases A <;> rfl
structure XS (Bx By : Nat) (vx : Value) (ps : List PV) (W : World) : Prop where
  po : PO W Bx vx ps
  lim : ∀ p ∈ ps, ∀ k, p.2.ownBlock = some k → k < By
  limv : ∀ k, vx.ownBlock = some k → k < By
theorem XS.in_ {Bx By Bz : Nat} {vx : Value} {ps : List PV} {W : World} (h : XS Bx By vx ps W) {i : Nat} (hi : i < ps.length) {k : Nat} (hk : (ps[i]).2.ownBlock = some k) : Sx Bx By Bz k :=
  .inl ⟨Kd.R_base (h.po.data _ (List.getElem_mem hi)) k hk, h.lim _ (List.getElem_mem hi) k hk⟩
theorem XS.below {Bx By : Nat} {vx : Value} {ps : List PV} {W W' : World} (h : XS Bx By vx ps W) (hb : Below W.heap.size W W') : XS Bx By vx ps W' := ⟨h.po.below hb, h.lim, h.limv⟩
abbrev Row8 (W : World) (Bx : Nat) (v : Value) (xs : List Int) : Prop := Kd.R (Kd.int .u8) 5 W Bx (fun _ => True) v xs
theorem Row8.grown {W W' : World} {Bx : Nat} {v : Value} {xs : List Int} (h : Row8 W Bx v xs) {row : Option Nat} (hg : W.grownBy W' row) (hn : ∀ k, row = some k → v.ownBlock ≠ some k) : Row8 W' Bx v xs :=
  Kd.R_mono (Kd.R_grown (Kd.R_of_own (h1 := fun _ => rfl) (enc := Value.int .u8) (Kd.own_of_R h) (fun k (hk : v.ownBlock = some k) => hk)) hg (fun k hk e => hn k e.symm hk)) (fun _ _ => trivial)
structure GS (Bx Bz : Nat) (ps : List PV) (gs : List Value) (cs : List (List Int)) (vg : Value) (W : World) : Prop where
  n : gs.length = cs.length
  own : W.ownsRow Bz 22 1 vg gs.length gs
  rows : ∀ j (h : j < gs.length), Row8 W Bx gs[j] (cs.getD j [])
  blk : ∀ j (h : j < gs.length) b, gs[j].ownBlock = some b → (∃ h2 : j < ps.length, (ps[j]).2.ownBlock = some b) ∨ Bz ≤ b
theorem GS.below {Bx Bz : Nat} {ps : List PV} {gs : List Value} {cs : List (List Int)} {vg : Value} {W W' : World} (h : GS Bx Bz ps gs cs vg W) (hb : Below W.heap.size W W') : GS Bx Bz ps gs cs vg W' :=
  ⟨h.n, pw_own_below h.own hb, fun j hj => Kd.R_below (h.rows j hj) hb, h.blk⟩
theorem typed_ne {W : World} {k : Nat} {t1 t2 : TypeId} (h1 : ∃ cells, W.heap[k]? = some (.cells cells t1 (0, 0))) (h2 : ∃ cells, W.heap[k]? = some (.cells cells t2 (0, 0))) (hne : t1 ≠ t2) : False := by
  obtain ⟨_, h1⟩ := h1
  obtain ⟨_, h2⟩ := h2
  rw [h1] at h2
  injection h2 with h2
  injection h2 with _ h3
  exact hne h3
/-- What the row v, grown from part number i, is. -/
structure VS (Bx Bz : Nat) (ps : List PV) (gs : List Value) (v : Value) (ys : List Int) (W : World) : Prop where
  i : gs.length < ps.length
  row : Row8 W Bx v ((ps[gs.length]).1.f3 ++ ys)
  at_ : (∃ A n cap, (ps[gs.length]).2 = .slice A n cap ∧ v = .slice A (n + ys.length) cap) ∨ (∃ b, v.ownBlock = some b ∧ Bz ≤ b ∧ ∀ j (h : j < gs.length), gs[j].ownBlock ≠ some b)
theorem VS.below {Bx Bz : Nat} {ps : List PV} {gs : List Value} {v : Value} {ys : List Int} {W W' : World} (h : VS Bx Bz ps gs v ys W) (hb : Below W.heap.size W W') : VS Bx Bz ps gs v ys W' := ⟨h.i, Kd.R_below h.row hb, h.at_⟩
section
variable {Bx By Bz : Nat} {vx vg v : Value} {ps : List PV} {gs : List Value} {cs : List (List Int)} {ys : List Int} {W : World} {P : World → Prop}
theorem own_step (hO : Out_ Bx By Bz P) (hP : P W) (hX : XS Bx By vx ps W) (hG : GS Bx Bz ps gs cs vg W) (hV : VS Bx Bz ps gs v ys W) (hBy : By ≤ Bz) (hz : Bz ≤ W.heap.size) (hBx : Bx ≤ Bz) (hl : (ps[gs.length]'hV.i).1.f3.length + ys.length ≤ 1099511627776)
    (ad : Addr) (c : Nat) (x : Int) (hn : W.cell? ad = some (.int .u8 x)) (ty : TypeId) :
    ∃ v' W', (Builtin.append_ #[22, 22] ty #[v, .slice (some ad) 1 c]).run Tryz.prog W = .ok v' W' ∧ P W' ∧ XS Bx By vx ps W' ∧ GS Bx Bz ps gs cs vg W' ∧ VS Bx Bz ps gs v' (ys ++ [x]) W' ∧ W.heap.size ≤ W'.heap.size := by
  have hi := hV.i
  obtain ⟨v', W', hr, hR, hc⟩ := app_one hV.row (by omega) (by rw [List.length_append]; exact hl) ad c x hn ty
  refine ⟨v', W', hr, ?_⟩
  rw [List.append_assoc] at hR
  rcases hc with ⟨A, n, cap, e1, e2, hg⟩ | ⟨hg, b, hb, hbl⟩
  · -- in place
    have hvS : ∀ k, v.ownBlock = some k → Sx Bx By Bz k := fun k hk => by
      rcases hV.at_ with ⟨A0, n0, cap0, h1, h2⟩ | ⟨b, h1, h2, _⟩
      · exact hX.in_ hi (by rw [h1]; rw [h2] at hk; exact (own_same _ _ _ _ _).trans hk)
      · rw [h1] at hk; cases hk; exact .inr h2
    have hvt : ∀ k, v.ownBlock = some k → ∃ cells, W.heap[k]? = some (.cells cells 5 (0, 0)) := Kd.R_typed hV.row
    have hvx : ∀ k, v.ownBlock = some k → vx.ownBlock ≠ some k := fun k hk e => typed_ne (hvt k hk) (own_typed hX.po.own k e) (by decide)
    have hpj : ∀ j (hj : j < ps.length), j ≠ gs.length → ∀ k, v.ownBlock = some k → (ps[j]).2.ownBlock ≠ some k := fun j hj hne k hk e => by
      rcases hV.at_ with ⟨A0, n0, cap0, h1, h2⟩ | ⟨b, h1, h2, _⟩
      · exact hX.po.ne hi hj (Ne.symm hne) (g := k) (by rw [h1]; rw [h2] at hk; exact (own_same _ _ _ _ _).trans hk) e
      · rw [h1] at hk; cases hk
        have := hX.lim _ (List.getElem_mem hj) _ e
        omega
    have hdi : Row8 W' Bx (ps[gs.length]).2 (ps[gs.length]).1.f3 := by
      rcases hV.at_ with ⟨A0, n0, cap0, h1, h2⟩ | ⟨b, h1, h2, _⟩
      · rw [h2] at e1
        injection e1 with a1 a2 a3
        subst a1 a3
        rw [e2] at hR
        have hn0 : n0 = (ps[gs.length]).1.f3.length := by
          have hd := hX.po.data _ (List.getElem_mem hi)
          rw [h1] at hd
          exact (Kd.R_reads' hd).1
        have ht := Kd.R_take hR (m := n0) (by rw [List.length_append]; omega)
        rw [h1]
        rw [hn0, List.take_left] at ht
        rw [hn0]
        exact ht
      · refine Row8.grown (hX.po.data _ (List.getElem_mem hi)) hg (fun k hk e => ?_)
        rw [h1] at hk; cases hk
        have := hX.lim _ (List.getElem_mem hi) _ e
        omega
    have hgj : ∀ j (hj : j < gs.length) k, v.ownBlock = some k → gs[j].ownBlock ≠ some k := fun j hj k hk e => by
      rcases hV.at_ with ⟨A0, n0, cap0, h1, h2⟩ | ⟨b, h1, h2, h3⟩
      · have hk2 : (ps[gs.length]).2.ownBlock = some k := by rw [h1]; rw [h2] at hk; exact (own_same _ _ _ _ _).trans hk
        rcases hG.blk j hj k e with ⟨hj2, h4⟩ | h4
        · exact hX.po.ne hi hj2 (by omega) hk2 h4
        · have := hX.lim _ (List.getElem_mem hi) _ hk2
          omega
      · rw [h1] at hk; cases hk
        exact h3 j hj e
    refine ⟨hO W W' hP (kp_grown hg hvS), ⟨⟨hX.po.own.kept hg ?_, fun p hp => ?_, hX.po.apart⟩, hX.lim, hX.limv⟩, ⟨hG.n, hG.own.kept hg ?_, fun j hj => Row8.grown (hG.rows j hj) hg (hgj j hj), hG.blk⟩, ⟨hi, hR, ?_⟩, hg.size⟩
    · cases hv : vx.ownBlock with
      | none => exact .inl rfl
      | some k => exact .inr (fun e => hvx k e.symm hv)
    · obtain ⟨j, hj, rfl⟩ := List.getElem_of_mem hp
      by_cases hji : j = gs.length
      · subst hji; exact hdi
      · exact Row8.grown (hX.po.data _ hp) hg (hpj j hj hji)
    · cases hv : vg.ownBlock with
      | none => exact .inl rfl
      | some k => exact .inr (fun e => typed_ne (hvt k e.symm) (own_typed hG.own k hv) (by decide))
    · rcases hV.at_ with ⟨A0, n0, cap0, h1, h2⟩ | ⟨b, h1, h2, h3⟩
      · rw [h2] at e1
        injection e1 with a1 a2 a3
        subst a1 a3
        exact .inl ⟨_, n0, _, h1, by rw [e2, List.length_append, ← a2, List.length_singleton, Nat.add_assoc]⟩
      · refine .inr ⟨b, ?_, h2, h3⟩
        rw [e2, ← h1, e1]
        exact own_same _ _ _ _ _
  · have hB : Below W.heap.size W W' := ⟨hg.os, hg.tape, hg.output, hg.size, fun i hi => hg.block i hi (by simp)⟩
    refine ⟨hO.below hP hB, hX.below hB, hG.below hB, ⟨hi, hR, .inr ⟨b, hb, by omega, fun j hj e => ?_⟩⟩, hg.size⟩
    have := Kd.R_lt (hG.rows j hj) b e
    omega
theorem info_row : (Tryz.prog.info? 22).map (fun i => (i.zero, i.size, i.bytes)) = some (some (.slice none 0 0), 1, 24) := by kernel_rfl
/-- The grown row is put behind the others. -/
theorem own_row (hO : Out_ Bx By Bz P) (hP : P W) (hX : XS Bx By vx ps W) (hG : GS Bx Bz ps gs cs vg W) (hV : VS Bx Bz ps gs v ys W) (hBy : By ≤ Bz) (hz : Bz ≤ W.heap.size) (hps : ps.length ≤ 1048576)
    (ad : Addr) (c : Nat) (hn : W.cell? ad = some v) (ty : TypeId) :
    ∃ vg' W', (Builtin.append_ #[53, 53] ty #[vg, .slice (some ad) 1 c]).run Tryz.prog W = .ok vg' W' ∧ P W' ∧ XS Bx By vx ps W' ∧ GS Bx Bz ps (gs ++ [v]) (cs ++ [(ps[gs.length]'hV.i).1.f3 ++ ys]) vg' W' ∧ W.heap.size ≤ W'.heap.size := by
  have hi := hV.i
  obtain ⟨i1, hi1, hzz⟩ := Option.map_eq_some_iff.1 info_row
  simp only [Prod.mk.injEq] at hzz
  obtain ⟨hz0, hz1, hz2⟩ := hzz
  have hv1 : v.oneCell' = true := by
    obtain ⟨A, c, e⟩ := Kd.R_slice hV.row
    rw [e]; rfl
  have hnews : ∀ j u, [v][j]? = some u → W.cell? (ad.add j) = some u := by
    intro j u hj
    cases j with
    | zero => simp only [List.getElem?_cons_zero, Option.some.injEq] at hj; subst hj; rw [show ad.add 0 = ad by simp [Addr.add]]; exact hn
    | succ j => simp at hj
  obtain ⟨vg', W', hr, h2, hg, h4, h5⟩ := run_append_own_at (P := Tryz.prog) W Bz 53 ty 22 i1 (.slice none 0 0) 1 24 Tryz.underlying53 hi1 hz0 hz1 hz2 rfl (by decide) vg gs.length gs hG.own ad 1 c [v] rfl hnews (fun u hu => by rw [List.mem_singleton.1 hu]; exact hv1) (by simp only [maxLen]; omega) (by omega) hz
  have hvt : ∀ k, vg.ownBlock = some k → ∃ cells, W.heap[k]? = some (.cells cells 22 (0, 0)) := own_typed hG.own
  have h8 : ∀ {u : Value} {xs : List Int}, Row8 W Bx u xs → Row8 W' Bx u xs := fun h => Row8.grown h hg (fun k hk e => typed_ne (hvt k hk) (Kd.R_typed h k e) (by decide))
  refine ⟨vg', W', hr, hO W W' hP (kp_grown hg (fun k hk => .inr (own_base hG.own k hk))), ⟨⟨hX.po.own.kept hg ?_, fun p hp => h8 (hX.po.data p hp), hX.po.apart⟩, hX.lim, hX.limv⟩, ⟨?_, ?_, fun j hj => ?_, fun j hj b hb => ?_⟩, hg.size⟩
  · cases hv : vx.ownBlock with
    | none => exact .inl rfl
    | some k => exact .inr (fun e => typed_ne (hvt k e.symm) (own_typed hX.po.own k hv) (by decide))
  · have := hG.n
    simp only [List.length_append, List.length_singleton]
    omega
  · rw [List.length_append]
    exact h2
  · rw [List.length_append, List.length_singleton] at hj
    by_cases hjl : j < gs.length
    · rw [List.getElem_append_left hjl, List.getD_eq_getElem?_getD, List.getElem?_append_left (by rw [← hG.n]; exact hjl), ← List.getD_eq_getElem?_getD]
      exact h8 (hG.rows j hjl)
    · have : j = gs.length := by omega
      subst this
      have ec : ∀ Z : List Int, (cs ++ [Z]).getD gs.length [] = Z := fun Z => by rw [hG.n]; simp
      have eg : (gs ++ [v])[gs.length]'(by rw [List.length_append, List.length_singleton]; omega) = v := by simp
      rw [ec, eg]
      exact h8 hV.row
  · rw [List.length_append, List.length_singleton] at hj
    by_cases hjl : j < gs.length
    · rw [List.getElem_append_left hjl] at hb
      exact hG.blk j hjl b hb
    · have : j = gs.length := by omega
      subst this
      have eg : (gs ++ [v])[gs.length]'(by rw [List.length_append, List.length_singleton]; omega) = v := by simp
      rw [eg] at hb
      rcases hV.at_ with ⟨A0, n0, cap0, h1, h3⟩ | ⟨b2, h1, h3, _⟩
      · exact .inl ⟨hi, by rw [h1]; rw [h3] at hb; exact (own_same _ _ _ _ _).trans hb⟩
      · rw [h1] at hb; cases hb; exact .inr h3
end
end Go.Proofs.YtbnlifldnjgpmaaGreatDoor.PWri
