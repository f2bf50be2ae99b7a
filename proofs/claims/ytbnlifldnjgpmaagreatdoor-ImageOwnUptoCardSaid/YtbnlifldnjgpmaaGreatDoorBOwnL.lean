/- What ImageOwn does to memory: parts of the call's own are written full and grown; all else stays. -/
import Derived.Test.YtbnlifldnjgpmaaGreatDoorBGr5
import Derived.Deep.LoopGhost
import Derived.Maps.AppendAt
import Derived.Laws.OwnMore
import Derived.ArgAppend
set_option linter.unusedVariables false
set_option linter.unusedSimpArgs false
namespace Go.Proofs.YtbnlifldnjgpmaaGreatDoorW.PrintWords
open Go.RowKit
namespace Kd
theorem R_kept {α : Type} {d : Kd α} {e base : Nat} {ok S : Nat → Prop} {W W2 : World} {v : Value} {xs : List α} (h : d.R e W base ok v xs) (hk : Kept W W2 S) (hne : ∀ k, ok k → ¬ S k) : d.R e W2 base ok v xs := R_step h (fun k ho hlt => hk.2 k hlt (hne k ho))
end Kd
theorem blk_cell {w : World} {g : Nat} {t : TypeId} {cs : Array Value} (h : w.heap[g]? = some (.cells cs t (0, 0))) (i : Nat) : w.cell? ⟨g, i, none⟩ = cs[i]? := cell_of_row w g i cs t (0, 0) h
theorem blk_frozen {w : World} {g : Nat} {t : TypeId} {cs : Array Value} (h : w.heap[g]? = some (.cells cs t (0, 0))) (i : Nat) : w.frozen? ⟨g, i, none⟩ = false := by simp [World.frozen?, h]
theorem blk_below {w w1 : World} {g : Nat} {o : Obj} (h : w.heap[g]? = some o) (hb : Below w.heap.size w w1) : w1.heap[g]? = some o := (hb.block g (blk_lt h)).trans h
theorem blk_put {w : World} {g : Nat} {t : TypeId} {cs cs' : Array Value} (h : w.heap[g]? = some (.cells cs t (0, 0))) (i : Nat) (u : Value) (e : cs.setIfInBounds i u = cs') : (w.setCell ⟨g, i, none⟩ u).heap[g]? = some (.cells cs' t (0, 0)) := e ▸ blk_set h i u
end Go.Proofs.YtbnlifldnjgpmaaGreatDoorW.PrintWords
namespace Go.Proofs.YtbnlifldnjgpmaaGreatDoor.PWri
open Go.RowKit Go.Lib Go.Proofs.YtbnlifldnjgpmaaGreatDoorW.PrintWords Go.Proofs.YtbnlifldnjgpmaaGreatDoorW.PrintLast

/-! ### a reading, with its parts' rows -/
section
variable {l : List Int} {A : Option Addr} {c : Nat}
theorem read_po (h : Bytes l) (hl : l.length ≤ 1099511627776) (hc : l.length ≤ c) {en : Int} {l1 : List Seg} {l2 : List Sym} (G : Good en l1 l2) (hr : readS l = .ok (en, l1, l2)) (w : World) (hC : Kd.C (Kd.int .u8) w A l.length l) (hG : Glob w) (hE : ErrT w) :
    Calls Tryz.prog 11 #[.slice A l.length c] w fun e w' => ∃ A1 c1 A2 c2 ps, e = .returned (.tuple #[ImgV en A1 l1.length c1 A2 l2.length c2, .nilIface]) ∧ PO w' w.heap.size (.slice A1 l1.length c1) ps ∧ ps.map (·.1) = l1 ∧ Kd.R k82 82 w' w.heap.size (fun k => w.heap.size ≤ k) (.slice A2 l2.length c2) l2 ∧ Below w.heap.size w w' := by
  refine (read_c l A c h hl hc w hC hG hE).mono ?_
  rintro e w' (⟨en', segs, syms, v1, v2, ps, qs, ys, h1, h2, h3, h4, h5, h6, h7, h8, h9, h10⟩ | ⟨at_, why, a, h1, h2, h3, h4, h5⟩)
  · rw [hr] at h1
    cases h1
    have p1 : (ps.map (·.1)).Perm l1 := h3 ▸ h4.map _
    have e1 := sorted_segs G p1 (List.pairwise_map.2 h5)
    have e2 := sorted_syms G h7 h8
    have R2 := Kd.R_mono (Kd.R_bound (R_of_ownY h9)) (ok' := fun k => w.heap.size ≤ k) (fun k hk => hk.2.1)
    rw [e2] at R2
    obtain ⟨A1, c1, rfl⟩ := PO.slice h6
    obtain ⟨A2, c2, rfl⟩ := Kd.R_slice R2
    have e3 : ps.length = l1.length := by rw [← e1, List.length_map]
    rw [e3] at h2 h6
    exact ⟨A1, c1, A2, c2, ps, h2, h6, e1, R2, h10⟩
  · rw [hr] at h1
    cases h1
end
/-! ### what stays -/
/-- Blocks that may be written: the parts', and those that are laid later. -/
def Sx (Bx By Bz : Nat) (k : Nat) : Prop := (Bx ≤ k ∧ k < By) ∨ Bz ≤ k
def Out_ (Bx By Bz : Nat) (P : World → Prop) : Prop := ∀ W W', P W → Kp W W' (Sx Bx By Bz) → P W'
theorem Out_.and {Bx By Bz : Nat} {P Q : World → Prop} (h : Out_ Bx By Bz P) (k : Out_ Bx By Bz Q) : Out_ Bx By Bz (fun W => P W ∧ Q W) := fun W W' hp hk => ⟨h W W' hp.1 hk, k W W' hp.2 hk⟩
theorem Out_.below {Bx By Bz : Nat} {P : World → Prop} (h : Out_ Bx By Bz P) {W W' : World} (hp : P W) (hb : Below W.heap.size W W') : P W' := h W W' hp (Kp.of_below hb _)
theorem kp_grown {W W' : World} {S : Nat → Prop} {row : Option Nat} (hg : W.grownBy W' row) (h : ∀ k, row = some k → S k) : Kp W W' S :=
  ⟨⟨hg.size, fun k hk hn => hg.block k hk (fun e => hn (h k e.symm))⟩, ⟨hg.os, hg.tape, hg.output, hg.size, fun k hk => by omega⟩⟩
theorem out_base {w5 : World} {Bx By Bz : Nat} (h1 : w5.heap.size ≤ Bx) (h2 : w5.heap.size ≤ Bz) : Out_ Bx By Bz (fun W => Below w5.heap.size w5 W) := fun W W' hp hk =>
  Kp.under hp hk (fun k hk => by rcases hk with h | h <;> omega) hp.size
theorem out_box {p : Nat} {o : Obj} {Bx By Bz : Nat} (h : ¬ Sx Bx By Bz p) : Out_ Bx By Bz (fun W => W.heap[p]? = some o) := fun W W' hp hk => blk_kp hp hk h
theorem out_R {α : Type} {d : Kd α} {e base : Nat} {ok : Nat → Prop} {v : Value} {xs : List α} {Bx By Bz : Nat} (h : ∀ k, ok k → ¬ Sx Bx By Bz k) : Out_ Bx By Bz (fun W => Kd.R d e W base ok v xs) := fun W W' hp hk => Kd.R_kept hp hk.1 h
/-! ### the parts -/
theorem encP_set {ps : List PV} {i : Nat} (hi : i < ps.length) {q : PV} (h : encP q = encP ps[i]) : (ps.set i q).flatMap encP = ps.flatMap encP := by
  induction ps generalizing i with
  | nil => simp at hi
  | cons a ps ih =>
    cases i with
    | zero => simp only [List.set_cons_zero, List.flatMap_cons]; rw [show encP q = encP a from h]
    | succ i => simp only [List.set_cons_succ, List.flatMap_cons]; rw [ih (by simpa using hi) (by simpa using h)]
theorem PO.at_ {W : World} {base n c : Nat} {A : Option Addr} {ps : List PV} (h : PO W base (.slice A n c) ps) {i : Nat} (hi : i < ps.length) : ∃ g, A = some ⟨g, 0, none⟩ ∧ W.cell? ⟨g, i * 4 + 3, none⟩ = some (ps[i]).2 := by
  obtain ⟨g, cap, he, _, _⟩ := h.own.form (by omega)
  injection he with h1 h2 h3
  subst h1
  refine ⟨g, rfl, ?_⟩
  have ho := h.own
  rw [h2] at ho
  rw [ho.cellAt (i * 4 + 3) (by omega)]
  haveI : Inhabited PV := ⟨(z55, .nilIface)⟩
  rw [flat_get encP 4 (fun _ => rfl) ps i 3 ps[i] (List.getElem?_eq_getElem hi) (by omega)]
  rfl
theorem PO.own_ne {W : World} {base : Nat} {v : Value} {ps : List PV} (h : PO W base v ps) {i : Nat} (hi : i < ps.length) {g : Nat} (hg : (ps[i]).2.ownBlock = some g) : some g ≠ v.ownBlock := (h.far _ (List.getElem_mem hi)).1 g hg |>.2
theorem PO.ne {W : World} {base : Nat} {v : Value} {ps : List PV} (h : PO W base v ps) {i j : Nat} (hi : i < ps.length) (hj : j < ps.length) (hij : i ≠ j) {g : Nat} (hg : (ps[i]).2.ownBlock = some g) : (ps[j]).2.ownBlock ≠ some g := by
  rcases Nat.lt_or_gt_of_ne hij with h1 | h1
  · exact List.pairwise_iff_getElem.1 h.apart i j hi hj h1 g hg
  · exact fun e => List.pairwise_iff_getElem.1 h.apart j i hj hi h1 g e hg
theorem PO.put {W : World} {base n cap g : Nat} {v : Value} {ps : List PV} (h : PO W base v ps) {i : Nat} (hi : i < ps.length) (hv : (ps[i]).2 = .slice (some ⟨g, 0, none⟩) n cap) (k x : Int) :
    PO (W.setCell ⟨g, k.toNat, none⟩ (.int .u8 x)) base v (ps.set i (⟨(ps[i]).1.f0, (ps[i]).1.f1, (ps[i]).1.f2, (ps[i]).1.f3.set k.toNat x⟩, (ps[i]).2)) := by
  have hb : (ps[i]).2.ownBlock = some g := by rw [hv]; rfl
  refine ⟨?_, fun p hp => ?_, ?_⟩
  · rw [List.length_set, encP_set (q := (⟨(ps[i]).1.f0, (ps[i]).1.f1, (ps[i]).1.f2, (ps[i]).1.f3.set k.toNat x⟩, (ps[i]).2)) hi rfl]
    exact own_setCell h.own (h.own_ne hi hb) _
  · obtain ⟨j, hj, rfl⟩ := List.getElem_of_mem hp
    rw [List.length_set] at hj
    rw [List.getElem_set]
    split
    · have hd := h.data _ (List.getElem_mem hi)
      rw [hv] at hd ⊢
      exact Kd.R_putn hd k x
    · rename_i hij
      refine Kd.R_mono (Kd.R_far (Kd.R_mono (ok' := fun k => (ps[j]).2.ownBlock = some k) (Kd.R_of_own (h1 := fun _ => rfl) (enc := Value.int .u8) (Kd.own_of_R (h.data _ (List.getElem_mem hj))) (fun k hk => hk)) (fun k hk => hk)) (p := ⟨g, k.toNat, none⟩) (fun k hk e => ?_) _) (fun _ _ => trivial)
      have e2 : k = g := e
      rw [e2] at hk
      exact h.ne hi hj hij hb hk
  · rw [List.pairwise_iff_getElem]
    intro a b ha hb2 hab
    rw [List.length_set] at ha hb2
    have e : ∀ (a : Nat) (ha : a < ps.length), ((ps.set i (⟨(ps[i]).1.f0, (ps[i]).1.f1, (ps[i]).1.f2, (ps[i]).1.f3.set k.toNat x⟩, (ps[i]).2))[a]'(by rw [List.length_set]; exact ha)).2 = (ps[a]).2 := fun a ha => by
      rw [List.getElem_set]
      split
      · rename_i h1; subst h1; rfl
      · rfl
    rw [e a ha, e b hb2]
    exact List.pairwise_iff_getElem.1 h.apart a b ha hb2 hab
theorem PO.grown {W W' : World} {base : Nat} {v : Value} {ps : List PV} (h : PO W base v ps) {row : Option Nat} (hg : W.grownBy W' row) (h1 : ∀ k, row = some k → v.ownBlock ≠ some k) (h2 : ∀ p ∈ ps, ∀ k, row = some k → p.2.ownBlock ≠ some k) : PO W' base v ps := by
  refine ⟨h.own.kept hg ?_, fun p hp => ?_, h.apart⟩
  · cases hv : v.ownBlock with
    | none => exact .inl rfl
    | some k => exact .inr (fun e => h1 k (by rw [← e]) hv)
  · exact Kd.R_mono (Kd.R_grown (Kd.R_of_own (h1 := fun _ => rfl) (enc := Value.int .u8) (Kd.own_of_R (h.data p hp)) (fun k (hk : p.2.ownBlock = some k) => hk)) hg (fun k hk e => h2 p hp k e.symm hk)) (fun _ _ => trivial)
/-! ### one byte more -/
theorem app_one {W : World} {base : Nat} {v : Value} {xs : List Int} (hR : Kd.R (Kd.int .u8) 5 W base (fun _ => True) v xs) (hbase : base ≤ W.heap.size) (hx : xs.length ≤ 1099511627776) (ad : Addr) (c : Nat) (x : Int) (hn : W.cell? ad = some (.int .u8 x)) (ty : TypeId) :
    ∃ v' W', (Builtin.append_ #[22, 22] ty #[v, .slice (some ad) 1 c]).run Tryz.prog W = .ok v' W' ∧ Kd.R (Kd.int .u8) 5 W' base (fun _ => True) v' (xs ++ [x]) ∧
      ((∃ A n cap, v = .slice A n cap ∧ v' = .slice A (n + 1) cap ∧ W.grownBy W' v.ownBlock) ∨ (W.grownBy W' none ∧ ∃ b, v'.ownBlock = some b ∧ W.heap.size ≤ b)) := by
  obtain ⟨i1, hi, hz, hsz, hby⟩ := info_parts info5
  have ho := Kd.own_of_R hR
  have hnews : ∀ j u, [Value.int .u8 x][j]? = some u → W.cell? (ad.add j) = some u := by
    intro j u hj
    cases j with
    | zero => simp only [List.getElem?_cons_zero, Option.some.injEq] at hj; subst hj; rw [show ad.add 0 = ad by simp [Addr.add]]; exact hn
    | succ j => simp at hj
  have h1 : ∀ u ∈ [Value.int .u8 x], u.oneCell' = true := fun u hu => by rw [List.mem_singleton.1 hu]; rfl
  have henc : ∀ ys : List Int, encs (Value.int .u8) ys ++ [Value.int .u8 x] = encs (Value.int .u8) (ys ++ [x]) := fun ys => by simp [encs]
  have fin : ∀ (W' : World) (v' : Value), W'.ownsRow base 5 1 v' (xs.length + 1) (encs (Value.int .u8) xs ++ [Value.int .u8 x]) → Kd.R (Kd.int .u8) 5 W' base (fun _ => True) v' (xs ++ [x]) := fun W' v' h => by
    rw [henc] at h
    exact Kd.R_of_own (h1 := fun _ => rfl) (enc := Value.int .u8) (by rw [List.length_append]; exact h) (fun _ _ => trivial)
  rcases ho.2 with ⟨hv, h0⟩ | ⟨g, cap, cur, hv, hbg, hg, hnc, hcm, hcs, htake⟩
  · obtain ⟨v', W', hr, h2, h3, h4, h5⟩ := run_append_own_at (P := Tryz.prog) W base 22 ty 5 i1 (.int .u8 0) 1 1 Tryz.underlying22 hi hz hsz hby rfl (by decide) v xs.length _ ho ad 1 c _ rfl hnews h1 (by simp only [maxLen]; omega) (by omega) hbase
    have hvn : v.ownBlock = none := by rw [hv]; rfl
    rw [hvn] at h3 h5
    refine ⟨v', W', hr, fin _ _ h2, .inr ⟨h3, ?_⟩⟩
    rcases h5 with h5 | h5
    · obtain ⟨g, cap, he, _, _⟩ := h2.form (by omega)
      rw [he] at h5
      cases h5
    · exact ⟨_, h5, Nat.le_refl _⟩
  · rcases Nat.lt_or_ge xs.length cap with hlt | hge
    · have ho2 := ho
      rw [hv] at ho2
      obtain ⟨W', hr, h2, h3⟩ := run_append_fits (P := Tryz.prog) W base 22 ty 5 i1 1 Tryz.underlying22 hi hsz g xs.length cap _ ho2 ad 1 c _ rfl hnews h1 (by omega)
      rw [hv]
      exact ⟨_, W', hr, fin _ _ h2, .inl ⟨_, _, _, rfl, rfl, h3⟩⟩
    · have hold : ∀ j u, (encs (Value.int .u8) xs)[j]? = some u → W.cell? ((⟨g, 0, none⟩ : Addr).add j) = some u := by
        intro j u hj
        have ho2 := ho
        rw [hv] at ho2
        have hjl : j < xs.length * 1 := by
          have := (List.getElem?_eq_some_iff.1 hj).1
          rw [ho.1] at this
          exact this
        have := ho2.cellAt j hjl
        rw [show (⟨g, 0, none⟩ : Addr).add j = ⟨g, j, none⟩ by simp [Addr.add]; exact fun h => h.symm, this, hj]
      obtain ⟨v', W', hr, h2, h3⟩ := run_append_arg_grows (P := Tryz.prog) W 22 ty 5 i1 (.int .u8 0) 1 1 Tryz.underlying22 hi hz hsz hby rfl (by decide) ⟨g, 0, none⟩ xs.length cap _ ho.1 hold ad 1 c _ rfl hnews (by omega) (by simp only [maxLen]; omega) (by omega)
      rw [hv]
      refine ⟨v', W', hr, fin _ _ (own_weaken h2 hbase), .inr ⟨h3, ?_⟩⟩
      obtain ⟨g2, cap2, he, hb2, _⟩ := h2.form (by omega)
      exact ⟨g2, by rw [he]; rfl, hb2⟩
end Go.Proofs.YtbnlifldnjgpmaaGreatDoor.PWri
