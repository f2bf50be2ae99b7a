/- Two ways to read an expression: by the marks' strength (asm), by levels (anvilref08): one tree, or one fault. -/
import Derived.Ground.NamesProg
import Derived.Shelf.Unicode.DecodeAny
import Derived.Shelf.Unicode.PredsPay
import Derived.Shelf.Small.Strs
import Derived.Shelf.Strconv.ParseUint10b64
import Derived.Shelf.Strconv.ToError
import Derived.Shelf.Strconv.ToErrorRange
import Derived.Shelf.Strconv.Lower
import Derived.Shelf.Small.Wraps
import Derived.Test.YtbmnifnahbehbaaGreatDoorProg
namespace Go.Proofs.YtbmnifnahbehbaaGreatDoor.AvP
/-- A token, kinds as asm numbers them: 0 name, 1 number, 2 back, 3 forward, 4 character, 5 text, 6 mark. -/
structure Tok where
  k : Int
  a : Int
  e : Int
  t : ByteArray
  v : Int
  d : Bool
inductive Ex where
  | leaf (t : Tok)
  | un (t : Tok) (e : Ex)
  | bin (t : Tok) (l r : Ex)
abbrev Res := Except (Int × Int) (Ex × Nat)
/-- The strength of a mark between operands; 0: none. -/
def str (t : Tok) : Nat :=
  if t.k = 6 then
    (if t.t = ⟨#[124]⟩ then 1 else if t.t = ⟨#[94]⟩ then 2 else if t.t = ⟨#[38]⟩ then 3 else if t.t = ⟨#[60, 60]⟩ ∨ t.t = ⟨#[62, 62]⟩ then 4 else if t.t = ⟨#[43]⟩ ∨ t.t = ⟨#[45]⟩ then 5 else if t.t = ⟨#[42]⟩ ∨ t.t = ⟨#[47]⟩ ∨ t.t = ⟨#[37]⟩ then 6 else 0)
  else 0
theorem str_le (t : Tok) : str t ≤ 6 := by
  unfold str
  repeat' split
  all_goals omega
def isM (t : Tok) (m : ByteArray) : Bool := decide (t.k = 6) && decide (t.t = m)
def sign (t : Tok) : Bool := isM t ⟨#[45]⟩ || isM t ⟨#[43]⟩ || isM t ⟨#[126]⟩
/-- The place of a fault of form: at the token i, or behind the last one. -/
def here (l : List Tok) (i : Nat) : Int :=
  match l[i]? with
  | some t => t.a
  | none => match l.getLast? with
    | some t => t.e
    | none => 0
def closes (l : List Tok) (i : Nat) : Bool :=
  match l[i]? with
  | some t => isM t ⟨#[41]⟩
  | none => false
def bindR (o : Option Res) (f : Ex → Nat → Option Res) : Option Res :=
  match o with
  | none => none
  | some (.error x) => some (.error x)
  | some (.ok (e, j)) => f e j
/-- What is asked: an operand; an expression of level k or more; what follows a left side. -/
inductive Qy where
  | op (i d : Nat)
  | lv (k i d : Nat)
  | lp (k : Nat) (e : Ex) (i d : Nat)
/-- By strength. -/
def pA (l : List Tok) : Nat → Qy → Option Res
  | 0, _ => none
  | n + 1, .op i d =>
    match l[i]? with
    | none => some (.error (here l i, 83))
    | some t =>
      if sign t then bindR (pA l n (.op (i + 1) d)) fun e j => some (.ok (.un t e, j))
      else if isM t ⟨#[40]⟩ then
        (if 30 ≤ d then some (.error (t.a, 6))
         else bindR (pA l n (.lv 0 (i + 1) (d + 1))) fun e j => if closes l j then some (.ok (e, j + 1)) else some (.error (here l j, 83)))
      else if t.k = 6 ∨ t.k = 5 then some (.error (t.a, 83))
      else some (.ok (.leaf t, i + 1))
  | n + 1, .lv k i d => bindR (pA l n (.op i d)) fun e j => pA l n (.lp k e j d)
  | n + 1, .lp k e i d =>
    match l[i]? with
    | none => some (.ok (e, i))
    | some t => if str t ≤ k then some (.ok (e, i)) else bindR (pA l n (.lv (str t) (i + 1) d)) fun r j => pA l n (.lp k (.bin t e r) j d)
/-- By levels. -/
def pD (l : List Tok) : Nat → Qy → Option Res
  | 0, _ => none
  | n + 1, .op i d =>
    match l[i]? with
    | none => some (.error (here l i, 83))
    | some t =>
      if sign t then bindR (pD l n (.op (i + 1) d)) fun e j => some (.ok (.un t e, j))
      else if isM t ⟨#[40]⟩ then
        (if 30 ≤ d then some (.error (t.a, 6))
         else bindR (pD l n (.lv 0 (i + 1) (d + 1))) fun e j => if closes l j then some (.ok (e, j + 1)) else some (.error (here l j, 83)))
      else if t.k = 6 ∨ t.k = 5 then some (.error (t.a, 83))
      else some (.ok (.leaf t, i + 1))
  | n + 1, .lv k i d => if k = 6 then pD l n (.op i d) else bindR (pD l n (.lv (k + 1) i d)) fun e j => pD l n (.lp k e j d)
  | n + 1, .lp k e i d =>
    match l[i]? with
    | none => some (.ok (e, i))
    | some t => if str t = k + 1 then bindR (pD l n (.lv (k + 1) (i + 1) d)) fun r j => pD l n (.lp k (.bin t e r) j d) else some (.ok (e, i))
theorem bindR_mono {o o' : Option Res} {f g : Ex → Nat → Option Res} {r : Res} (ho : ∀ x, o = some x → o' = some x) (hf : ∀ e j x, f e j = some x → g e j = some x) (h : bindR o f = some r) : bindR o' g = some r := by
  match o, h with
  | none, h => cases h
  | some (.error x), h =>
    rw [ho _ rfl]
    exact h
  | some (.ok (e, j)), h =>
    rw [ho _ rfl]
    exact hf e j r h
theorem pA_mono (l : List Tok) : ∀ n q r, pA l n q = some r → pA l (n + 1) q = some r
  | 0, q, r, h => by simp [pA] at h
  | n + 1, .op i d, r, h => by
    have ih := pA_mono l n
    rw [pA] at h ⊢
    match hl : l[i]? with
    | none => rw [hl] at h; exact h
    | some t =>
      rw [hl] at h
      dsimp only at h ⊢
      split at h
      · rw [if_pos (by assumption)]
        exact bindR_mono (ih _) (fun _ _ _ h => h) h
      · rw [if_neg (by assumption)]
        split at h
        · rw [if_pos (by assumption)]
          split at h
          · rw [if_pos (by assumption)]; exact h
          · rw [if_neg (by assumption)]
            exact bindR_mono (ih _) (fun _ _ _ h => h) h
        · rw [if_neg (by assumption)]
          exact h
  | n + 1, .lv k i d, r, h => by
    have ih := pA_mono l n
    rw [pA] at h ⊢
    exact bindR_mono (ih _) (fun _ _ => ih _) h
  | n + 1, .lp k e i d, r, h => by
    have ih := pA_mono l n
    rw [pA] at h ⊢
    match hl : l[i]? with
    | none => rw [hl] at h; exact h
    | some t =>
      rw [hl] at h
      dsimp only at h ⊢
      split at h
      · rw [if_pos (by assumption)]; exact h
      · rw [if_neg (by assumption)]
        exact bindR_mono (ih _) (fun _ _ => ih _) h
theorem pD_mono (l : List Tok) : ∀ n q r, pD l n q = some r → pD l (n + 1) q = some r
  | 0, q, r, h => by simp [pD] at h
  | n + 1, .op i d, r, h => by
    have ih := pD_mono l n
    rw [pD] at h ⊢
    match hl : l[i]? with
    | none => rw [hl] at h; exact h
    | some t =>
      rw [hl] at h
      dsimp only at h ⊢
      split at h
      · rw [if_pos (by assumption)]
        exact bindR_mono (ih _) (fun _ _ _ h => h) h
      · rw [if_neg (by assumption)]
        split at h
        · rw [if_pos (by assumption)]
          split at h
          · rw [if_pos (by assumption)]; exact h
          · rw [if_neg (by assumption)]
            exact bindR_mono (ih _) (fun _ _ _ h => h) h
        · rw [if_neg (by assumption)]
          exact h
  | n + 1, .lv k i d, r, h => by
    have ih := pD_mono l n
    rw [pD] at h ⊢
    split at h
    · rw [if_pos (by assumption)]
      exact ih _ _ h
    · rw [if_neg (by assumption)]
      exact bindR_mono (ih _) (fun _ _ => ih _) h
  | n + 1, .lp k e i d, r, h => by
    have ih := pD_mono l n
    rw [pD] at h ⊢
    match hl : l[i]? with
    | none => rw [hl] at h; exact h
    | some t =>
      rw [hl] at h
      dsimp only at h ⊢
      split at h
      · rw [if_pos (by assumption)]
        exact bindR_mono (ih _) (fun _ _ => ih _) h
      · rw [if_neg (by assumption)]; exact h
/-- It answers so, with fuel enough. -/
def EA (l : List Tok) (q : Qy) (r : Res) : Prop := ∃ n, pA l n q = some r
def ED (l : List Tok) (q : Qy) (r : Res) : Prop := ∃ n, pD l n q = some r
theorem pA_add {l : List Tok} {n q r} (h : pA l n q = some r) : ∀ m, pA l (n + m) q = some r
  | 0 => h
  | m + 1 => pA_mono l _ _ _ (pA_add h m)
theorem pD_add {l : List Tok} {n q r} (h : pD l n q = some r) : ∀ m, pD l (n + m) q = some r
  | 0 => h
  | m + 1 => pD_mono l _ _ _ (pD_add h m)
theorem EA.two {l : List Tok} {q1 q2 : Qy} {r1 r2 : Res} (h1 : EA l q1 r1) (h2 : EA l q2 r2) : ∃ n, pA l n q1 = some r1 ∧ pA l n q2 = some r2 := by
  obtain ⟨n, h1⟩ := h1
  obtain ⟨m, h2⟩ := h2
  exact ⟨n + m, pA_add h1 m, by rw [Nat.add_comm]; exact pA_add h2 n⟩
theorem ED.two {l : List Tok} {q1 q2 : Qy} {r1 r2 : Res} (h1 : ED l q1 r1) (h2 : ED l q2 r2) : ∃ n, pD l n q1 = some r1 ∧ pD l n q2 = some r2 := by
  obtain ⟨n, h1⟩ := h1
  obtain ⟨m, h2⟩ := h2
  exact ⟨n + m, pD_add h1 m, by rw [Nat.add_comm]; exact pD_add h2 n⟩
/-- One loop more. -/
def Step (l : List Tok) (d k : Nat) : Res → Res → Prop
  | .error f, r => r = .error f
  | .ok (e, j), r => ED l (.lp k e j d) r
/-- The loops of the levels 5 down to 6 - m, behind a left side. -/
def Ch (l : List Tok) (d : Nat) : Nat → Ex → Nat → Res → Prop
  | 0, e, i, r => r = .ok (e, i)
  | m + 1, e, i, r => ∃ r1, Ch l d m e i r1 ∧ Step l d (5 - m) r1 r
def Adv (l : List Tok) (i : Nat) (r : Res) : Prop := ∀ e j, r = .ok (e, j) → i < j ∧ j ≤ l.length
def AdvL (l : List Tok) (i : Nat) (r : Res) : Prop := ∀ e j, r = .ok (e, j) → i ≤ j ∧ (i ≤ l.length → j ≤ l.length)
def StopAt (l : List Tok) (k i : Nat) : Prop := ∀ t, l[i]? = some t → str t ≤ k
def Stop (l : List Tok) (k : Nat) (r : Res) : Prop := ∀ e j, r = .ok (e, j) → StopAt l k j
theorem lp_stop {l : List Tok} {k i d : Nat} {e : Ex} (h : ∀ t, l[i]? = some t → str t ≠ k + 1) : ED l (.lp k e i d) (.ok (e, i)) := by
  refine ⟨1, ?_⟩
  rw [pD]
  match hl : l[i]? with
  | none => rfl
  | some t =>
    dsimp only
    rw [if_neg (h t hl)]
theorem lp_stop_only {l : List Tok} {k i d : Nat} {e : Ex} {r : Res} (h : ∀ t, l[i]? = some t → str t ≠ k + 1) (hr : ED l (.lp k e i d) r) : r = .ok (e, i) := by
  obtain ⟨n, hn⟩ := hr
  cases n with
  | zero => simp [pD] at hn
  | succ n =>
    rw [pD] at hn
    match hl : l[i]? with
    | none =>
      rw [hl] at hn
      exact (Option.some.inj hn).symm
    | some t =>
      rw [hl] at hn
      dsimp only at hn
      rw [if_neg (h t hl)] at hn
      exact (Option.some.inj hn).symm
theorem ch_stop {l : List Tok} {d i : Nat} {e : Ex} : ∀ m, m ≤ 6 → StopAt l (6 - m) i → Ch l d m e i (.ok (e, i))
  | 0, _, _ => rfl
  | m + 1, hm, h => ⟨.ok (e, i), ch_stop m (by omega) (fun t ht => by have := h t ht; omega), lp_stop (fun t ht => by have := h t ht; omega)⟩
theorem ch_stop_only {l : List Tok} {d i : Nat} {e : Ex} {r : Res} : ∀ m, m ≤ 6 → StopAt l (6 - m) i → Ch l d m e i r → r = .ok (e, i)
  | 0, _, _, hr => hr
  | m + 1, hm, h, ⟨r1, h1, h2⟩ => by
    have e1 := ch_stop_only m (by omega) (fun t ht => by have := h t ht; omega) h1
    subst e1
    exact lp_stop_only (fun t ht => by have := h t ht; omega) h2
theorem ch_err {l : List Tok} {d i : Nat} {e : Ex} {f : Int × Int} {m : Nat} (h : Ch l d m e i (.error f)) : ∀ x, Ch l d (m + x) e i (.error f)
  | 0 => h
  | x + 1 => ⟨.error f, ch_err h x, rfl⟩
theorem ch_split {l : List Tok} {d j m : Nat} {e : Ex} {r : Res} : ∀ x, Ch l d (m + x) e j r → ∃ r3, Ch l d m e j r3 ∧ ∀ e' i, Ch l d m e' i r3 → Ch l d (m + x) e' i r
  | 0, h => ⟨r, h, fun _ _ h => h⟩
  | x + 1, ⟨r1, h1, h2⟩ => by
    obtain ⟨r3, h3, h4⟩ := ch_split x h1
    exact ⟨r3, h3, fun e' i h => ⟨r1, h4 e' i h, h2⟩⟩
theorem lv_of_ch {l : List Tok} {d i : Nat} : ∀ m, m ≤ 6 → (∀ f, ED l (.op i d) (.error f) → ED l (.lv (6 - m) i d) (.error f)) ∧ (∀ e j r, ED l (.op i d) (.ok (e, j)) → Ch l d m e j r → ED l (.lv (6 - m) i d) r)
  | 0, _ => by
    refine ⟨fun f ⟨n, h⟩ => ⟨n + 1, ?_⟩, fun e j r ⟨n, h⟩ hr => ⟨n + 1, ?_⟩⟩
    · rw [pD, if_pos rfl]; exact h
    · rw [pD, if_pos rfl, show r = .ok (e, j) from hr]; exact h
  | m + 1, hm => by
    obtain ⟨h1, h2⟩ := lv_of_ch (l := l) (d := d) (i := i) m (by omega)
    have e6 : 6 - (m + 1) + 1 = 6 - m := by omega
    have e5 : 6 - (m + 1) = 5 - m := by omega
    refine ⟨fun f h => ?_, fun e j r h ⟨r1, hr1, hr2⟩ => ?_⟩
    · obtain ⟨n, hn⟩ := h1 f h
      refine ⟨n + 1, ?_⟩
      rw [pD, if_neg (by omega), e6, hn]
      rfl
    · have h3 := h2 e j r1 h hr1
      match r1, hr2 with
      | .error f, hr2 =>
        obtain ⟨n, hn⟩ := h3
        refine ⟨n + 1, ?_⟩
        rw [pD, if_neg (by omega), e6, hn, show r = .error f from hr2]
        rfl
      | .ok (e1, j1), hr2 =>
        obtain ⟨n, hn, hn2⟩ := h3.two hr2
        refine ⟨n + 1, ?_⟩
        rw [pD, if_neg (by omega), e6, hn]
        show pD l n (.lp (6 - (m + 1)) e1 j1 d) = some r
        rw [e5]
        exact hn2
/-- What is said of the place i. -/
structure At (l : List Tok) (i : Nat) : Prop where
  op : ∀ d, ∃ r, EA l (.op i d) r ∧ ED l (.op i d) r ∧ Adv l i r
  lv : ∀ d k, k ≤ 6 → ∃ r, EA l (.lv k i d) r ∧ ED l (.lv k i d) r ∧ Adv l i r ∧ Stop l k r
  lp : ∀ d k e, k ≤ 6 → ∃ r, EA l (.lp k e i d) r ∧ Ch l d (6 - k) e i r ∧ AdvL l i r ∧ Stop l k r
theorem at_all (l : List Tok) : ∀ N i, l.length - i = N → At l i := by
  intro N
  induction N using Nat.strongRecOn with
  | _ N ih =>
    intro i hN
    have nx : ∀ j, i < j → i < l.length → At l j := fun j h1 h2 => ih (l.length - j) (by omega) j rfl
    have hlp : ∀ d k e, k ≤ 6 → ∃ r, EA l (.lp k e i d) r ∧ Ch l d (6 - k) e i r ∧ AdvL l i r ∧ Stop l k r := by
      intro d k e hk
      by_cases hs : StopAt l k i
      · refine ⟨.ok (e, i), ⟨1, ?_⟩, ch_stop _ (by omega) (by rw [show 6 - (6 - k) = k by omega]; exact hs), fun e' j h => ?_, fun e' j h => ?_⟩
        · rw [pA]
          match hl : l[i]? with
          | none => rfl
          | some t =>
            dsimp only
            rw [if_pos (hs t hl)]
        · cases h
          exact ⟨Nat.le_refl _, fun h => h⟩
        · cases h
          exact hs
      · obtain ⟨t, ht, hst⟩ : ∃ t, l[i]? = some t ∧ ¬ str t ≤ k := by
          unfold StopAt at hs
          match hl : l[i]? with
          | none => exact absurd (fun t ht => by rw [hl] at ht; cases ht) hs
          | some t => exact ⟨t, rfl, fun h => hs (fun t' ht' => by rw [hl] at ht'; cases ht'; exact h)⟩
        have hil : i < l.length := (List.getElem?_eq_some_iff.1 ht).1
        have h6 := str_le t
        obtain ⟨s, hss⟩ : ∃ s, str t = s := ⟨_, rfl⟩
        rw [hss] at hst h6
        obtain ⟨r1, hA1, hD1, hadv, hstop⟩ := (nx (i + 1) (by omega) hil).lv d s h6
        have hup : Ch l d (6 - s) e i (.ok (e, i)) := ch_stop _ (by omega) (by
          rw [show 6 - (6 - s) = s by omega]
          intro t' ht'
          rw [ht] at ht'
          cases ht'
          omega)
        have em : 6 - k = (6 - s + 1) + (s - 1 - k) := by omega
        have el : 5 - (6 - s) = s - 1 := by omega
        match r1, hA1, hD1, hadv, hstop with
        | .error f, hA1, hD1, hadv, hstop =>
          refine ⟨.error f, ?_, ?_, (fun _ _ h => nomatch h), (fun _ _ h => nomatch h)⟩
          · obtain ⟨n, hn⟩ := hA1
            refine ⟨n + 1, ?_⟩
            rw [pA, ht]
            dsimp only
            rw [if_neg (by omega), hss, hn]
            rfl
          · have h1 : Ch l d (6 - s + 1) e i (.error f) := by
              refine ⟨.ok (e, i), hup, ?_⟩
              rw [el]
              obtain ⟨n, hn⟩ := hD1
              refine ⟨n + 1, ?_⟩
              rw [pD, ht]
              dsimp only
              rw [if_pos (by omega), show s - 1 + 1 = s by omega, hn]
              rfl
            rw [em]
            exact ch_err h1 _
        | .ok (er, j), hA1, hD1, hadv, hstop =>
          obtain ⟨hij, hjl⟩ := hadv er j rfl
          have hsj := hstop er j rfl
          obtain ⟨r2, hA2, hC2, hadv2, hstop2⟩ := (nx j (by omega) hil).lp d k (.bin t e er) hk
          refine ⟨r2, ?_, ?_, fun e' j' h => ?_, hstop2⟩
          · obtain ⟨n, hn, hn2⟩ := hA1.two hA2
            refine ⟨n + 1, ?_⟩
            rw [pA, ht]
            dsimp only
            rw [if_neg (by omega), hss, hn]
            exact hn2
          · rw [em] at hC2 ⊢
            obtain ⟨r3, ⟨r0, h0, h3⟩, hrest⟩ := ch_split _ hC2
            have e0 := ch_stop_only _ (by omega) (by rw [show 6 - (6 - s) = s by omega]; exact hsj) h0
            subst e0
            refine hrest e i ⟨.ok (e, i), hup, ?_⟩
            rw [el] at h3 ⊢
            obtain ⟨n, hn, hn2⟩ := hD1.two (show ED l (.lp (s - 1) (.bin t e er) j d) r3 from h3)
            refine ⟨n + 1, ?_⟩
            rw [pD, ht]
            dsimp only
            rw [if_pos (by omega), show s - 1 + 1 = s by omega, hn]
            exact hn2
          · have := hadv2 e' j' h
            exact ⟨by omega, fun _ => this.2 hjl⟩
    have hop : ∀ d, ∃ r, EA l (.op i d) r ∧ ED l (.op i d) r ∧ Adv l i r := by
      intro d
      match hl : l[i]? with
      | none =>
        refine ⟨.error (here l i, 83), ⟨1, by rw [pA, hl]⟩, ⟨1, by rw [pD, hl]⟩, fun e j h => by cases h⟩
      | some t =>
        have hil : i < l.length := (List.getElem?_eq_some_iff.1 hl).1
        by_cases hsg : sign t = true
        · obtain ⟨r, ⟨n, hn⟩, ⟨m, hm⟩, hadv⟩ := (nx (i + 1) (by omega) hil).op d
          match r, hn, hm, hadv with
          | .error f, hn, hm, hadv =>
            refine ⟨.error f, ⟨n + 1, ?_⟩, ⟨m + 1, ?_⟩, fun e j h => by cases h⟩
            · rw [pA, hl]; dsimp only; rw [if_pos hsg, hn]; rfl
            · rw [pD, hl]; dsimp only; rw [if_pos hsg, hm]; rfl
          | .ok (e, j), hn, hm, hadv =>
            refine ⟨.ok (.un t e, j), ⟨n + 1, ?_⟩, ⟨m + 1, ?_⟩, fun e' j' h => ?_⟩
            · rw [pA, hl]; dsimp only; rw [if_pos hsg, hn]; rfl
            · rw [pD, hl]; dsimp only; rw [if_pos hsg, hm]; rfl
            · cases h
              have := hadv e j rfl
              omega
        · by_cases hop : isM t ⟨#[40]⟩ = true
          · by_cases hd : 30 ≤ d
            · refine ⟨.error (t.a, 6), ⟨1, ?_⟩, ⟨1, ?_⟩, fun e j h => by cases h⟩
              · rw [pA, hl]; dsimp only; rw [if_neg hsg, if_pos hop, if_pos hd]
              · rw [pD, hl]; dsimp only; rw [if_neg hsg, if_pos hop, if_pos hd]
            · obtain ⟨r, ⟨n, hn⟩, ⟨m, hm⟩, hadv, _⟩ := (nx (i + 1) (by omega) hil).lv (d + 1) 0 (by omega)
              match r, hn, hm, hadv with
              | .error f, hn, hm, hadv =>
                refine ⟨.error f, ⟨n + 1, ?_⟩, ⟨m + 1, ?_⟩, fun e j h => by cases h⟩
                · rw [pA, hl]; dsimp only; rw [if_neg hsg, if_pos hop, if_neg hd, hn]; rfl
                · rw [pD, hl]; dsimp only; rw [if_neg hsg, if_pos hop, if_neg hd, hm]; rfl
              | .ok (e, j), hn, hm, hadv =>
                obtain ⟨h1, h2⟩ := hadv e j rfl
                by_cases hcl : closes l j = true
                · have hjl : j < l.length := by
                    unfold closes at hcl
                    match hj : l[j]? with
                    | none => rw [hj] at hcl; cases hcl
                    | some u => exact (List.getElem?_eq_some_iff.1 hj).1
                  refine ⟨.ok (e, j + 1), ⟨n + 1, ?_⟩, ⟨m + 1, ?_⟩, fun e' j' h => ?_⟩
                  · rw [pA, hl]; dsimp only; rw [if_neg hsg, if_pos hop, if_neg hd, hn]; dsimp only [bindR]; rw [if_pos hcl]
                  · rw [pD, hl]; dsimp only; rw [if_neg hsg, if_pos hop, if_neg hd, hm]; dsimp only [bindR]; rw [if_pos hcl]
                  · cases h
                    omega
                · refine ⟨.error (here l j, 83), ⟨n + 1, ?_⟩, ⟨m + 1, ?_⟩, fun e' j' h => by cases h⟩
                  · rw [pA, hl]; dsimp only; rw [if_neg hsg, if_pos hop, if_neg hd, hn]; dsimp only [bindR]; rw [if_neg hcl]
                  · rw [pD, hl]; dsimp only; rw [if_neg hsg, if_pos hop, if_neg hd, hm]; dsimp only [bindR]; rw [if_neg hcl]
          · by_cases hk : t.k = 6 ∨ t.k = 5
            · refine ⟨.error (t.a, 83), ⟨1, ?_⟩, ⟨1, ?_⟩, fun e j h => by cases h⟩
              · rw [pA, hl]; dsimp only; rw [if_neg hsg, if_neg hop, if_pos hk]
              · rw [pD, hl]; dsimp only; rw [if_neg hsg, if_neg hop, if_pos hk]
            · refine ⟨.ok (.leaf t, i + 1), ⟨1, ?_⟩, ⟨1, ?_⟩, fun e j h => ?_⟩
              · rw [pA, hl]; dsimp only; rw [if_neg hsg, if_neg hop, if_neg hk]
              · rw [pD, hl]; dsimp only; rw [if_neg hsg, if_neg hop, if_neg hk]
              · cases h
                omega
    refine ⟨hop, fun d k hk => ?_, hlp⟩
    obtain ⟨r1, hA, hD, hadv⟩ := hop d
    obtain ⟨hv1, hv2⟩ := lv_of_ch (l := l) (d := d) (i := i) (6 - k) (by omega)
    rw [show 6 - (6 - k) = k by omega] at hv1 hv2
    match r1, hA, hD, hadv with
    | .error f, ⟨n, hn⟩, hD, hadv =>
      refine ⟨.error f, ⟨n + 1, ?_⟩, hv1 f hD, (fun _ _ h => nomatch h), (fun _ _ h => nomatch h)⟩
      rw [pA, hn]
      rfl
    | .ok (e, j), hA, hD, hadv =>
      obtain ⟨h1, h2⟩ := hadv e j rfl
      obtain ⟨r, hA2, hC, hadv2, hstop⟩ := (nx j h1 (by omega)).lp d k e hk
      refine ⟨r, ?_, hv2 e j r hD hC, fun e' j' h => ?_, hstop⟩
      · obtain ⟨n, hn, hn2⟩ := hA.two hA2
        refine ⟨n + 1, ?_⟩
        rw [pA, hn]
        exact hn2
      · have := hadv2 e' j' h
        exact ⟨by omega, this.2 h2⟩
/-- Both ways answer the same at the head. -/
theorem both (l : List Tok) : ∃ r, EA l (.lv 0 0 0) r ∧ ED l (.lv 0 0 0) r := by
  obtain ⟨r, h1, h2, _⟩ := (at_all l _ 0 rfl).lv 0 0 (by omega)
  exact ⟨r, h1, h2⟩
end Go.Proofs.YtbmnifnahbehbaaGreatDoor.AvP

/-
  DERIVED: THE SHELF's CONTRACTS AT THIS DUMP, IN PLAIN WORDS (tools/lay-plain.mjs out of 'YtbmnifnahbehbaaGreatDoorShelf.lean', which tools/lay-shelf.mjs wrote): THE SAME DECLARATIONS UNDER THE SAME NAMES: 'import', 'namespace', 'open', 'def', 'theorem' AND NOTHING ELSE: no command of the shelf's: FOR A HAND-IN. Each laying: the table of numbers ('.._ren') and one theorem, a field a fact of the dump's own or the kernel's comparison; each contract: ONE APPLICATION.
-/
namespace Go.Proofs
open Go.Shelf
def Tryz.laysDec_ren : Go.Shelf.Ren := ⟨fun | 197 => 42 | 260 => 62 | n => n, fun | 9 => 9 | 21 => 21 | 3 => 3 | 4 => 4 | 5 => 5 | 105 => 120 | 119 => 154 | 0 => 0 | 46 => 166 | 139 => 169 | 138 => 168 | n => n, fun | 3 => 4 | 4 => 5 | n => n⟩
theorem Tryz.laysDec : Go.Proofs.Lays.n197 Tryz.prog Tryz.laysDec_ren := {
  mixed := by kernel_rfl
  f197 := Tryz.func42.trans (congrArg some (by kernel_rfl))
  f260 := Tryz.func62.trans (congrArg some (by kernel_rfl))
  t0 := Tryz.underlying0
  a0 := Tryz.isAgg0
  z0 := Tryz.sizeOf0
  v0 := Tryz.zeroValue0
  t3 := Tryz.underlying3
  a3 := Tryz.isAgg3
  z3 := Tryz.sizeOf3
  v3 := Tryz.zeroValue3
  t4 := Tryz.underlying4
  a4 := Tryz.isAgg4
  z4 := Tryz.sizeOf4
  v4 := Tryz.zeroValue4
  t5 := Tryz.underlying5
  a5 := Tryz.isAgg5
  z5 := Tryz.sizeOf5
  v5 := Tryz.zeroValue5
  t9 := Tryz.underlying9
  a9 := Tryz.isAgg9
  z9 := Tryz.sizeOf9
  v9 := Tryz.zeroValue9
  t21 := Tryz.underlying21
  a21 := Tryz.isAgg21
  z21 := Tryz.sizeOf21
  v21 := Tryz.zeroValue21
  t46 := Tryz.underlying166
  a46 := Tryz.isAgg166
  z46 := Tryz.sizeOf166
  v46 := Tryz.zeroValue166
  t105 := Tryz.underlying120
  a105 := Tryz.isAgg120
  z105 := Tryz.sizeOf120
  v105 := Tryz.zeroValue120
  t119 := Tryz.underlying154
  a119 := Tryz.isAgg154
  z119 := Tryz.sizeOf154
  t138 := Tryz.underlying168
  a138 := Tryz.isAgg168
  z138 := Tryz.sizeOf168
  v138 := Tryz.zeroValue168
  t139 := Tryz.underlying169
  a139 := Tryz.isAgg169
  z139 := Tryz.sizeOf169
  v139 := Tryz.zeroValue169
  g3 := by kernel_rfl
  g4 := by kernel_rfl }
def Tryz.laysLetter_ren : Go.Shelf.Ren := ⟨fun | 200 => 43 | 261 => 63 | 311 => 72 | 312 => 73 | n => n, fun | 21 => 21 | 4 => 4 | 51 => 153 | 5 => 5 | 119 => 154 | 0 => 0 | 141 => 156 | 196 => 173 | 193 => 170 | 3 => 3 | 198 => 176 | 49 => 174 | 194 => 171 | 201 => 179 | 226 => 188 | 46 => 166 | 227 => 189 | n => n, fun | 7 => 1 | 8 => 2 | n => n⟩
theorem Tryz.laysLetter : Go.Proofs.Lays.n200 Tryz.prog Tryz.laysLetter_ren := {
  mixed := by kernel_rfl
  f200 := Tryz.func43.trans (congrArg some (by kernel_rfl))
  f261 := Tryz.func63.trans (congrArg some (by kernel_rfl))
  f311 := Tryz.func72.trans (congrArg some (by kernel_rfl))
  f312 := Tryz.func73.trans (congrArg some (by kernel_rfl))
  t0 := Tryz.underlying0
  a0 := Tryz.isAgg0
  z0 := Tryz.sizeOf0
  v0 := Tryz.zeroValue0
  t3 := Tryz.underlying3
  a3 := Tryz.isAgg3
  z3 := Tryz.sizeOf3
  v3 := Tryz.zeroValue3
  t4 := Tryz.underlying4
  a4 := Tryz.isAgg4
  z4 := Tryz.sizeOf4
  v4 := Tryz.zeroValue4
  t5 := Tryz.underlying5
  a5 := Tryz.isAgg5
  z5 := Tryz.sizeOf5
  v5 := Tryz.zeroValue5
  t21 := Tryz.underlying21
  a21 := Tryz.isAgg21
  z21 := Tryz.sizeOf21
  v21 := Tryz.zeroValue21
  t46 := Tryz.underlying166
  a46 := Tryz.isAgg166
  z46 := Tryz.sizeOf166
  v46 := Tryz.zeroValue166
  t49 := Tryz.underlying174
  a49 := Tryz.isAgg174
  z49 := Tryz.sizeOf174
  v49 := Tryz.zeroValue174
  t51 := Tryz.underlying153
  a51 := Tryz.isAgg153
  z51 := Tryz.sizeOf153
  v51 := Tryz.zeroValue153
  t119 := Tryz.underlying154
  a119 := Tryz.isAgg154
  z119 := Tryz.sizeOf154
  t141 := Tryz.underlying156
  a141 := Tryz.isAgg156
  z141 := Tryz.sizeOf156
  v141 := Tryz.zeroValue156
  t193 := Tryz.underlying170
  a193 := Tryz.isAgg170
  z193 := Tryz.sizeOf170
  v193 := Tryz.zeroValue170
  t194 := Tryz.underlying171
  a194 := Tryz.isAgg171
  z194 := Tryz.sizeOf171
  v194 := Tryz.zeroValue171
  t196 := Tryz.underlying173
  a196 := Tryz.isAgg173
  z196 := Tryz.sizeOf173
  v196 := Tryz.zeroValue173
  t198 := Tryz.underlying176
  a198 := Tryz.isAgg176
  z198 := Tryz.sizeOf176
  v198 := Tryz.zeroValue176
  t201 := Tryz.underlying179
  a201 := Tryz.isAgg179
  z201 := Tryz.sizeOf179
  v201 := Tryz.zeroValue179
  t226 := Tryz.underlying188
  a226 := Tryz.isAgg188
  z226 := Tryz.sizeOf188
  v226 := Tryz.zeroValue188
  t227 := Tryz.underlying189
  a227 := Tryz.isAgg189
  z227 := Tryz.sizeOf189
  v227 := Tryz.zeroValue189
  g7 := by kernel_rfl
  g8 := by kernel_rfl }
def Tryz.laysIdx_ren : Go.Shelf.Ren := ⟨fun | 137 => 20 | 217 => 40 | 266 => 61 | n => n, fun | 9 => 9 | 5 => 5 | 3 => 3 | n => n, fun | n => n⟩
theorem Tryz.laysIdx : Go.Proofs.Lays.n137 Tryz.prog Tryz.laysIdx_ren := {
  mixed := by kernel_rfl
  f137 := Tryz.func20.trans (congrArg some (by kernel_rfl))
  f217 := Tryz.func40.trans (congrArg some (by kernel_rfl))
  f266 := Tryz.func61.trans (congrArg some (by kernel_rfl))
  t3 := Tryz.underlying3
  a3 := Tryz.isAgg3
  z3 := Tryz.sizeOf3
  v3 := Tryz.zeroValue3
  t5 := Tryz.underlying5
  a5 := Tryz.isAgg5
  z5 := Tryz.sizeOf5
  v5 := Tryz.zeroValue5
  t9 := Tryz.underlying9
  a9 := Tryz.isAgg9
  z9 := Tryz.sizeOf9
  v9 := Tryz.zeroValue9 }
def Tryz.laysPu_ren : Go.Shelf.Ren := ⟨fun | 287 => 70 | 321 => 76 | 322 => 77 | n => n, fun | 9 => 9 | 3 => 3 | 53 => 23 | 75 => 25 | 4 => 4 | 167 => 183 | 5 => 5 | 46 => 166 | 37 => 152 | 0 => 0 | 21 => 21 | 80 => 215 | n => n, fun | n => n⟩
theorem Tryz.laysPu : Go.Proofs.Lays.n287 Tryz.prog Tryz.laysPu_ren := {
  mixed := by kernel_rfl
  f287 := Tryz.func70.trans (congrArg some (by kernel_rfl))
  f321 := Tryz.func76.trans (congrArg some (by kernel_rfl))
  f322 := Tryz.func77.trans (congrArg some (by kernel_rfl))
  t0 := Tryz.underlying0
  a0 := Tryz.isAgg0
  z0 := Tryz.sizeOf0
  v0 := Tryz.zeroValue0
  t3 := Tryz.underlying3
  a3 := Tryz.isAgg3
  z3 := Tryz.sizeOf3
  v3 := Tryz.zeroValue3
  t4 := Tryz.underlying4
  a4 := Tryz.isAgg4
  z4 := Tryz.sizeOf4
  v4 := Tryz.zeroValue4
  t5 := Tryz.underlying5
  a5 := Tryz.isAgg5
  z5 := Tryz.sizeOf5
  v5 := Tryz.zeroValue5
  t9 := Tryz.underlying9
  a9 := Tryz.isAgg9
  z9 := Tryz.sizeOf9
  v9 := Tryz.zeroValue9
  t21 := Tryz.underlying21
  a21 := Tryz.isAgg21
  z21 := Tryz.sizeOf21
  v21 := Tryz.zeroValue21
  t37 := Tryz.underlying152
  a37 := Tryz.isAgg152
  z37 := Tryz.sizeOf152
  v37 := Tryz.zeroValue152
  t46 := Tryz.underlying166
  a46 := Tryz.isAgg166
  z46 := Tryz.sizeOf166
  v46 := Tryz.zeroValue166
  t53 := Tryz.underlying23
  a53 := Tryz.isAgg23
  z53 := Tryz.sizeOf23
  v53 := Tryz.zeroValue23
  t75 := Tryz.underlying25
  a75 := Tryz.isAgg25
  z75 := Tryz.sizeOf25
  v75 := Tryz.zeroValue25
  t167 := Tryz.underlying183
  a167 := Tryz.isAgg183
  z167 := Tryz.sizeOf183
  v167 := Tryz.zeroValue183 }
def Tryz.laysToErr_ren : Go.Shelf.Ren := ⟨fun | 245 => 71 | 279 => 78 | 280 => 79 | 281 => 80 | 282 => 81 | 316 => 83 | 171 => 85 | 205 => 84 | 243 => 86 | 246 => 87 | 283 => 88 | 284 => 89 | 285 => 90 | 286 => 91 | 129 => 93 | 317 => 92 | 318 => 94 | 319 => 95 | 320 => 96 | 337 => 97 | 338 => 98 | n => n, fun | 9 => 9 | 3 => 3 | 75 => 25 | 167 => 183 | 4 => 4 | 168 => 185 | 210 => 193 | 37 => 152 | 0 => 0 | 127 => 196 | 145 => 199 | 143 => 197 | 2 => 2 | 171 => 201 | 53 => 23 | 5 => 5 | 173 => 204 | 212 => 208 | 51 => 153 | 20 => 20 | 213 => 209 | 46 => 166 | 232 => 213 | 233 => 214 | 80 => 215 | n => n, fun | 15 => 6 | 16 => 7 | 17 => 8 | 18 => 9 | 19 => 10 | n => n⟩
theorem Tryz.laysToErr : Go.Proofs.LaysC.n245 Tryz.prog Tryz.laysToErr_ren := {
  mixed := by kernel_rfl
  f129 := Tryz.func93.trans (congrArg some (by kernel_rfl))
  f171 := Tryz.func85.trans (congrArg some (by kernel_rfl))
  f205 := Tryz.func84.trans (congrArg some (by kernel_rfl))
  f243 := Tryz.func86.trans (congrArg some (by kernel_rfl))
  f245 := Tryz.func71.trans (congrArg some (by kernel_rfl))
  f246 := Tryz.func87.trans (congrArg some (by kernel_rfl))
  f279 := Tryz.func78.trans (congrArg some (by kernel_rfl))
  f280 := Tryz.func79.trans (congrArg some (by kernel_rfl))
  f281 := Tryz.func80.trans (congrArg some (by kernel_rfl))
  f282 := Tryz.func81.trans (congrArg some (by kernel_rfl))
  f283 := Tryz.func88.trans (congrArg some (by kernel_rfl))
  f284 := Tryz.func89.trans (congrArg some (by kernel_rfl))
  f285 := Tryz.func90.trans (congrArg some (by kernel_rfl))
  f286 := Tryz.func91.trans (congrArg some (by kernel_rfl))
  f316 := Tryz.func83.trans (congrArg some (by kernel_rfl))
  f317 := Tryz.func92.trans (congrArg some (by kernel_rfl))
  f318 := Tryz.func94.trans (congrArg some (by kernel_rfl))
  f319 := Tryz.func95.trans (congrArg some (by kernel_rfl))
  f320 := Tryz.func96.trans (congrArg some (by kernel_rfl))
  f337 := Tryz.func97.trans (congrArg some (by kernel_rfl))
  f338 := Tryz.func98.trans (congrArg some (by kernel_rfl))
  t0 := Tryz.underlying0
  a0 := Tryz.isAgg0
  z0 := Tryz.sizeOf0
  v0 := Tryz.zeroValue0
  t2 := Tryz.underlying2
  a2 := Tryz.isAgg2
  z2 := Tryz.sizeOf2
  v2 := Tryz.zeroValue2
  t3 := Tryz.underlying3
  a3 := Tryz.isAgg3
  z3 := Tryz.sizeOf3
  v3 := Tryz.zeroValue3
  t4 := Tryz.underlying4
  a4 := Tryz.isAgg4
  z4 := Tryz.sizeOf4
  v4 := Tryz.zeroValue4
  t5 := Tryz.underlying5
  a5 := Tryz.isAgg5
  z5 := Tryz.sizeOf5
  v5 := Tryz.zeroValue5
  t9 := Tryz.underlying9
  a9 := Tryz.isAgg9
  z9 := Tryz.sizeOf9
  v9 := Tryz.zeroValue9
  t20 := Tryz.underlying20
  a20 := Tryz.isAgg20
  z20 := Tryz.sizeOf20
  v20 := Tryz.zeroValue20
  t37 := Tryz.underlying152
  a37 := Tryz.isAgg152
  z37 := Tryz.sizeOf152
  v37 := Tryz.zeroValue152
  t46 := Tryz.underlying166
  a46 := Tryz.isAgg166
  z46 := Tryz.sizeOf166
  v46 := Tryz.zeroValue166
  t51 := Tryz.underlying153
  a51 := Tryz.isAgg153
  z51 := Tryz.sizeOf153
  v51 := Tryz.zeroValue153
  t53 := Tryz.underlying23
  a53 := Tryz.isAgg23
  z53 := Tryz.sizeOf23
  v53 := Tryz.zeroValue23
  t75 := Tryz.underlying25
  a75 := Tryz.isAgg25
  z75 := Tryz.sizeOf25
  v75 := Tryz.zeroValue25
  t127 := Tryz.underlying196
  a127 := Tryz.isAgg196
  z127 := Tryz.sizeOf196
  v127 := Tryz.zeroValue196
  t143 := Tryz.underlying197
  a143 := Tryz.isAgg197
  z143 := Tryz.sizeOf197
  v143 := Tryz.zeroValue197
  t145 := Tryz.underlying199
  a145 := Tryz.isAgg199
  z145 := Tryz.sizeOf199
  v145 := Tryz.zeroValue199
  t167 := Tryz.underlying183
  a167 := Tryz.isAgg183
  z167 := Tryz.sizeOf183
  v167 := Tryz.zeroValue183
  t168 := Tryz.underlying185
  a168 := Tryz.isAgg185
  z168 := Tryz.sizeOf185
  v168 := Tryz.zeroValue185
  t171 := Tryz.underlying201
  a171 := Tryz.isAgg201
  z171 := Tryz.sizeOf201
  v171 := Tryz.zeroValue201
  t173 := Tryz.underlying204
  a173 := Tryz.isAgg204
  z173 := Tryz.sizeOf204
  v173 := Tryz.zeroValue204
  t210 := Tryz.underlying193
  a210 := Tryz.isAgg193
  z210 := Tryz.sizeOf193
  v210 := Tryz.zeroValue193
  t212 := Tryz.underlying208
  a212 := Tryz.isAgg208
  z212 := Tryz.sizeOf208
  v212 := Tryz.zeroValue208
  t213 := Tryz.underlying209
  a213 := Tryz.isAgg209
  z213 := Tryz.sizeOf209
  t232 := Tryz.underlying213
  a232 := Tryz.isAgg213
  z232 := Tryz.sizeOf213
  v232 := Tryz.zeroValue213
  t233 := Tryz.underlying214
  a233 := Tryz.isAgg214
  z233 := Tryz.sizeOf214
  v233 := Tryz.zeroValue214
  g15 := by kernel_rfl
  g16 := by kernel_rfl
  g17 := by kernel_rfl
  g18 := by kernel_rfl
  g19 := by kernel_rfl
  t80 := Tryz.underlying215
  a80 := Tryz.isAgg215
  z80 := Tryz.sizeOf215
  v80 := Tryz.zeroValue215
  i0 := by kernel_rfl
  i2 := by kernel_rfl
  i3 := by kernel_rfl
  i4 := by kernel_rfl
  i5 := by kernel_rfl
  i9 := by kernel_rfl
  i20 := by kernel_rfl
  i37 := by kernel_rfl
  i46 := by kernel_rfl
  i51 := by kernel_rfl
  i53 := by kernel_rfl
  i75 := by kernel_rfl
  i80 := by kernel_rfl
  i127 := by kernel_rfl
  i143 := by kernel_rfl
  i145 := by kernel_rfl
  i167 := by kernel_rfl
  i168 := by kernel_rfl
  i171 := by kernel_rfl
  i173 := by kernel_rfl
  i210 := by kernel_rfl
  i212 := by kernel_rfl
  i232 := by kernel_rfl
  i233 := by kernel_rfl
  m15 := by kernel_rfl
  m16 := by kernel_rfl
  m17 := by kernel_rfl
  m18 := by kernel_rfl
  m19 := by kernel_rfl
  c0 := by kernel_rfl
  c2 := by kernel_rfl
  c3 := by kernel_rfl
  c4 := by kernel_rfl
  c5 := by kernel_rfl
  c9 := by kernel_rfl
  c20 := by kernel_rfl
  c37 := by kernel_rfl
  c46 := by kernel_rfl
  c51 := by kernel_rfl
  c53 := by kernel_rfl
  c75 := by kernel_rfl
  c80 := by kernel_rfl
  c127 := by kernel_rfl
  c143 := by kernel_rfl
  c145 := by kernel_rfl
  c167 := by kernel_rfl
  c168 := by kernel_rfl
  c171 := by kernel_rfl
  c173 := by kernel_rfl
  c210 := by kernel_rfl
  c212 := by kernel_rfl
  c213 := by kernel_rfl
  c232 := by kernel_rfl
  c233 := by kernel_rfl }
def Tryz.laysLower_ren : Go.Shelf.Ren := ⟨fun | 321 => 76 | n => n, fun | 5 => 5 | n => n, fun | n => n⟩
theorem Tryz.laysLower : Go.Proofs.Lays.n321 Tryz.prog Tryz.laysLower_ren := {
  mixed := by kernel_rfl
  f321 := Tryz.func76.trans (congrArg some (by kernel_rfl))
  t5 := Tryz.underlying5
  a5 := Tryz.isAgg5
  z5 := Tryz.sizeOf5
  v5 := Tryz.zeroValue5 }
end Go.Proofs
