/- The package-level variables that SpeakCsrNames reads: the tables of SpeakCsrs, and the library's two errors. -/
import Derived.Test.YtkcaebdhkodleaaDoorGlobCsr
import Derived.Test.YtkcaebdhkodleaaDoorNumber
import Derived.Stop.LaidErr
set_option linter.unusedVariables false
namespace Go.Proofs.YtkcaebdhkodleaaDoor.PCsn
open Go.RowKit Go.Lib Go.Proofs.YtkcaebdhkodleaaDoorW.PrintWords

structure Glob (w : World) : Prop where
  base : Go.Proofs.YtkcaebdhkodleaaDoor.Glob w
  es : ErrAt w 6
  er : ErrAt w 7
theorem Glob.step {w W : World} (h : Glob w) (hb : Below w.heap.size w W) : Glob W := ⟨h.base.step hb, h.es.below hb, h.er.below hb⟩
theorem Glob.g2 {w : World} (h : Glob w) : Kd.C Kd.string w (some ⟨2, 0, none⟩) glob2.length glob2 := h.base.g2
theorem Glob.g1 {w : World} (h : Glob w) : Kd.C (Kd.int .i64) w (some ⟨1, 0, none⟩) glob1.length glob1 := h.base.g1
/-- A variable of an interface type that reads as a value in it holds such a value. -/
theorem errAt_of_reads {P : Program} {W : World} {n nm : String} {d : DataW Unit} {g : Nat} {ti : TypeId} {ms : Array (String × TypeId)} (hg : P.globalNamed n = some g) (ht : (P.globals[g]?).map (·.type) = some ti) (hi : P.underlying ti = some (.interface ms))
    (h : VarReads P W n (.iface nm d)) : ErrAt W g := by
  obtain ⟨g', t', cs, fuel, p, h1, h2, h3, h4⟩ := h
  rw [hg] at h1
  cases h1
  rw [ht] at h2
  cases h2
  have key : ∃ u v, cs.toList = [.iface u v] := by
    generalize cs.toList = l at h4
    match l, h4 with
    | [], h4 => cases fuel <;> simp [DataW.trod, hi] at h4
    | [c], h4 =>
      cases fuel with
      | zero => simp [DataW.trod] at h4
      | succ fuel =>
        cases c <;> simp [DataW.trod, hi] at h4
        exact ⟨_, _, rfl⟩
    | _ :: _ :: _, h4 => cases fuel <;> simp [DataW.trod, hi] at h4
  obtain ⟨u, v, hl⟩ := key
  refine ⟨.iface u v, ?_, .inr ⟨u, v, rfl⟩⟩
  have := World.var?_cell hg h3 0
  rw [this]
  obtain ⟨l⟩ := cs
  simp at hl
  subst hl
  rfl
theorem glob_of {W : World} (h0 : VarReads Tryd.prog W "anvil/anvilref07.csrNames" Rows.laid_anvil_anvilref07_csrNames) (h1 : VarReads Tryd.prog W "anvil/anvilref07.csrNumbers" Rows.laid_anvil_anvilref07_csrNumbers)
    (h2 : VarReads Tryd.prog W "math/bits.deBruijn32tab" Rows.laid_math_bits_deBruijn32tab) (h3 : VarReads Tryd.prog W "math/bits.deBruijn64tab" Rows.laid_math_bits_deBruijn64tab)
    (h4 : VarReads Tryd.prog W "strconv.ErrRange" Rows.laid_strconv_ErrRange) (h5 : VarReads Tryd.prog W "strconv.ErrSyntax" Rows.laid_strconv_ErrSyntax) : Glob W :=
  ⟨Go.Proofs.YtkcaebdhkodleaaDoor.glob_of h0 h1 h2 h3, errAt_of_reads (ti := 50) (by kernel_rfl) (by kernel_rfl) Tryd.underlying50 h5, errAt_of_reads (ti := 50) (by kernel_rfl) (by kernel_rfl) Tryd.underlying50 h4⟩
end Go.Proofs.YtkcaebdhkodleaaDoor.PCsn
