/-
  FxJ: what stands behind a guard that itself was left out, is left out.
-/
import Derived.Test.YtkpelchcpiafaaaFxI
namespace Go.Fx
set_option linter.unusedVariables false
set_option linter.unusedSimpArgs false
section
variable {cx : Cx} {ops : Array Oper} {o : Oper} {F : Nat → Option AV} {H : Nat → Option Bk}
theorem Doing.skipU (j : Nat) (want : Bool) (oj : Oper) (t : Nat) (hg : o.guard = some (j, want)) (h1 : ops[j]? = some oj) (h2 : oj.dst = some t) (h3 : F t = some (.one .u)) (hd : ∀ t, o.dst = some t → t < cx.nt) :
    Doing cx ops o F H ⟨.one .u, [], []⟩ := by
  intro F' H' hF hH _ ρ A a w hs K Q hK
  have hs' := hs.sub hF hH
  have hu : a.tmps.getD t undef = undef := hs'.fr t _ h3
  have hy : yielded ops a.tmps j = none := by
    have hg2 : a.tmps[t]? = none ∨ a.tmps[t]? = some undef := by
      rw [Array.getD_eq_getD_getElem?] at hu
      cases ht : a.tmps[t]? with
      | none => exact .inl rfl
      | some v => rw [ht] at hu; simp only [Option.getD_some] at hu; exact .inr (by rw [hu])
    rcases hg2 with h | h
    · simp [yielded, h1, h2, h]
    · simp [yielded, h1, h2, h, undef]
  unfold StepOp
  rw [if_neg (by simp [Region.wanted, hg, hy])]
  exact hK undef w ρ A (hs.put hd rfl)
end
end Go.Fx
