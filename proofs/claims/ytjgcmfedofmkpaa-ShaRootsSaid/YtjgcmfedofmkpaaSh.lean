/-
  Plain: what writing keeps.
-/
import Derived.Test.YtjgcmfedofmkpaaSf
namespace Go.Proofs.Ytjgcmfedofmkpaa
open Go Go.Fx
set_option linter.unusedVariables false
set_option linter.unusedSimpArgs false
theorem sbeg_r {s : St} (h : s.r.length ≤ 128) : (sbeg s).r.length ≤ 128 := by
  unfold sbeg
  split
  · rw [snew_r]; decide
  · exact h
theorem sbeg_h {s : St} (h : s.h.length = 8) : (sbeg s).h.length = 8 := by
  unfold sbeg
  split
  · exact snew_l
  · exact h
theorem swrite_h {s : St} (h : s.h.length = 8) (a : List Nat) : (swrite s a).h.length = 8 := by
  unfold swrite
  exact (swrite_n s a _).2.1.trans (sbeg_h h)
theorem swrite_r (s : St) (a : List Nat) : (swrite s a).r.length < 128 := by
  unfold swrite
  dsimp only [St.setR]
  rw [swrite_ln]
  omega

end Go.Proofs.Ytjgcmfedofmkpaa
