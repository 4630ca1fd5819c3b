/-
  Walks: Fine.
-/
import Derived.Test.YtfnfcmgbbijlnaaWf
import Derived.Test.YtfnfcmgbbijlnaaFxY
namespace Go.Proofs.Ytfnfcmgbbijlnaa
open Go Go.Fx
set_option linter.unusedVariables false
theorem words_len (xs : List Nat) : (words xs).length = xs.length / 8 := wlen xs _ _
theorem w12 (x : List Nat) (hx : x.length = 32) : VC Try.prog 12 [.row (.ints .u8 x)] (.one (.b (decide ((lessS (words x) order).2 = 1)))) := by
  refine VC.go Try.func12 rfl Try.ntmps12 rfl rfl fun O w => ?_
  refine Holds.seq ?_
  refine Holds.reg ?_
  refine OpsFrom.u (Y.boxR (d := 1) (up0 rfl rfl rfl) rfl rfl rfl) rfl rfl rfl ?_
  refine OpsFrom.v (Y.assign (up0 rfl rfl rfl) rfl rfl) rfl ?_
  refine OpsFrom.nil ?_
  refine Holds.seq ?_
  have ho : order.length = 4 := rfl
  have hwl := words_len
  have hll := lessS_len
  refine Holds.dr mx [([6], [3]), ([7], [3]), ([8], [10, 3]), ([9], [10, 3]), ([10], [8, 9, 3]), ([11], [3]), ([5], [3]), ([12], [13, 3]), ([13], [12, 3]), ([3], [6, 7, 8, 9, 10, 11, 5, 12, 13]), ([3], [13]), ([4], [])] (by kernel_rfl) ?_
  refine CertK.vd (Y.slArr0 ty23 ty5 (up0 rfl rfl rfl) rfl rfl rfl (by first | (with_reducible assumption) | omega | (simp only [*]; done) | (simp only [*]; omega) | (simp only [lens, *]; done) | (simp only [lens, *]; omega)) bnd0 bnd0 (by first | (with_reducible assumption) | omega | (simp only [*]; done) | (simp only [*]; omega) | (simp only [lens, *]; done) | (simp only [lens, *]; omega)) (by first | (with_reducible assumption) | omega | (simp only [*]; done) | (simp only [*]; omega) | (simp only [lens, *]; done) | (simp only [lens, *]; omega))) rfl rfl ?_
  refine CertK.u (Y.callF (d := 7) (w19 _ (by first | (with_reducible assumption) | omega | (simp only [*]; done) | (simp only [*]; omega) | (simp only [lens, *]; done) | (simp only [lens, *]; omega)) (by first | (with_reducible assumption) | omega | (simp only [*]; done) | (simp only [*]; omega) | (simp only [lens, *]; done) | (simp only [lens, *]; omega))) fnok19 (up0 rfl rfl rfl) rfl rfl (.cons _ _ _ _ rfl .nil) (.cons _ _ _ _ (.all rfl (by first | (with_reducible assumption) | omega | (simp only [*]; done) | (simp only [*]; omega) | (simp only [lens, *]; done) | (simp only [lens, *]; omega))) .nil) rfl rfl rfl) rfl rfl rfl rfl rfl ?_
  refine CertK.vd (Y.s2a ty38 (up0 rfl rfl rfl) rfl rfl (by first | (with_reducible assumption) | omega | (simp only [*]; done) | (simp only [*]; omega) | (simp only [lens, *]; done) | (simp only [lens, *]; omega)) (by decide)) rfl rfl ?_
  refine CertK.vd (Y.ldAll ty38 rfl (up0 rfl rfl rfl) rfl rfl rfl (by first | (with_reducible assumption) | omega | (simp only [*]; done) | (simp only [*]; omega) | (simp only [lens, *]; done) | (simp only [lens, *]; omega)) (by decide)) rfl rfl ?_
  refine CertK.vd (Y.callV w25 fnok25 (up0 rfl rfl rfl) rfl rfl .nil .nil rfl rfl) rfl rfl ?_
  refine CertK.vd (Y.callV (w24 _ _ (by first | (with_reducible assumption) | omega | (simp only [*]; done) | (simp only [*]; omega) | (simp only [lens, *]; done) | (simp only [lens, *]; omega)) (by first | (with_reducible assumption) | omega | (simp only [*]; done) | (simp only [*]; omega) | (simp only [lens, *]; done) | (simp only [lens, *]; omega))) fnok24 (up0 rfl rfl rfl) rfl rfl (.cons _ _ _ _ rfl (.cons _ _ _ _ rfl .nil)) (.cons _ _ _ _ (.same _) (.cons _ _ _ _ (.same _) .nil)) rfl rfl) rfl rfl ?_
  refine CertK.vd (Y.move (up0 rfl rfl rfl) rfl rfl) rfl rfl ?_
  refine CertK.vd (Y.ext0 (up0 rfl rfl rfl) rfl rfl) rfl rfl ?_
  refine CertK.vd (Y.ext1 (up0 rfl rfl rfl) rfl rfl) rfl rfl ?_
  refine CertK.u (Y.alloc (d := 3) ty38 rfl rfl (up0 rfl rfl rfl) rfl) rfl rfl rfl rfl rfl ?_
  refine CertK.n (Y.stR ty38 (upN rfl rfl) rfl rfl rfl rfl rfl (by first | (with_reducible assumption) | omega | (simp only [*]; done) | (simp only [*]; omega) | (simp only [lens, *]; done) | (simp only [lens, *]; omega)) (by first | (with_reducible assumption) | omega | (simp only [*]; done) | (simp only [*]; omega) | (simp only [lens, *]; done) | (simp only [lens, *]; omega)) (by decide)) rfl rfl rfl rfl ?_
  refine CertK.v (Y.assign (up0 rfl rfl rfl) rfl rfl) rfl ?_
  refine CertK.nil ?_
  refine Holds.seq ?_
  refine Holds.reg ?_
  refine OpsFrom.v (Y.move (up0 rfl rfl rfl) rfl rfl) rfl ?_
  refine OpsFrom.v (Y.eql (b := 1) (up0 rfl rfl rfl) rfl rfl rfl) rfl ?_
  refine OpsFrom.v (Y.assign (up0 rfl rfl rfl) rfl rfl) rfl ?_
  refine OpsFrom.nil ?_
  refine Holds.ret ?_
  exact Holds.ret1 (.inl rfl) rfl (.tmp _ _ rfl) (.same _) rfl

end Go.Proofs.Ytfnfcmgbbijlnaa
