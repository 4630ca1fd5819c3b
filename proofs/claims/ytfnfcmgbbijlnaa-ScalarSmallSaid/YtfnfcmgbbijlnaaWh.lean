/-
  Walks: Reduce.
-/
import Derived.Test.YtfnfcmgbbijlnaaWg
namespace Go.Proofs.Ytfnfcmgbbijlnaa
open Go Go.Fx
set_option linter.unusedVariables false
theorem moduloS_len (xs : List Nat) : (moduloS xs).length = 4 := mslen xs _
theorem w8 (x : List Nat) (hx : x.length = 64) : VC Try.prog 8 [.row (.ints .u8 x)] (.row (.ints .u8 (bytes (moduloS (words x))))) := by
  refine VC.go Try.func8 rfl Try.ntmps8 rfl rfl fun O w => ?_
  refine Holds.seq ?_
  refine Holds.reg ?_
  refine OpsFrom.u (Y.boxR (d := 1) (up0 rfl rfl rfl) rfl rfl rfl) rfl rfl rfl ?_
  refine OpsFrom.u (Y.alloc (d := 2) ty23 rfl rfl (up0 rfl rfl rfl) rfl) rfl rfl rfl ?_
  refine OpsFrom.nil ?_
  refine Holds.seq ?_
  have hwl := words_len
  have hml := moduloS_len
  have hbl := bytes_len
  refine Holds.reg ?_
  refine OpsFrom.v (Y.slArr0 ty22 ty5 (up0 rfl rfl rfl) rfl rfl rfl (by first | (with_reducible assumption) | omega | (simp only [*]; done) | (simp only [*]; omega) | (simp only [lens, *]; done) | (simp only [lens, *]; omega)) bnd0 bnd0 (by first | (with_reducible assumption) | omega | (simp only [*]; done) | (simp only [*]; omega) | (simp only [lens, *]; done) | (simp only [lens, *]; omega)) (by first | (with_reducible assumption) | omega | (simp only [*]; done) | (simp only [*]; omega) | (simp only [lens, *]; done) | (simp only [lens, *]; omega))) rfl ?_
  refine OpsFrom.u (Y.callF (d := 4) (w19 _ (by first | (with_reducible assumption) | omega | (simp only [*]; done) | (simp only [*]; omega) | (simp only [lens, *]; done) | (simp only [lens, *]; omega)) (by first | (with_reducible assumption) | omega | (simp only [*]; done) | (simp only [*]; omega) | (simp only [lens, *]; done) | (simp only [lens, *]; omega))) fnok19 (up0 rfl rfl rfl) rfl rfl (.cons _ _ _ _ rfl .nil) (.cons _ _ _ _ (.all rfl (by first | (with_reducible assumption) | omega | (simp only [*]; done) | (simp only [*]; omega) | (simp only [lens, *]; done) | (simp only [lens, *]; omega))) .nil) rfl rfl rfl) rfl rfl rfl ?_
  refine OpsFrom.v (Y.callV (w18 _ (by first | (with_reducible assumption) | omega | (simp only [*]; done) | (simp only [*]; omega) | (simp only [lens, *]; done) | (simp only [lens, *]; omega))) fnok18 (up0 rfl rfl rfl) rfl rfl (.cons _ _ _ _ rfl .nil) (.cons _ _ _ _ (.all rfl (by first | (with_reducible assumption) | omega | (simp only [*]; done) | (simp only [*]; omega) | (simp only [lens, *]; done) | (simp only [lens, *]; omega))) .nil) rfl rfl) rfl ?_
  refine OpsFrom.v (Y.callV (w20 _ (by first | (with_reducible assumption) | omega | (simp only [*]; done) | (simp only [*]; omega) | (simp only [lens, *]; done) | (simp only [lens, *]; omega))) fnok20 (up0 rfl rfl rfl) rfl rfl (.cons _ _ _ _ rfl .nil) (.cons _ _ _ _ (.same _) .nil) rfl rfl) rfl ?_
  refine OpsFrom.n (Y.stR ty23 (upN rfl rfl) rfl rfl rfl rfl rfl (by first | (with_reducible assumption) | omega | (simp only [*]; done) | (simp only [*]; omega) | (simp only [lens, *]; done) | (simp only [lens, *]; omega)) (by first | (with_reducible assumption) | omega | (simp only [*]; done) | (simp only [*]; omega) | (simp only [lens, *]; done) | (simp only [lens, *]; omega)) (by decide)) rfl rfl ?_
  refine OpsFrom.nil ?_
  refine Holds.ret ?_
  exact Holds.ret1 (.inl rfl) rfl (.rowN rfl rfl ty23 rfl (by first | (with_reducible assumption) | omega | (simp only [*]; done) | (simp only [*]; omega) | (simp only [lens, *]; done) | (simp only [lens, *]; omega)) (by decide)) (.same _) rfl

end Go.Proofs.Ytfnfcmgbbijlnaa
