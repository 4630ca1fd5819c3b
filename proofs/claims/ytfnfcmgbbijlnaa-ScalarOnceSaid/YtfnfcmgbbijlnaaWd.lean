/-
  Walks: Reduce, Fine, Order.
-/
import Derived.Test.YtfnfcmgbbijlnaaWc
namespace Go.Proofs.Ytfnfcmgbbijlnaa
open Go Go.Fx
set_option linter.unusedVariables false
theorem moduloB_len (xs : List Nat) : (moduloB xs).length = 32 := mblen xs _
theorem bytes_len (r : List Nat) : (bytes r).length = 32 := blen r 32 32
theorem w9 (x : List Nat) (hx : x.length = 64) : VC Try.prog 9 [.row (.ints .u8 x)] (.row (.ints .u8 (moduloB x))) := by
  refine VC.go Try.func9 rfl Try.ntmps9 rfl rfl fun O w => ?_
  refine Holds.seq ?_
  refine Holds.reg ?_
  refine OpsFrom.u (Y.boxR (d := 1) (up0 rfl rfl rfl) rfl rfl rfl) rfl rfl rfl ?_
  refine OpsFrom.u (Y.alloc (d := 2) ty23 rfl rfl (up0 rfl rfl rfl) rfl) rfl rfl rfl ?_
  refine OpsFrom.nil ?_
  refine Holds.seq ?_
  have hml := moduloB_len x
  refine Holds.reg ?_
  refine OpsFrom.v (Y.slArr0 ty22 ty5 (up0 rfl rfl rfl) rfl rfl rfl (by first | (with_reducible assumption) | omega | (simp only [*]; done) | (simp only [*]; omega) | (simp only [lens, *]; done) | (simp only [lens, *]; omega)) bnd0 bnd0 (by first | (with_reducible assumption) | omega | (simp only [*]; done) | (simp only [*]; omega) | (simp only [lens, *]; done) | (simp only [lens, *]; omega)) (by first | (with_reducible assumption) | omega | (simp only [*]; done) | (simp only [*]; omega) | (simp only [lens, *]; done) | (simp only [lens, *]; omega))) rfl ?_
  refine OpsFrom.v (Y.callV (w21 _ (by first | (with_reducible assumption) | omega | (simp only [*]; done) | (simp only [*]; omega) | (simp only [lens, *]; done) | (simp only [lens, *]; omega))) fnok21 (up0 rfl rfl rfl) rfl rfl (.cons _ _ _ _ rfl .nil) (.cons _ _ _ _ (.all rfl (by first | (with_reducible assumption) | omega | (simp only [*]; done) | (simp only [*]; omega) | (simp only [lens, *]; done) | (simp only [lens, *]; omega))) .nil) rfl rfl) rfl ?_
  refine OpsFrom.n (Y.stR ty23 (upN rfl rfl) rfl rfl rfl rfl rfl (by first | (with_reducible assumption) | omega | (simp only [*]; done) | (simp only [*]; omega) | (simp only [lens, *]; done) | (simp only [lens, *]; omega)) (by first | (with_reducible assumption) | omega | (simp only [*]; done) | (simp only [*]; omega) | (simp only [lens, *]; done) | (simp only [lens, *]; omega)) (by decide)) rfl rfl ?_
  refine OpsFrom.nil ?_
  refine Holds.ret ?_
  exact Holds.ret1 (.inl rfl) rfl (.rowN rfl rfl ty23 rfl (by first | (with_reducible assumption) | omega | (simp only [*]; done) | (simp only [*]; omega) | (simp only [lens, *]; done) | (simp only [lens, *]; omega)) (by decide)) (.same _) rfl
theorem w13 (x : List Nat) (hx : x.length = 32) (bx : Lt 256 x) : VC Try.prog 13 [.row (.ints .u8 x)] (.one (.b (decide (val 256 x < val 256 orderB)))) := by
  refine VC.go Try.func13 rfl Try.ntmps13 rfl rfl fun O w => ?_
  refine Holds.seq ?_
  refine Holds.reg ?_
  refine OpsFrom.u (Y.boxR (d := 1) (up0 rfl rfl rfl) rfl rfl rfl) rfl rfl rfl ?_
  refine OpsFrom.v (Y.assign (up0 rfl rfl rfl) rfl rfl) rfl ?_
  refine OpsFrom.nil ?_
  refine Holds.seq ?_
  refine Holds.dr mx [([3], [4]), ([4], [3]), ([5], []), ([2], [])] (by kernel_rfl) ?_
  refine CertK.vd (Y.ldAll ty23 rfl (up0 rfl rfl rfl) rfl rfl rfl (by first | (with_reducible assumption) | omega | (simp only [*]; done) | (simp only [*]; omega) | (simp only [lens, *]; done) | (simp only [lens, *]; omega)) (by decide)) rfl rfl ?_
  refine CertK.vd (Y.callV w15 fnok15 (up0 rfl rfl rfl) rfl rfl .nil .nil rfl rfl) rfl rfl ?_
  refine CertK.v (Y.callV (w26 _ _ (by first | (with_reducible assumption) | omega | (simp only [*]; done) | (simp only [*]; omega) | (simp only [lens, *]; done) | (simp only [lens, *]; omega)) rfl bx orderB_lt) fnok26 (up0 rfl rfl rfl) rfl rfl (.cons _ _ _ _ rfl (.cons _ _ _ _ rfl .nil)) (.cons _ _ _ _ (.same _) (.cons _ _ _ _ (.same _) .nil)) rfl rfl) rfl ?_
  refine CertK.v (Y.assign (up0 rfl rfl rfl) rfl rfl) rfl ?_
  refine CertK.nil ?_
  refine Holds.ret ?_
  exact Holds.ret1 (.inl rfl) rfl (.tmp _ _ rfl) (.same _) rfl
theorem w14  : VC Try.prog 14 [] (.row (.ints .u8 (bytes order))) := by
  refine VC.go Try.func14 rfl Try.ntmps14 rfl rfl fun O w => ?_
  refine Holds.seq ?_
  refine Holds.reg ?_
  refine OpsFrom.u (Y.alloc (d := 0) ty23 rfl rfl (up0 rfl rfl rfl) rfl) rfl rfl rfl ?_
  refine OpsFrom.nil ?_
  refine Holds.seq ?_
  have hbl := bytes_len order
  refine Holds.reg ?_
  refine OpsFrom.v (Y.callV w25 fnok25 (up0 rfl rfl rfl) rfl rfl .nil .nil rfl rfl) rfl ?_
  refine OpsFrom.v (Y.callV (w20 _ rfl) fnok20 (up0 rfl rfl rfl) rfl rfl (.cons _ _ _ _ rfl .nil) (.cons _ _ _ _ (.same _) .nil) rfl rfl) rfl ?_
  refine OpsFrom.n (Y.stR ty23 (upN rfl rfl) rfl rfl rfl rfl rfl (by first | (with_reducible assumption) | omega | (simp only [*]; done) | (simp only [*]; omega) | (simp only [lens, *]; done) | (simp only [lens, *]; omega)) (by first | (with_reducible assumption) | omega | (simp only [*]; done) | (simp only [*]; omega) | (simp only [lens, *]; done) | (simp only [lens, *]; omega)) (by decide)) rfl rfl ?_
  refine OpsFrom.nil ?_
  refine Holds.ret ?_
  exact Holds.ret1 (.inl rfl) rfl (.rowN rfl rfl ty23 rfl (by first | (with_reducible assumption) | omega | (simp only [*]; done) | (simp only [*]; omega) | (simp only [lens, *]; done) | (simp only [lens, *]; omega)) (by decide)) (.same _) rfl

end Go.Proofs.Ytfnfcmgbbijlnaa
