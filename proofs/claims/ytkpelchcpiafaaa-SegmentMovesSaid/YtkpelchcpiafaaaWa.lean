/-
  Walks.
-/
import Derived.Test.YtkpelchcpiafaaaFt
namespace Go.Proofs.Ytkpelchcpiafaaa
open Go Go.Fx
set_option linter.unusedVariables false
def rotl (x k : Nat) : Nat := (x * 2 ^ (k % 18446744073709551616 &&& 31) % 4294967296) ||| (x / 2 ^ ((32 + (18446744073709551616 - (k % 18446744073709551616 &&& 31))) % 18446744073709551616))
theorem w50 (x k : Nat) : VC Try.prog 50 [.one (.n .u32 x), .one (.n .i64 k)] (.one (.n .u32 (rotl x k))) := by
  refine VC.go Try.func50 rfl Try.ntmps50 rfl rfl fun O w => ?_
  refine Holds.seq ?_
  refine Holds.reg ?_
  refine OpsFrom.v (Y.assign (v := (.one (.n .u32 0))) (up0 rfl rfl rfl) rfl rfl) rfl ?_
  refine OpsFrom.nil ?_
  refine Holds.seq ?_
  refine Holds.reg ?_
  refine OpsFrom.v (Y.move (up0 rfl rfl rfl) rfl rfl) rfl ?_
  refine OpsFrom.v (Y.conv ty3.u ty67.u u64s u64m (up0 rfl rfl rfl) rfl rfl) rfl ?_
  refine OpsFrom.v (Y.and (b := 31) u64s u64m (up0 rfl rfl rfl) rfl rfl rfl) rfl ?_
  refine OpsFrom.v (Y.assign (up0 rfl rfl rfl) rfl rfl) rfl ?_
  refine OpsFrom.nil ?_
  refine Holds.seq ?_
  refine Holds.reg ?_
  refine OpsFrom.v (Y.move (up0 rfl rfl rfl) rfl rfl) rfl ?_
  refine OpsFrom.v (Y.move (up0 rfl rfl rfl) rfl rfl) rfl ?_
  refine OpsFrom.v (Y.shl u32s u32m (up0 rfl rfl rfl) rfl rfl rfl) rfl ?_
  refine OpsFrom.v (Y.move (up0 rfl rfl rfl) rfl rfl) rfl ?_
  refine OpsFrom.v (Y.move (up0 rfl rfl rfl) rfl rfl) rfl ?_
  refine OpsFrom.v (Y.sub (a := 32) u64s u64m (up0 rfl rfl rfl) rfl rfl rfl) rfl ?_
  refine OpsFrom.v (Y.shr u32s u32m (up0 rfl rfl rfl) rfl rfl rfl) rfl ?_
  refine OpsFrom.v (Y.or u32s u32m (up0 rfl rfl rfl) rfl rfl rfl) rfl ?_
  refine OpsFrom.v (Y.assign (up0 rfl rfl rfl) rfl rfl) rfl ?_
  refine OpsFrom.nil ?_
  refine Holds.ret ?_
  exact Holds.ret1 (.inl rfl) rfl (.tmp _ _ rfl) (.same _) rfl

end Go.Proofs.Ytkpelchcpiafaaa
