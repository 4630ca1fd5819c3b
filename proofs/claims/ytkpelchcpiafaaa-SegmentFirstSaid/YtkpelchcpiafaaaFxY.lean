/-
  FxY: a slice of the call's own, taken for a pointer to an array.
-/
import Derived.Test.YtkpelchcpiafaaaFxX
namespace Go.Fx
section
variable {cx : Cx} {ops : Array Oper} {o : Oper} {F : Nat → Option AV} {H : Nat → Option Bk}
theorem Y.s2a {T E n by' id off len N : Nat} {z : Cs} {x : Operand} (hT : TyI cx.P T (.array N E) n by' z) (hu : Up cx ops F o) (ho : o.op = .sliceToArrayPointer T x) (hx : evF F x = some (.one (.sg id off len))) (hl : N = len) (h0 : N ≠ 0) :
    Doing cx ops o F H ⟨.one (.p id off), [], []⟩ :=
  Doing.val hu fun ρ A a w hs => by
    obtain ⟨ad, cap, hv, hcap, h⟩ := ev_rel hs hx
    rcases h with h | ⟨had, _⟩
    · omega
    refine ⟨.pointer (some ⟨(ρ id).blk, (ρ id).off + off, none⟩), ?_, rfl⟩
    simp only [execOp, ho, hv, had, Instr.arrayAt, Sem.run_bind, hT.run_und w, Result.andThen_ok, Sem.run_pure]
    rw [if_neg (by omega)]
    rfl
end
end Go.Fx
