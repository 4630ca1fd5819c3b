/-
  FxW: calls that the model answers itself: Add64, Sub64.
-/
import Derived.Test.YtkpelchcpiafaaaFxT
import Derived.Laws.Externs
import Derived.Shelf.Spec.BitsCarry
namespace Go.Fx
open Go.RowKit (Below)
open Go.Proofs (sub64Entry run_sub64)

def ExtOK (P : Program) (f : Nat) (e : Array Value → Sem Value) : Prop := ∃ fn, P.funcs[f]? = some fn ∧ (fn.name == "runtime.NumGoroutine") = false ∧ fn.body.isNone = true ∧ Extern.findNext fn = none ∧ Extern.find fn = some e

section
variable {cx : Cx} {ops : Array Oper} {o : Oper} {F : Nat → Option AV} {H : Nat → Option Bk}
theorem run_call_ext {P : Program} {f : Nat} {e : Array Value → Sem Value} (hf : ExtOK P f e) {a : Act} {w : World} {x : Operand} {xs : List Operand} {ats : Array TypeId} (ho : o.op = .call { callee := .value x, args := xs.toArray, argTypes := ats }) (hx : a.eval x = .func (.func f) #[] #[]) :
    (execOp a.eval o).run P w = ((e (xs.map a.eval).toArray).run P w).andThen fun v w' => .ok (.value v) w' := by
  obtain ⟨fn, h1, h2, h3, h4, h5⟩ := hf
  simp only [execOp, ho, resolve, hx, Deferred.ofValue, List.map_toArray, Sem.run_bind, Sem.run_pure, Result.andThen_ok, invoke]
  rw [show (#[] ++ (xs.map a.eval).toArray ++ #[] : Array Value) = (xs.map a.eval).toArray by simp]
  exact run_callFunc_extern h1 h2 h3 h4 h5 _ _
theorem Y.add64 {f : Nat} {q x y z : Operand} {ats : Array TypeId} {a b c : Nat} (hf : ExtOK cx.P f add64Entry) (hu : Up cx ops F o) (ho : o.op = .call { callee := .value q, args := #[x, y, z], argTypes := ats }) (hq : evF F q = some (.one (.fn f [])))
    (hx : evF F x = some (.one (.n .u64 a))) (hy : evF F y = some (.one (.n .u64 b))) (hz : evF F z = some (.one (.n .u64 c))) (hc : c ≤ 1) :
    Doing cx ops o F H ⟨.two (.one (.n .u64 ((a + b + c) % 18446744073709551616))) (.one (.n .u64 ((a + b + c) / 18446744073709551616))), [], []⟩ :=
  Doing.val hu fun ρ A act w hs => by
    have hqr := ev_rel hs hq
    simp only [AV.Rel, SV.Rel, List.map_nil] at hqr
    obtain ⟨h1, f1⟩ := ev_rel hs hx
    obtain ⟨h2, f2⟩ := ev_rel hs hy
    obtain ⟨h3, f3⟩ := ev_rel hs hz
    have k1 := f1.lt rfl rfl
    have k2 := f2.lt rfl rfl
    refine ⟨.tuple #[.int .u64 (((a + b + c) % 18446744073709551616 : Nat) : Int), .int .u64 (((a + b + c) / 18446744073709551616 : Nat) : Int)], ?_, _, _, rfl, ⟨rfl, .inr (Nat.mod_lt _ (by decide))⟩, rfl, .inr ?_⟩
    · rw [run_call_ext (xs := [x, y, z]) hf ho hqr]
      simp only [List.map_cons, List.map_nil, h1, h2, h3]
      rw [run_add64 a b c (by omega) (by omega) (by omega) (by omega)]
      simp only [Result.andThen_ok]
      congr 5 <;> omega
    · simp only [IntKind.bits] at *
      omega
theorem Y.sub64 {f : Nat} {q x y z : Operand} {ats : Array TypeId} {a b c : Nat} (hf : ExtOK cx.P f sub64Entry) (hu : Up cx ops F o) (ho : o.op = .call { callee := .value q, args := #[x, y, z], argTypes := ats }) (hq : evF F q = some (.one (.fn f [])))
    (hx : evF F x = some (.one (.n .u64 a))) (hy : evF F y = some (.one (.n .u64 b))) (hz : evF F z = some (.one (.n .u64 c))) (hc : c ≤ 1) :
    Doing cx ops o F H ⟨.two (.one (.n .u64 ((a + 18446744073709551616 - b - c) % 18446744073709551616))) (.one (.n .u64 (if a < b + c then 1 else 0))), [], []⟩ :=
  Doing.val hu fun ρ A act w hs => by
    have hqr := ev_rel hs hq
    simp only [AV.Rel, SV.Rel, List.map_nil] at hqr
    obtain ⟨h1, f1⟩ := ev_rel hs hx
    obtain ⟨h2, f2⟩ := ev_rel hs hy
    obtain ⟨h3, f3⟩ := ev_rel hs hz
    refine ⟨.tuple #[.int .u64 (((a + 18446744073709551616 - b - c) % 18446744073709551616 : Nat) : Int), .int .u64 ((if a < b + c then 1 else 0 : Nat) : Int)], ?_, _, _, rfl, ⟨rfl, .inr (Nat.mod_lt _ (by decide))⟩, rfl, .inr ?_⟩
    · rw [run_call_ext (xs := [x, y, z]) hf ho hqr]
      simp only [List.map_cons, List.map_nil, h1, h2, h3]
      rw [run_sub64 a b c hc]
      rfl
    · split <;> decide
end
end Go.Fx
