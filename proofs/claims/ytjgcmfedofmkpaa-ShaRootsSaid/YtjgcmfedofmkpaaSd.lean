/-
  Rules: a slice of nothing grown by a number of zeros; the room of nothing.
-/
import Derived.Test.YtjgcmfedofmkpaaSa
namespace Go.Proofs.Ytjgcmfedofmkpaa
open Go Go.Fx
set_option linter.unusedVariables false
set_option linter.unusedSimpArgs false
theorem wrap_small {m : Nat} (h : m < 9223372036854775808) : IntKind.i64.wrap (m : Int) = (m : Int) := by
  simp only [IntKind.wrap, IntKind.signed, IntKind.bits]
  simp
  split <;> omega
theorem run_appendZ {P : Program} {w : World} {T T' E n by' n' b' bz m : Nat} {dE : TypeDesc} {k2 : IntKind} {z z' : Cs} {zz : Cs} (hT : TyI P T (.slice E) n by' z) (hE : TyI P E dE 1 bz zz) (hz1 : zz.len = 1) (hT' : TyI P T' (.int k2) n' b' z') (hbz : bz ≠ 0) {ty : TypeId} {ad : Option Addr}
    (hm : 0 < m) (hroom : (2 * m + 192) * bz ≤ 281474976710656) :
    ∃ (N : Nat) (cs : Array Value), m ≤ N ∧ cs.size = N ∧ (Builtin.append_ #[T, T'] ty #[.slice ad 0 0, .int .i64 m]).run P w =
      .ok (.slice (some ⟨w.heap.size, 0, none⟩) m N) { w with heap := w.heap.push (.cells cs E), drawn := w.drawn + 1 } := by
  obtain ⟨i, hi, hib, his⟩ := hE.run_bytes w
  obtain ⟨zv, hzv, hzvz⟩ := hE.run_zero w
  have e1 : (#[T, T'] : Array TypeId)[0]? = some T := rfl
  have e2 : (#[T, T'] : Array TypeId)[1]? = some T' := rfl
  have e3 : (#[Value.slice ad 0 0, Value.int .i64 m] : Array Value)[0]? = some (.slice ad 0 0) := rfl
  have e4 : (#[Value.slice ad 0 0, Value.int .i64 m] : Array Value)[1]? = some (.int .i64 m) := rfl
  have hns := Go.Fx.nextslicecap_le (c := 0) (n := m) hm
  have hmul : Builtin.nextslicecap m 0 * bz ≤ (2 * m + 192) * bz := Nat.mul_le_mul_right _ hns
  have hn1 : ¬ (Builtin.nextslicecap m 0 * bz > 2 ^ 48) := by omega
  have hmm : m ≤ m * bz := Nat.le_mul_of_pos_right m (by omega)
  have hmb : m * bz ≤ (2 * m + 192) * bz := Nat.mul_le_mul_right _ (by omega)
  have hw : IntKind.i64.wrap (m : Int) = (m : Int) := wrap_small (by omega)
  have hi' : ∀ k, (typeInfo E).run P { w with drawn := k } = .ok i { w with drawn := k } := fun k => by
    obtain ⟨i', v', hi2, _⟩ := hE.info
    have : i' = i := by simp [typeInfo, hi2] at hi; exact hi
    simp [typeInfo, hi2, this]
  have hz' : ∀ k, (zeroValue E).run P { w with drawn := k } = .ok zv { w with drawn := k } := fun k => by
    obtain ⟨i', v', hi2, _, _, hz2, _⟩ := hE.info
    have : v' = zv := by simp [zeroValue, typeInfo, hi2, hz2] at hzv; exact hzv
    simp [zeroValue, typeInfo, hi2, hz2, this]
  have hzs : zv.cells.size = 1 := by
    have h0 : zv.cells.toList.length = zz.vals.length := by rw [hzvz]
    rw [Array.length_toList] at h0
    rw [h0, ← hz1]; cases zz <;> simp [Cs.vals, Cs.len]
  have hmn : ¬ ((m : Int) * (bz : Int) > 2 ^ 48) := by
    have : ((m * bz : Nat) : Int) ≤ 281474976710656 := by omega
    rw [Int.natCast_mul] at this
    omega
  refine ⟨(Question.appendCap m 0 E).cut (w.tape w.drawn (Question.appendCap m 0 E)), #[] ++ Builtin.zeroCells zv.cells m ++ Builtin.zeroCells zv.cells ((Question.appendCap m 0 E).cut (w.tape w.drawn (Question.appendCap m 0 E)) - m), Nat.le_add_right _ _, ?_, ?_⟩
  · simp only [Builtin.zeroCells, Array.size_append, Array.size_map, Array.size_range, hzs, Array.size_empty]
    have : m ≤ (Question.appendCap m 0 E).cut (w.tape w.drawn (Question.appendCap m 0 E)) := Nat.le_add_right _ _
    omega
  · unfold Builtin.append_
    simp only [e1, e2, e3, e4, Sem.run_bind, hT.run_und w, hT'.run_und w, hE.run_size w, Result.andThen_ok, Sem.run_pure, Builtin.lenOf, if_true, asInt, asIntOf, hw]
    have hi0 := hi' w.drawn
    have hf : ∀ k, (Builtin.firstCells 1 0 (.slice ad 0 0)).run P { w with drawn := k } = .ok #[] { w with drawn := k } := fun k => by
      cases ad with
      | none => simp [Builtin.firstCells]
      | some a => simp [Builtin.firstCells, loadCells, loadCellsFrom]
    have hmx : ¬ ((m : Int) > IntKind.i64.max ∧ (True ∨ bz = 0)) := by
      rintro ⟨h, _⟩
      rw [show IntKind.i64.max = 9223372036854775807 from rfl] at h
      omega
    rw [if_neg (by omega)]
    simp only [Sem.run_bind, hi0, Result.andThen_ok, hib]
    rw [if_neg hmn]
    simp only [Sem.run_bind, Sem.run_pure, Result.andThen_ok, Int.toNat_natCast, Nat.zero_add]
    rw [if_neg (show ¬ m ≤ 0 by omega)]
    simp only [Sem.run_bind, hi0, Result.andThen_ok, hib]
    rw [if_neg hmx]
    simp only [Sem.run_bind, hi0, Result.andThen_ok, hib]
    rw [if_neg hn1]
    simp only [Sem.run_bind, run_choose, hi', Result.andThen_ok, run_askRoom, hf, hz', Bool.not_true, Bool.false_eq_true, if_false]
    rw [if_neg (show ¬ m * 1 = 0 by omega)]
    simp only [Sem.run_bind, Sem.run_pure, Result.andThen_ok, hz', newRow, run_newObj]
    simp only [Question.forced, Bool.false_eq_true, if_false, Result.andThen_ok, hi', hf, hz']
section
variable {cx : Cx} {ops : Array Oper} {o : Oper} {F : Nat → Option AV} {H : Nat → Option Bk}
/-- Nothing grown by zeros: of what it then holds nothing is told. -/
theorem Y.appZ {d T T' E n by' n' b' bz m : Nat} {dE : TypeDesc} {k2 k : IntKind} {z z' zz : Cs} {x y : Operand} {ats : Array TypeId} (hT : TyI cx.P T (.slice E) n by' z) (hE : TyI cx.P E dE 1 bz zz) (hz1 : zz.len = 1) (hT' : TyI cx.P T' (.int k2) n' b' z') (hbz : bz ≠ 0)
    (hu : Up cx ops F o) (ho : o.op = .call { callee := .builtin .append, args := #[x, y], argTypes := ats }) (hat : ats = #[T, T']) (hx : evF F x = some (.one .nil)) (hy : evF F y = some (.one (.n .i64 m))) (hm : 0 < m) (hroom : (2 * m + 192) * bz ≤ 281474976710656) :
    Doing cx ops o F H ⟨.one (.sg d 0 m), [(d, .own (.ints k []))], [d]⟩ := by
  intro F' H' hF hH hN ρ A a w hst K Q hK
  have hn := hN d (by simp)
  unfold StepOp
  rw [if_pos (hu.wanted (hst.sub hF hH))]
  have hxr := ev_rel hst (evF_mono hF hx)
  have hyr := ev_rel hst (evF_mono hF hy)
  obtain ⟨ad, e1⟩ : ∃ ad, a.eval x = .slice ad 0 0 := hxr
  obtain ⟨e2, _⟩ : a.eval y = .int .i64 m ∧ fits .i64 m := hyr
  obtain ⟨N, cs, g1, g2, g3⟩ := run_appendZ (P := cx.P) (w := w) (ty := o.type) (ad := ad) hT hE hz1 hT' hbz hm hroom
  have hexec : (execOp a.eval o).run cx.P w = ((Builtin.append_ #[T, T'] o.type #[.slice ad 0 0, .int .i64 m]).run cx.P w).andThen fun v w' => .ok (.value v) w' := by
    simp [execOp, ho, hat, resolve, invoke, builtin, e1, e2]
  unfold Oper.wp
  rw [hexec, g3]
  refine hK _ _ (upd' ρ d ⟨w.heap.size, 0, cs.size, true⟩) (fun b => A b ∨ b = w.heap.size) ?_
  rw [ovr_cons]
  refine (hst.alloc (w' := { w with heap := w.heap.push (.cells cs E), drawn := w.drawn + 1 }) hn (cs := cs) (T := E) (fz := (0, 0)) ⟨rfl, rfl, rfl, rfl⟩ (unfrozen0 _) (c := .ints k []) (Nat.zero_le _) (fun j hj => absurd hj (Nat.not_lt_zero _)) (by simp [Cs.ids]) (.inl rfl)).put hu.d ?_
  refine ⟨_, N, rfl, g1, .inr ⟨by simp [upd'], ?_⟩⟩
  simp only [upd', if_true, Nat.zero_add]
  omega
/-- The room of nothing. -/
theorem Y.capNil {T E n by' : Nat} {z : Cs} {x : Operand} {ats : Array TypeId} (hT : TyI cx.P T (.slice E) n by' z) (hu : Up cx ops F o) (ho : o.op = .call { callee := .builtin .cap, args := #[x], argTypes := ats }) (hat : ats[0]? = some T) (hx : evF F x = some (.one .nil)) :
    Doing cx ops o F H ⟨.one (.n .i64 0), [], []⟩ :=
  Doing.val hu fun ρ A act w hst => by
    obtain ⟨ad, h1⟩ : ∃ ad, act.eval x = .slice ad 0 0 := ev_rel hst hx
    refine ⟨.int .i64 0, ?_, rfl, fits.i64⟩
    simp [execOp, ho, resolve, invoke, builtin, Builtin.cap_, hat, h1, hT.run_und w, goInt]
/-- Nothing, sliced. -/
theorem Y.slNil {T E n by' bz : Nat} {d : TypeDesc} {z zz : Cs} {x : Operand} {hi : Option Operand} (hT : TyI cx.P T (.slice E) n by' z) (hE : TyI cx.P E d 1 bz zz) (hu : Up cx ops F o) (ho : o.op = .slice T x none hi none) (hx : evF F x = some (.one .nil))
    (hhi : Bnd F hi 0 0) : Doing cx ops o F H ⟨.one .nil, [], []⟩ :=
  Doing.val hu fun ρ A a w hs => by
    obtain ⟨ad, hv⟩ : ∃ ad, a.eval x = .slice ad 0 0 := ev_rel hs hx
    have hr := run_bounds hs (len := 0) (cap := 0) (lo := none) (l := 0) bnd0 hhi (Nat.le_refl _) (by omega) true
    simp only [Option.map_none] at hr
    refine ⟨.slice ad 0 0, ?_, ad, rfl⟩
    simp only [execOp, ho, hv, Instr.sliceAt, Instr.slice, Option.map_none, Sem.run_bind, Sem.run_pure, Result.andThen_ok, hT.run_und w, hr, hE.run_size w]
    rfl
end
end Go.Proofs.Ytjgcmfedofmkpaa
