/-
  Rules: a slice of structs of an int and three bytes: its length, its elements' fields; such an argument at the top of a law.
-/
import Derived.Test.YtnfiiclmbiiokaaFt
import Derived.Test.YtnfiiclmbiiokaaFc
namespace Go.Proofs.Ytnfiiclmbiiokaa
open Go Go.Fx
set_option linter.unusedVariables false
set_option linter.unusedSimpArgs false
section
variable {cx : Cx} {ops : Array Oper} {o : Oper} {F : Nat → Option AV} {H : Nat → Option Bk} {T E : TypeId} {x y : Operand} {n by' bz i m : Nat} {d : TypeDesc} {z zz : Cs} {k : IntKind}
theorem Y.iaSs {xs : List (Int × Nat × Nat × Nat)} (hT : TyI cx.P T (.slice E) n by' z) (hE : TyI cx.P E d 4 bz zz) (hu : Up cx ops F o) (ho : o.op = .indexAddr T x y) (hx : evF F x = some (.one (.ss xs))) (hy : evF F y = some (.one (.n k i))) (hi : i < xs.length) :
    Doing cx ops o F H ⟨.one (.sp (xs.getD i (0, 0, 0, 0))), [], []⟩ :=
  Doing.val hu fun ρ A a w hs => by
    obtain ⟨ad, cap, hv, hcap, h0⟩ := ev_rel hs hx
    have h2 := ev_rel hs hy
    simp only [AV.Rel, SV.Rel] at h2
    rcases h0 with h0 | ⟨b, off, had, hA, _, hc⟩
    · omega
    refine ⟨.pointer (some ⟨b, off + i * 4, none⟩), ?_, b, off + i * 4, rfl, hA, hc i hi⟩
    simp only [execOp, ho, hv, h2, had, Instr.indexAt, asIntOf, Sem.run_bind, Sem.run_pure, Result.andThen_ok, hT.run_und w]
    rw [if_pos ⟨by omega, by omega⟩]
    simp only [Sem.run_bind, hE.run_size w, Result.andThen_ok, Int.toNat_natCast, Sem.run_pure, addr_add]
theorem fa_run {fs : Array Field} {fld : Field} {f b off : Nat} {a : Act} {w : World} (hT : TyI cx.P T (.struct fs) n by' z) (hf : fs[f]? = some fld) (hE : TyI cx.P fld.type d m bz zz) (hm : m ≠ 0) (ho : o.op = .fieldAddr T x f) (hv : a.eval x = .pointer (some ⟨b, off, none⟩)) :
    (execOp a.eval o).run cx.P w = .ok (.value (.pointer (some ⟨b, off + fld.offset, none⟩))) w := by
  simp only [execOp, ho, hv, Instr.fieldAt, Instr.sureAddr, fieldPlace, Sem.run_bind, Sem.run_pure, Result.andThen_ok, hT.run_und w, hf, hE.run_size w]
  rw [if_neg hm]
  simp only [Sem.run_pure, Result.andThen_ok, addr_add, Nat.add_assoc]
variable {fs : Array Field} {fld : Field} {f : Nat} {v : Int × Nat × Nat × Nat}
theorem Y.faSp0 (hT : TyI cx.P T (.struct fs) n by' z) (hf : fs[f]? = some fld) (hE : TyI cx.P fld.type d m bz zz) (hm : m ≠ 0) (hu : Up cx ops F o) (ho : o.op = .fieldAddr T x f) (hx : evF F x = some (.one (.sp v))) (h0 : fld.offset = 0) :
    Doing cx ops o F H ⟨.one (.pz v.1), [], []⟩ :=
  Doing.val hu fun ρ A a w hs => by
    obtain ⟨b, off, hv, hA, h1, _⟩ := ev_rel hs hx
    refine ⟨_, fa_run hT hf hE hm ho hv, b, off + fld.offset, rfl, hA, ?_⟩
    rw [h0]
    exact h1
theorem Y.faSp1 (hT : TyI cx.P T (.struct fs) n by' z) (hf : fs[f]? = some fld) (hE : TyI cx.P fld.type d m bz zz) (hm : m ≠ 0) (hu : Up cx ops F o) (ho : o.op = .fieldAddr T x f) (hx : evF F x = some (.one (.sp v))) (h0 : fld.offset = 1) :
    Doing cx ops o F H ⟨.one (.pc .u8 v.2.1), [], []⟩ :=
  Doing.val hu fun ρ A a w hs => by
    obtain ⟨b, off, hv, hA, _, ⟨h1, h2⟩, _⟩ := ev_rel hs hx
    refine ⟨_, fa_run hT hf hE hm ho hv, b, off + fld.offset, rfl, hA, ?_, h2⟩
    rw [h0]
    exact h1
theorem Y.faSp2 (hT : TyI cx.P T (.struct fs) n by' z) (hf : fs[f]? = some fld) (hE : TyI cx.P fld.type d m bz zz) (hm : m ≠ 0) (hu : Up cx ops F o) (ho : o.op = .fieldAddr T x f) (hx : evF F x = some (.one (.sp v))) (h0 : fld.offset = 2) :
    Doing cx ops o F H ⟨.one (.pc .u8 v.2.2.1), [], []⟩ :=
  Doing.val hu fun ρ A a w hs => by
    obtain ⟨b, off, hv, hA, _, _, ⟨h1, h2⟩, _⟩ := ev_rel hs hx
    refine ⟨_, fa_run hT hf hE hm ho hv, b, off + fld.offset, rfl, hA, ?_, h2⟩
    rw [h0]
    exact h1
theorem Y.faSp3 (hT : TyI cx.P T (.struct fs) n by' z) (hf : fs[f]? = some fld) (hE : TyI cx.P fld.type d m bz zz) (hm : m ≠ 0) (hu : Up cx ops F o) (ho : o.op = .fieldAddr T x f) (hx : evF F x = some (.one (.sp v))) (h0 : fld.offset = 3) :
    Doing cx ops o F H ⟨.one (.pc .u8 v.2.2.2), [], []⟩ :=
  Doing.val hu fun ρ A a w hs => by
    obtain ⟨b, off, hv, hA, _, _, _, ⟨h1, h2⟩⟩ := ev_rel hs hx
    refine ⟨_, fa_run hT hf hE hm ho hv, b, off + fld.offset, rfl, hA, ?_, h2⟩
    rw [h0]
    exact h1
theorem Y.ldPz {v : Int} (hT : TyI cx.P T d n by' z) (hd : TypeDesc.isAgg d = false) (hu : Up cx ops F o) (ho : o.op = .load T x) (hx : evF F x = some (.one (.pz v))) : Doing cx ops o F H ⟨.one (.z v), [], []⟩ :=
  Doing.val hu fun ρ A a w hs => by
    obtain ⟨b, of, h1, _, hc⟩ := ev_rel hs hx
    refine ⟨_, ?_, rfl⟩
    simp only [execOp, ho, h1, Instr.loadAt, Instr.sureAddr, loadVar, Sem.run_bind, Sem.run_pure, Result.andThen_ok, hT.run_isAgg w, hd, Bool.false_eq_true, if_false, run_load, hc]
end
open Go.ChangeShapes Go.WideShapes Go.ChangeAt
theorem list_of {α : Type} (z : α) {Q : Nat → α → Prop} : ∀ n, (∀ i, i < n → ∃ x, Q i x) → ∃ xs : List α, xs.length = n ∧ ∀ i, i < n → Q i (xs.getD i z)
  | 0, _ => ⟨[], rfl, fun i h => absurd h (Nat.not_lt_zero _)⟩
  | n + 1, h => by
    obtain ⟨xs, hl, hx⟩ := list_of z n (fun i hi => h i (by omega))
    obtain ⟨x, hq⟩ := h n (by omega)
    refine ⟨xs ++ [x], by simp [hl], fun i hi => ?_⟩
    by_cases hin : i < n
    · have e : (xs ++ [x]).getD i z = xs.getD i z := by simp [List.getD_eq_getElem?_getD, List.getElem?_append_left (show i < xs.length by omega)]
      rw [e]
      exact hx i hin
    · obtain rfl : i = n := by omega
      have e : (xs ++ [x]).getD i z = x := by simp [List.getD_eq_getElem?_getD, ← hl]
      rw [e]
      exact hq
section
variable {H : Type} {enc : TypeId × Value → H} {P : Program} {W : World} {base : Nat} {t e : TypeId} {v : Value} {d : DataW H} {ps : List MemPlace}
theorem top_structs {f0 f1 f2 f3 : Field} (ht : P.underlying t = some (.slice e)) (he : P.underlying e = some (.struct #[f0, f1, f2, f3])) (hc : P.cellsOf e = 4)
    (o0 : f0.offset = 0) (o1 : f1.offset = 1) (o2 : f2.offset = 2) (o3 : f3.offset = 3) (u0 : P.underlying f0.type = some (.int .i64)) (u1 : P.underlying f1.type = some (.int .u8)) (u2 : P.underlying f2.type = some (.int .u8)) (u3 : P.underlying f3.type = some (.int .u8))
    (c0 : P.cellsOf f0.type = 1) (c1 : P.cellsOf f1.type = 1) (c2 : P.cellsOf f2.type = 1) (c3 : P.cellsOf f3.type = 1)
    (hval : Value.okWide P W .any base t v) (hd : DataW.Trod enc P W 0 (fun _ => true) true t v d ps) : ∃ xs : List (Int × Nat × Nat × Nat), (AV.one (.ss xs)).Rel ρz none' W v := by
  obtain ⟨a, len, cap, rfl⟩ := okWide_slice ht hval
  obtain ⟨fuel, hf⟩ := hd
  rcases DataW.trod_slice ht hf with ⟨hcs, _⟩ | ⟨x, l, c, elems, rest, n, _, hcs, _, _, hl, hm, hlen, hel, hsp, _⟩
  · simp [Value.cells] at hcs
    obtain ⟨rfl, rfl, rfl⟩ := hcs
    exact ⟨[], none, 0, rfl, Nat.le_refl _, .inl rfl⟩
  · simp [Value.cells] at hcs
    obtain ⟨rfl, rfl, rfl⟩ := hcs
    by_cases hz : cap = 0
    · obtain rfl : len = 0 := by omega
      exact ⟨[], some x, cap, rfl, Nat.zero_le _, .inl hz⟩
    have one : ∀ i y, (W.cells? 0 (x.add (i * P.cellsOf e)) (P.cellsOf e)).bind (DataW.trod enc P W 0 (fun _ => true) true n e) = some y →
        ∃ q : Int × Nat × Nat × Nat, W.cell? (x.add (i * 4)) = some (.int .i64 q.1) ∧ (W.cell? ((x.add (i * 4)).add 1) = some (.int .u8 q.2.1) ∧ fits .u8 q.2.1) ∧ (W.cell? ((x.add (i * 4)).add 2) = some (.int .u8 q.2.2.1) ∧ fits .u8 q.2.2.1) ∧ (W.cell? ((x.add (i * 4)).add 3) = some (.int .u8 q.2.2.2) ∧ fits .u8 q.2.2.2) := by
      intro i y hy
      rw [hc, Option.bind_eq_some_iff] at hy
      obtain ⟨cs, hcs, hy⟩ := hy
      obtain ⟨ys, m, _, _, hlc, hly, hfld⟩ := DataW.trod_struct he hy
      obtain ⟨_, hcl, hcell⟩ := World.cells?_some hcs
      obtain ⟨v0, v1, v2, v3, rfl⟩ : ∃ v0 v1 v2 v3, cs = [v0, v1, v2, v3] := by
        match cs, hcl with
        | [v0, v1, v2, v3], _ => exact ⟨v0, v1, v2, v3, rfl⟩
      obtain ⟨y0, y1, y2, y3, rfl⟩ : ∃ y0 y1 y2 y3, ys = [y0, y1, y2, y3] := by
        match ys, hly with
        | [y0, y1, y2, y3], _ => exact ⟨y0, y1, y2, y3, rfl⟩
      have g0 := hfld 0 f0 rfl
      have g1 := hfld 1 f1 rfl
      have g2 := hfld 2 f2 rfl
      have g3 := hfld 3 f3 rfl
      rw [o0, c0] at g0
      rw [o1, c1] at g1
      rw [o2, c2] at g2
      rw [o3, c3] at g3
      obtain ⟨m0, e0, _, w0⟩ := DataW.trod_int u0 g0
      obtain ⟨m1, e1, _, w1⟩ := DataW.trod_int u1 g1
      obtain ⟨m2, e2, _, w2⟩ := DataW.trod_int u2 g2
      obtain ⟨m3, e3, _, w3⟩ := DataW.trod_int u3 g3
      obtain ⟨n1, rfl, l1⟩ := fits_wf (k := .u8) rfl w1
      obtain ⟨n2, rfl, l2⟩ := fits_wf (k := .u8) rfl w2
      obtain ⟨n3, rfl, l3⟩ := fits_wf (k := .u8) rfl w3
      simp only [List.drop_zero, List.drop_succ_cons, List.take_succ_cons, List.take_zero, List.cons.injEq, and_true] at e0 e1 e2 e3
      subst e0 e1 e2 e3
      refine ⟨(m0, n1, n2, n3), ?_, ⟨?_, .inr l1⟩, ⟨?_, .inr l2⟩, ⟨?_, .inr l3⟩⟩
      · have := hcell 0 (by decide)
        simpa [Addr.add] using this
      · exact hcell 1 (by decide)
      · exact hcell 2 (by decide)
      · exact hcell 3 (by decide)
    have any : ∃ y, (W.cells? 0 (x.add (0 * P.cellsOf e)) (P.cellsOf e)).bind (DataW.trod enc P W 0 (fun _ => true) true n e) = some y := by
      by_cases h0 : 0 < len
      · rw [hel 0 h0]
        exact ⟨_, List.getElem?_eq_getElem (by omega)⟩
      · obtain ⟨hrl, hr⟩ := hsp rfl
        have := hr 0 (by omega)
        rw [show len + 0 = 0 by omega] at this
        rw [this]
        exact ⟨_, List.getElem?_eq_getElem (by omega)⟩
    obtain ⟨b, o, s⟩ := x
    obtain ⟨y, hy⟩ := any
    obtain ⟨q, hq, _⟩ := one 0 y hy
    have hs : s = none := by
      unfold World.cell? at hq
      simp only [Addr.add] at hq
      split at hq
      · cases s with
        | none => rfl
        | some q => simp at hq
      · cases hq
    subst hs
    have each : ∀ i, i < len → ∃ q, TC W b (o + i * 4) q := by
      intro i hi
      have h1 := hel i hi
      rw [List.getElem?_eq_getElem (by omega)] at h1
      obtain ⟨q, k0, k1, k2, k3⟩ := one i _ h1
      simp only [addr_add] at k0 k1 k2 k3
      exact ⟨q, k0, k1, k2, k3⟩
    obtain ⟨xs, hxl, hx⟩ := list_of (0, 0, 0, 0) len each
    subst hxl
    exact ⟨xs, some ⟨b, o, none⟩, cap, rfl, hl, .inr ⟨b, o, rfl, fun h => h, World.block_lt_of_cell? _ _ hq, hx⟩⟩
end
end Go.Proofs.Ytnfiiclmbiiokaa
