/-
  Rules: the state of a sum as one value.
-/
import Derived.Test.YtjgcmfedofmkpaaFt
namespace Go.Proofs.Ytjgcmfedofmkpaa
open Go Go.Fx
set_option linter.unusedVariables false
set_option linter.unusedSimpArgs false
/-- The state of a sum. -/
structure St where
  b : Bool
  h : List Nat
  n : Nat
  r : List Nat
@[reducible] def St.cells (S : St) : List SV := [.b S.b, .n .u64 (S.h.getD 0 0), .n .u64 (S.h.getD 1 0), .n .u64 (S.h.getD 2 0), .n .u64 (S.h.getD 3 0), .n .u64 (S.h.getD 4 0), .n .u64 (S.h.getD 5 0), .n .u64 (S.h.getD 6 0), .n .u64 (S.h.getD 7 0), .n .u64 S.n, .bs false .u8 S.r]
@[reducible] def St.setB (S : St) (v : Bool) : St := ⟨v, S.h, S.n, S.r⟩
@[reducible] def St.setH (S : St) (v : List Nat) : St := ⟨S.b, v, S.n, S.r⟩
@[reducible] def St.setN (S : St) (v : Nat) : St := ⟨S.b, S.h, v, S.r⟩
@[reducible] def St.setR (S : St) (v : List Nat) : St := ⟨S.b, S.h, S.n, v⟩
theorem eight {i : Nat} (h : i < 8) : i = 0 ∨ i = 1 ∨ i = 2 ∨ i = 3 ∨ i = 4 ∨ i = 5 ∨ i = 6 ∨ i = 7 := by omega
theorem St.at_h {S : St} {i : Nat} (hi : i < 8) : (Cs.mix S.cells).at (1 + i) = .n .u64 (S.h.getD i 0) := by
  rcases eight hi with rfl | rfl | rfl | rfl | rfl | rfl | rfl | rfl <;> rfl
theorem St.lt_h {S : St} {i : Nat} (hi : i < 8) : 1 + i < (Cs.mix S.cells).len := by
  show 1 + i < 11
  omega
theorem St.row8 {S : St} : ∀ j, j < 8 → ((Cs.mix S.cells).sub 1 8).at j = (Cs.ints .u64 S.h).at j := by
  intro j hj
  rcases eight hj with rfl | rfl | rfl | rfl | rfl | rfl | rfl | rfl <;> rfl
theorem St.spl_b {S : St} {v : Bool} : Spl (.mix S.cells) 0 (.one (.b v)) (.mix (S.setB v).cells) := Spl.m (l := S.cells) (off := 0) (show 0 < 11 by decide)
theorem St.spl_n {S : St} {v : Nat} : Spl (.mix S.cells) 9 (.one (.n .u64 v)) (.mix (S.setN v).cells) := Spl.m (l := S.cells) (off := 9) (show 9 < 11 by decide)
theorem St.spl_r {S : St} {v : List Nat} : Spl (.mix S.cells) 10 (.one (.bs false .u8 v)) (.mix (S.setR v).cells) := Spl.m (l := S.cells) (off := 10) (show 10 < 11 by decide)
theorem St.set_h {S : St} {v i : Nat} (hi : i < 8) (hl : S.h.length = 8) : S.cells.set (1 + i) (.n .u64 v) = (S.setH (S.h.set i v)).cells := by
  obtain ⟨b, h, n, r⟩ := S
  match h, hl with
  | [a0, a1, a2, a3, a4, a5, a6, a7], _ => rcases eight hi with rfl | rfl | rfl | rfl | rfl | rfl | rfl | rfl <;> rfl
theorem St.spl_h {S : St} {v i : Nat} (hi : i < 8) (hl : S.h.length = 8) : Spl (.mix S.cells) (1 + i) (.one (.n .u64 v)) (.mix (S.setH (S.h.set i v)).cells) := by
  rw [← St.set_h hi hl]
  exact Spl.m (St.lt_h hi)
theorem stEq {S S' : St} (h : S = S') {τ : List (Nat × Nat)} : some (Bk.own (.mix S.cells)) = some (Bk.ren τ (.own (.mix S'.cells))) := by rw [h]; rfl
theorem stREq {S S' : St} (h : S = S') {τ : List (Nat × Nat)} : some (AV.row (.mix S.cells)) = some (AV.ren τ (.row (.mix S'.cells))) := by rw [h]; rfl
section
variable {cx : Cx} {ops : Array Oper} {o : Oper} {F : Nat → Option AV} {H : Nat → Option Bk}
theorem Doing.av {v v' : AV} (h : v = v') (hd : Doing cx ops o F H ⟨v, [], []⟩) : Doing cx ops o F H ⟨v', [], []⟩ := h ▸ hd
theorem Y.ldRowC {T : TypeId} {x : Operand} {n by' id off : Nat} {d : TypeDesc} {z c c' : Cs} (hT : TyI cx.P T d n by' z) (hd : TypeDesc.isAgg d = true) (hu : Up cx ops F o) (ho : o.op = .load T x) (hx : evF F x = some (.one (.p id off))) (hb : H id = some (.own c)) (hl : off + n ≤ c.len) (hn : n ≠ 0)
    (hl' : c'.len = n) (he : ∀ j, j < n → (c.sub off n).at j = c'.at j) : Doing cx ops o F H ⟨.row c', [], []⟩ :=
  Doing.val hu fun ρ A a w hs => by
    have h1 := ev_rel hs hx
    simp only [AV.Rel, SV.Rel] at h1
    obtain ⟨_, hcells⟩ := OwnB.cells (hs.hp id _ hb) (by omega)
    have hc' : ∀ j, j < c'.len → ∃ u, w.cell? ⟨(ρ id).blk, ((ρ id).off + off) + j, none⟩ = some u ∧ (c'.at j).Rel ρ A w u := by
      intro j hj
      rw [hl'] at hj
      obtain ⟨u, hu', hr⟩ := hcells (off + j) (by omega)
      exact ⟨u, by rw [Nat.add_assoc]; exact hu', by rw [← he j hj, Cs.sub_at hj]; exact hr⟩
    obtain ⟨cs, h2, h3, h4⟩ := run_loadCells_rel (P := cx.P) hc'
    rw [hl'] at h2
    refine ⟨.agg cs, ?_, cs, rfl, h3, h4⟩
    simp only [execOp, ho, h1, Instr.loadAt, Instr.sureAddr, loadVar, Sem.run_bind, Sem.run_pure, Result.andThen_ok, hT.run_isAgg w, hd, if_true, hT.run_size w, h2]
/-- The head of a state, as a row. -/
theorem Y.ldH {T : TypeId} {x : Operand} {by' id : Nat} {d : TypeDesc} {z : Cs} {S : St} (hT : TyI cx.P T d 8 by' z) (hd : TypeDesc.isAgg d = true) (hu : Up cx ops F o) (ho : o.op = .load T x) (hx : evF F x = some (.one (.p id 1))) (hb : H id = some (.own (.mix S.cells)))
    (hl : S.h.length = 8) : Doing cx ops o F H ⟨.row (.ints .u64 S.h), [], []⟩ :=
  Y.ldRowC hT hd hu ho hx hb (show 1 + 8 ≤ 11 by decide) (by decide) hl St.row8
/-- A word of the head. -/
theorem Y.ldHi {T : TypeId} {x : Operand} {n by' id i : Nat} {d : TypeDesc} {z : Cs} {S : St} (hT : TyI cx.P T d n by' z) (hd : TypeDesc.isAgg d = false) (hu : Up cx ops F o) (ho : o.op = .load T x) (hx : evF F x = some (.one (.p id (1 + i)))) (hb : H id = some (.own (.mix S.cells)))
    (hi : i < 8) : Doing cx ops o F H ⟨.one (.n .u64 (S.h.getD i 0)), [], []⟩ :=
  Doing.av (congrArg AV.one (St.at_h hi)) (Y.ld hT hd hu ho hx hb (St.lt_h hi))
theorem Y.stHi {T by' id i v : Nat} {d : TypeDesc} {z : Cs} {x y : Operand} {S : St} (hT : TyI cx.P T d 1 by' z) (hu : Up cx ops F o) (ho : o.op = .store T x y) (hx : evF F x = some (.one (.p id (1 + i)))) (hy : evF F y = some (.one (.n .u64 v)))
    (hb : H id = some (.own (.mix S.cells))) (hi : i < 8) (hl : S.h.length = 8) : Doing cx ops o F H ⟨.one .u, [(id, .own (.mix (S.setH (S.h.set i v)).cells))], []⟩ :=
  Y.st hT hu ho hx hy rfl rfl hb (St.spl_h hi hl) (by decide)
theorem St.splRow {h : List Nat} (hl : h.length = 8) {b : Bool} {s0 s1 s2 s3 s4 s5 s6 s7 s8 s9 : SV} : Spl (.mix [.b b, s0, s1, s2, s3, s4, s5, s6, s7, s8, s9]) 1 (.row (.ints .u64 h)) (.mix [.b b, .n .u64 (h.getD 0 0), .n .u64 (h.getD 1 0), .n .u64 (h.getD 2 0), .n .u64 (h.getD 3 0), .n .u64 (h.getD 4 0), .n .u64 (h.getD 5 0), .n .u64 (h.getD 6 0), .n .u64 (h.getD 7 0), s8, s9]) := by
  refine ⟨rfl, ?_, ?_⟩
  · show 1 + h.length ≤ 11
    omega
  · intro j hj
    have hj' : j < 11 := hj
    have hc : (AV.row (.ints .u64 h)).clen = 8 := hl
    rw [hc]
    rcases (by omega : j = 0 ∨ j = 1 ∨ j = 2 ∨ j = 3 ∨ j = 4 ∨ j = 5 ∨ j = 6 ∨ j = 7 ∨ j = 8 ∨ j = 9 ∨ j = 10) with rfl | rfl | rfl | rfl | rfl | rfl | rfl | rfl | rfl | rfl | rfl <;> rfl
/-- A new state: its rest is nothing. -/
theorem Y.buildSt {T by' : Nat} {fs : Array Field} {z : Cs} {parts : List (Nat × Operand)} (pl : List (Nat × Nat)) (S : St) (hr : S.r = []) (hT : TyI cx.P T (.struct fs) 11 by' z) (hz : z.plain = true)
    (hpl : fs.toList.mapM (fun f => (cx.P.info? f.type).map fun i => (f.offset, i.size)) = some pl) (hu : Up cx ops F o) (ho : o.op = .build T parts.toArray)
    (hf : Fill F (fun i => pl.toArray[i]?) parts z (.mix [.b S.b, .n .u64 (S.h.getD 0 0), .n .u64 (S.h.getD 1 0), .n .u64 (S.h.getD 2 0), .n .u64 (S.h.getD 3 0), .n .u64 (S.h.getD 4 0), .n .u64 (S.h.getD 5 0), .n .u64 (S.h.getD 6 0), .n .u64 (S.h.getD 7 0), .n .u64 S.n, .nil])) : Doing cx ops o F H ⟨.row (.mix S.cells), [], []⟩ :=
  Doing.val hu fun ρ A a w hs => by
    obtain ⟨v, hv, hvz⟩ := hT.run_zero w
    obtain ⟨h1, h2⟩ := Cs.vals_at hz ρ A w
    obtain ⟨cs, g1, g2, g3⟩ := hf.run hs (cells := v.cells) (by rw [← h1, ← hvz]; simp) (fun j hj => by
      obtain ⟨u, hu', hr⟩ := h2 j hj
      exact ⟨u, by rw [← Array.getElem?_toList, hvz]; exact hu', hr⟩)
    refine ⟨.agg cs, ?_, cs, rfl, g2, fun j hj => ?_⟩
    · simp only [execOp, ho, Instr.build, Sem.run_bind, hv, Result.andThen_ok, hT.run_und w, List.map_toArray]
      erw [places_of hpl w]
      simp only [Result.andThen_ok, g1, Sem.run_pure]
    · obtain ⟨u, hu', hr'⟩ := g3 j hj
      refine ⟨u, hu', ?_⟩
      have hj' : j < 11 := hj
      rcases (by omega : j = 0 ∨ j = 1 ∨ j = 2 ∨ j = 3 ∨ j = 4 ∨ j = 5 ∨ j = 6 ∨ j = 7 ∨ j = 8 ∨ j = 9 ∨ j = 10) with rfl | rfl | rfl | rfl | rfl | rfl | rfl | rfl | rfl | rfl | rfl
      · exact hr'
      · exact hr'
      · exact hr'
      · exact hr'
      · exact hr'
      · exact hr'
      · exact hr'
      · exact hr'
      · exact hr'
      · exact hr'
      · show SV.Rel ρ A w (.bs false .u8 S.r) u
        rw [hr]
        obtain ⟨ad, rfl⟩ : ∃ ad, u = .slice ad 0 0 := hr'
        exact ⟨ad, 0, rfl, Nat.le_refl _, fun _ => rfl, .inl rfl⟩
end
end Go.Proofs.Ytjgcmfedofmkpaa
