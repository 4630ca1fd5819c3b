/-
  FxG: places, rows, slices, loads; strings; arrays held against each other.
-/
import Derived.Test.YtkpelchcpiafaaaFxE
import Derived.ChangeKeysEq
import Derived.Laws.BytesArg
namespace Go.Fx
open Go.RowKit (Below)

/-- A piece of a row. -/
def Cs.sub (c : Cs) (off n : Nat) : Cs :=
  match c with
  | .ints k xs => .ints k ((xs.drop off).take n)
  | .mix l => .mix ((l.drop off).take n)
theorem Cs.sub_len {c : Cs} {off n : Nat} (h : off + n ≤ c.len) : (c.sub off n).len = n := by
  cases c <;> simp only [Cs.sub, Cs.len, List.length_take, List.length_drop] at * <;> omega
theorem Cs.sub_at {c : Cs} {off n j : Nat} (hj : j < n) : (c.sub off n).at j = c.at (off + j) := by
  cases c <;> simp [Cs.sub, Cs.at, List.getD_eq_getElem?_getD, hj]

theorem TypeDesc.agg_cases {d : TypeDesc} (h : TypeDesc.isAgg d = true) : (∃ fs, d = .struct fs) ∨ ∃ n e, d = .array n e := by
  cases d <;> simp [TypeDesc.isAgg] at h
  · exact .inr ⟨_, _, rfl⟩
  · exact .inl ⟨_, rfl⟩

section
variable {cx : Cx} {ops : Array Oper} {o : Oper} {F : Nat → Option AV} {H : Nat → Option Bk}

/-! ### Parts of a row -/
section part
variable {P : Program} {w : World} {ρ : Nat → Loc} {A : Nat → Prop} {E : TypeId} {d : TypeDesc} {n by' : Nat} {z : Cs} {cs : Array Value} {c : Cs} {off : Nat}
theorem run_part_one (hE : TyI P E d n by' z) (hd : TypeDesc.isAgg d = false) (_hs : cs.size = c.len) (hc : ∀ j, j < c.len → ∃ u, cs[j]? = some u ∧ (c.at j).Rel ρ A w u) (ho : off < c.len) :
    ∃ v, (part E cs off).run P w = .ok v w ∧ (AV.one (c.at off)).Rel ρ A w v := by
  obtain ⟨u, hu, hr⟩ := hc off ho
  refine ⟨u, ?_, hr⟩
  unfold part
  simp only [Sem.run_bind, hE.run_isAgg w, hd, Result.andThen_ok, Bool.false_eq_true, if_false, hu, Sem.run_pure]
theorem run_part_row (hE : TyI P E d n by' z) (hd : TypeDesc.isAgg d = true) (hs : cs.size = c.len) (hc : ∀ j, j < c.len → ∃ u, cs[j]? = some u ∧ (c.at j).Rel ρ A w u) (ho : off + n ≤ c.len) :
    ∃ v, (part E cs off).run P w = .ok v w ∧ (AV.row (c.sub off n)).Rel ρ A w v := by
  refine ⟨.agg (cs.extract off (off + n)), ?_, _, rfl, ?_, ?_⟩
  · unfold part
    simp only [Sem.run_bind, hE.run_isAgg w, hd, Result.andThen_ok, if_true, hE.run_size w, Sem.run_pure]
  · rw [Cs.sub_len ho]; simp; omega
  · intro j hj
    rw [Cs.sub_len ho] at hj
    obtain ⟨u, hu, hr⟩ := hc (off + j) (by omega)
    refine ⟨u, ?_, by rw [Cs.sub_at hj]; exact hr⟩
    rw [Array.getElem?_extract]
    rw [if_pos (by omega)]
    exact hu
end part

section index
variable {T E T' : TypeId} {x y : Operand} {N n by' bz i : Nat} {d : TypeDesc} {z zz : Cs} {c : Cs} {k : IntKind}
theorem Y.idx (hT : TyI cx.P T (.array N E) n by' z) (hE : TyI cx.P E d 1 bz zz) (hd : TypeDesc.isAgg d = false) (hu : Up cx ops F o) (ho : o.op = .index T x y) (hx : evF F x = some (.row c)) (hy : evF F y = some (.one (.n k i))) (hi : i < N) (hl : i < c.len) :
    Doing cx ops o F H ⟨.one (c.at i), [], []⟩ :=
  Doing.val hu fun ρ A a w hs => by
    obtain ⟨cs, hv, hsz, hc⟩ := ev_rel hs hx
    have h2 := ev_rel hs hy
    simp only [AV.Rel, SV.Rel] at h2
    obtain ⟨v, h3, h4⟩ := run_part_one (P := cx.P) hE hd hsz hc (off := i) hl
    refine ⟨v, ?_, h4⟩
    simp only [execOp, ho, hv, h2, Instr.index, asIntOf, Sem.run_bind, Sem.run_pure, Result.andThen_ok, hT.run_und w]
    rw [if_pos ⟨by omega, by omega⟩]
    simp only [Sem.run_bind, hE.run_size w, Result.andThen_ok, Nat.mul_one, Int.toNat_natCast, h3]
theorem Y.idxRow {sz : Nat} (hT : TyI cx.P T (.array N E) n by' z) (hE : TyI cx.P E d sz bz zz) (hd : TypeDesc.isAgg d = true) (hu : Up cx ops F o) (ho : o.op = .index T x y) (hx : evF F x = some (.row c)) (hy : evF F y = some (.one (.n k i))) (hi : i < N) (hl : i * sz + sz ≤ c.len) :
    Doing cx ops o F H ⟨.row (c.sub (i * sz) sz), [], []⟩ :=
  Doing.val hu fun ρ A a w hs => by
    obtain ⟨cs, hv, hsz, hc⟩ := ev_rel hs hx
    have h2 := ev_rel hs hy
    simp only [AV.Rel, SV.Rel] at h2
    obtain ⟨v, h3, h4⟩ := run_part_row (P := cx.P) hE hd hsz hc (off := i * sz) hl
    refine ⟨v, ?_, h4⟩
    simp only [execOp, ho, hv, h2, Instr.index, asIntOf, Sem.run_bind, Sem.run_pure, Result.andThen_ok, hT.run_und w]
    rw [if_pos ⟨by omega, by omega⟩]
    simp only [Sem.run_bind, hE.run_size w, Result.andThen_ok, Int.toNat_natCast, h3]
end index

section field
variable {T E : TypeId} {x : Operand} {fs : Array Field} {fld : Field} {f n m by' bz : Nat} {d : TypeDesc} {z zz c : Cs}
theorem Y.fieldOne (hT : TyI cx.P T (.struct fs) n by' z) (hf : fs[f]? = some fld) (hE : TyI cx.P fld.type d m bz zz) (hd : TypeDesc.isAgg d = false) (hu : Up cx ops F o) (ho : o.op = .field T x f) (hx : evF F x = some (.row c)) (hl : fld.offset < c.len) :
    Doing cx ops o F H ⟨.one (c.at fld.offset), [], []⟩ :=
  Doing.val hu fun ρ A a w hs => by
    obtain ⟨cs, hv, hsz, hc⟩ := ev_rel hs hx
    obtain ⟨v, h3, h4⟩ := run_part_one (P := cx.P) hE hd hsz hc hl
    refine ⟨v, ?_, h4⟩
    simp only [execOp, ho, hv, Instr.field, asAgg, Sem.run_bind, Sem.run_pure, Result.andThen_ok, hT.run_und w, hf, h3]
theorem Y.fieldRow (hT : TyI cx.P T (.struct fs) n by' z) (hf : fs[f]? = some fld) (hE : TyI cx.P fld.type d m bz zz) (hd : TypeDesc.isAgg d = true) (hu : Up cx ops F o) (ho : o.op = .field T x f) (hx : evF F x = some (.row c)) (hl : fld.offset + m ≤ c.len) :
    Doing cx ops o F H ⟨.row (c.sub fld.offset m), [], []⟩ :=
  Doing.val hu fun ρ A a w hs => by
    obtain ⟨cs, hv, hsz, hc⟩ := ev_rel hs hx
    obtain ⟨v, h3, h4⟩ := run_part_row (P := cx.P) hE hd hsz hc hl
    refine ⟨v, ?_, h4⟩
    simp only [execOp, ho, hv, Instr.field, asAgg, Sem.run_bind, Sem.run_pure, Result.andThen_ok, hT.run_und w, hf, h3]
end field

/-! ### Places -/
section place
variable {T E : TypeId} {x y : Operand} {N n by' bz i id off len : Nat} {d : TypeDesc} {z zz : Cs} {k ki : IntKind}
/-- The place of an array's i-th element, of one cell. -/
theorem Y.ia (hT : TyI cx.P T (.array N E) n by' z) (hE : TyI cx.P E d 1 bz zz) (hu : Up cx ops F o) (ho : o.op = .indexAddr T x y) (hx : evF F x = some (.one (.p id off))) (hy : evF F y = some (.one (.n k i))) (hi : i < N) :
    Doing cx ops o F H ⟨.one (.p id (off + i)), [], []⟩ :=
  Doing.val hu fun ρ A a w hs => by
    have h1 := ev_rel hs hx
    have h2 := ev_rel hs hy
    simp only [AV.Rel, SV.Rel] at h1 h2
    refine ⟨_, ?_, rfl⟩
    simp only [execOp, ho, h1, h2, Instr.indexAt, Instr.sureAddr, asIntOf, Sem.run_bind, Sem.run_pure, Result.andThen_ok, hT.run_und w]
    rw [if_pos ⟨by omega, by omega⟩]
    simp only [Sem.run_bind, hE.run_size w, Result.andThen_ok, Nat.mul_one, Int.toNat_natCast, Sem.run_pure, addr_add, Nat.add_assoc]
/-- ... of several. -/
theorem Y.iaN {sz : Nat} (hT : TyI cx.P T (.array N E) n by' z) (hE : TyI cx.P E d sz bz zz) (hu : Up cx ops F o) (ho : o.op = .indexAddr T x y) (hx : evF F x = some (.one (.p id off))) (hy : evF F y = some (.one (.n k i))) (hi : i < N) :
    Doing cx ops o F H ⟨.one (.p id (off + i * sz)), [], []⟩ :=
  Doing.val hu fun ρ A a w hs => by
    have h1 := ev_rel hs hx
    have h2 := ev_rel hs hy
    simp only [AV.Rel, SV.Rel] at h1 h2
    refine ⟨_, ?_, rfl⟩
    simp only [execOp, ho, h1, h2, Instr.indexAt, Instr.sureAddr, asIntOf, Sem.run_bind, Sem.run_pure, Result.andThen_ok, hT.run_und w]
    rw [if_pos ⟨by omega, by omega⟩]
    simp only [Sem.run_bind, hE.run_size w, Result.andThen_ok, Int.toNat_natCast, Sem.run_pure, addr_add, Nat.add_assoc]
theorem Y.iaSg (hT : TyI cx.P T (.slice E) n by' z) (hE : TyI cx.P E d 1 bz zz) (hu : Up cx ops F o) (ho : o.op = .indexAddr T x y) (hx : evF F x = some (.one (.sg id off len))) (hy : evF F y = some (.one (.n k i))) (hi : i < len) :
    Doing cx ops o F H ⟨.one (.p id (off + i)), [], []⟩ :=
  Doing.val hu fun ρ A a w hs => by
    obtain ⟨ad, cap, hv, hcap, h0⟩ := ev_rel hs hx
    have h2 := ev_rel hs hy
    simp only [AV.Rel, SV.Rel] at h2
    rcases h0 with h0 | ⟨had, _⟩
    · omega
    refine ⟨_, ?_, rfl⟩
    simp only [execOp, ho, hv, h2, had, Instr.indexAt, asIntOf, Sem.run_bind, Sem.run_pure, Result.andThen_ok, hT.run_und w]
    rw [if_pos ⟨by omega, by omega⟩]
    simp only [Sem.run_bind, hE.run_size w, Result.andThen_ok, Nat.mul_one, Int.toNat_natCast, Sem.run_pure, addr_add, Nat.add_assoc]
theorem Y.iaBs {ex : Bool} {xs : List Nat} (hT : TyI cx.P T (.slice E) n by' z) (hE : TyI cx.P E d 1 bz zz) (hu : Up cx ops F o) (ho : o.op = .indexAddr T x y) (hx : evF F x = some (.one (.bs ex ki xs))) (hy : evF F y = some (.one (.n k i))) (hi : i < xs.length) :
    Doing cx ops o F H ⟨.one (.pc ki (xs.getD i 0)), [], []⟩ :=
  Doing.val hu fun ρ A a w hs => by
    obtain ⟨ad, cap, hv, hcap, _, h0⟩ := ev_rel hs hx
    have h2 := ev_rel hs hy
    simp only [AV.Rel, SV.Rel] at h2
    rcases h0 with h0 | ⟨b, off, had, hA, _, hc⟩
    · omega
    obtain ⟨u, hu', hr⟩ := hc i hi
    refine ⟨.pointer (some ⟨b, off + i, none⟩), ?_, b, off + i, rfl, hA, by rw [hu', hr.1], hr.2⟩
    simp only [execOp, ho, hv, h2, had, Instr.indexAt, asIntOf, Sem.run_bind, Sem.run_pure, Result.andThen_ok, hT.run_und w]
    rw [if_pos ⟨by omega, by omega⟩]
    simp only [Sem.run_bind, hE.run_size w, Result.andThen_ok, Nat.mul_one, Int.toNat_natCast, Sem.run_pure, addr_add]
theorem Y.iaBss {ex : Bool} {xss : List (List Nat)} (hT : TyI cx.P T (.slice E) n by' z) (hE : TyI cx.P E d 1 bz zz) (hu : Up cx ops F o) (ho : o.op = .indexAddr T x y) (hx : evF F x = some (.one (.bss ex xss))) (hy : evF F y = some (.one (.n k i))) (hi : i < xss.length) :
    Doing cx ops o F H ⟨.one (.pcb (xss.getD i [])), [], []⟩ :=
  Doing.val hu fun ρ A a w hs => by
    obtain ⟨ad, cap, hv, hcap, _, h0⟩ := ev_rel hs hx
    have h2 := ev_rel hs hy
    simp only [AV.Rel, SV.Rel] at h2
    rcases h0 with h0 | ⟨b, off, had, hA, _, hc⟩
    · omega
    obtain ⟨u, hu', hr⟩ := hc i hi
    refine ⟨.pointer (some ⟨b, off + i, none⟩), ?_, b, off + i, u, rfl, hA, hu', hr⟩
    simp only [execOp, ho, hv, h2, had, Instr.indexAt, asIntOf, Sem.run_bind, Sem.run_pure, Result.andThen_ok, hT.run_und w]
    rw [if_pos ⟨by omega, by omega⟩]
    simp only [Sem.run_bind, hE.run_size w, Result.andThen_ok, Nat.mul_one, Int.toNat_natCast, Sem.run_pure, addr_add]
theorem Y.fa {fs : Array Field} {fld : Field} {f m : Nat} (hT : TyI cx.P T (.struct fs) n by' z) (hf : fs[f]? = some fld) (hE : TyI cx.P fld.type d m bz zz) (hm : m ≠ 0) (hu : Up cx ops F o) (ho : o.op = .fieldAddr T x f) (hx : evF F x = some (.one (.p id off))) :
    Doing cx ops o F H ⟨.one (.p id (off + fld.offset)), [], []⟩ :=
  Doing.val hu fun ρ A a w hs => by
    have h1 := ev_rel hs hx
    simp only [AV.Rel, SV.Rel] at h1
    refine ⟨_, ?_, rfl⟩
    simp only [execOp, ho, h1, Instr.fieldAt, Instr.sureAddr, fieldPlace, Sem.run_bind, Sem.run_pure, Result.andThen_ok, hT.run_und w, hf, hE.run_size w]
    rw [if_neg hm]
    simp only [Sem.run_pure, Result.andThen_ok, addr_add, Nat.add_assoc]
theorem Y.nck (hu : Up cx ops F o) (ho : o.op = .nilCheck x) (hx : evF F x = some (.one (.p id off))) : Doing cx ops o F H ⟨.one (.p id off), [], []⟩ :=
  Doing.val hu fun ρ A a w hs => by
    have h1 := ev_rel hs hx
    simp only [AV.Rel, SV.Rel] at h1
    exact ⟨_, by simp only [execOp, ho, h1]; rfl, rfl⟩
end place

/-! ### Loads -/
section load
variable {T : TypeId} {x : Operand} {n by' id off : Nat} {d : TypeDesc} {z c : Cs} {k : IntKind}
theorem Y.ld (hT : TyI cx.P T d n by' z) (hd : TypeDesc.isAgg d = false) (hu : Up cx ops F o) (ho : o.op = .load T x) (hx : evF F x = some (.one (.p id off))) (hb : H id = some (.own c)) (hl : off < c.len) :
    Doing cx ops o F H ⟨.one (c.at off), [], []⟩ :=
  Doing.val hu fun ρ A a w hs => by
    have h1 := ev_rel hs hx
    simp only [AV.Rel, SV.Rel] at h1
    obtain ⟨_, hcells⟩ := OwnB.cells (hs.hp id _ hb) (by omega)
    obtain ⟨u, hu', hr⟩ := hcells off hl
    refine ⟨u, ?_, hr⟩
    simp only [execOp, ho, h1, Instr.loadAt, Instr.sureAddr, loadVar, Sem.run_bind, Sem.run_pure, Result.andThen_ok, hT.run_isAgg w, hd, Bool.false_eq_true, if_false, run_load, hu']
theorem Y.ldRow (hT : TyI cx.P T d n by' z) (hd : TypeDesc.isAgg d = true) (hu : Up cx ops F o) (ho : o.op = .load T x) (hx : evF F x = some (.one (.p id off))) (hb : H id = some (.own c)) (hl : off + n ≤ c.len) (hn : n ≠ 0) :
    Doing cx ops o F H ⟨.row (c.sub off n), [], []⟩ :=
  Doing.val hu fun ρ A a w hs => by
    have h1 := ev_rel hs hx
    simp only [AV.Rel, SV.Rel] at h1
    obtain ⟨_, hcells⟩ := OwnB.cells (hs.hp id _ hb) (by omega)
    have hc' : ∀ j, j < (c.sub off n).len → ∃ u, w.cell? ⟨(ρ id).blk, ((ρ id).off + off) + j, none⟩ = some u ∧ ((c.sub off n).at j).Rel ρ A w u := by
      intro j hj
      rw [Cs.sub_len hl] at hj
      obtain ⟨u, hu', hr⟩ := hcells (off + j) (by omega)
      exact ⟨u, by rw [Nat.add_assoc]; exact hu', by rw [Cs.sub_at hj]; exact hr⟩
    obtain ⟨cs, h2, h3, h4⟩ := run_loadCells_rel (P := cx.P) hc'
    rw [Cs.sub_len hl] at h2
    refine ⟨.agg cs, ?_, cs, rfl, h3, h4⟩
    simp only [execOp, ho, h1, Instr.loadAt, Instr.sureAddr, loadVar, Sem.run_bind, Sem.run_pure, Result.andThen_ok, hT.run_isAgg w, hd, if_true, hT.run_size w, h2]
/-- ... the whole block. -/
theorem Y.ldAll (hT : TyI cx.P T d n by' z) (hd : TypeDesc.isAgg d = true) (hu : Up cx ops F o) (ho : o.op = .load T x) (hx : evF F x = some (.one (.p id 0))) (hb : H id = some (.own c)) (hl : c.len = n) (hn : n ≠ 0) :
    Doing cx ops o F H ⟨.row c, [], []⟩ := by
  have := Y.ldRow hT hd hu ho hx hb (by omega) hn
  have e : c.sub 0 n = c := by
    subst hl
    cases c <;> simp [Cs.sub, Cs.len]
  rwa [e] at this
theorem Y.ldPc {v : Nat} (hT : TyI cx.P T d n by' z) (hd : TypeDesc.isAgg d = false) (hu : Up cx ops F o) (ho : o.op = .load T x) (hx : evF F x = some (.one (.pc k v))) : Doing cx ops o F H ⟨.one (.n k v), [], []⟩ :=
  Doing.val hu fun ρ A a w hs => by
    obtain ⟨b, of, h1, _, hc, hft⟩ := ev_rel hs hx
    refine ⟨_, ?_, rfl, hft⟩
    simp only [execOp, ho, h1, Instr.loadAt, Instr.sureAddr, loadVar, Sem.run_bind, Sem.run_pure, Result.andThen_ok, hT.run_isAgg w, hd, Bool.false_eq_true, if_false, run_load, hc]
theorem Y.ldPcb {xs : List Nat} (hT : TyI cx.P T d n by' z) (hd : TypeDesc.isAgg d = false) (hu : Up cx ops F o) (ho : o.op = .load T x) (hx : evF F x = some (.one (.pcb xs))) : Doing cx ops o F H ⟨.one (.bs false .u8 xs), [], []⟩ :=
  Doing.val hu fun ρ A a w hs => by
    obtain ⟨b, of, u, h1, _, hc, hr⟩ := ev_rel hs hx
    refine ⟨u, ?_, hr⟩
    simp only [execOp, ho, h1, Instr.loadAt, Instr.sureAddr, loadVar, Sem.run_bind, Sem.run_pure, Result.andThen_ok, hT.run_isAgg w, hd, Bool.false_eq_true, if_false, run_load, hc]
end load

/-! ### Slices of slices and of arrays -/
/-- A bound of a slice expression: what it is, or what stands for none. -/
def Bnd (F : Nat → Option AV) (x : Option Operand) (dflt v : Nat) : Prop := (x = none ∧ v = dflt) ∨ ∃ y k, x = some y ∧ evF F y = some (.one (.n k v))
theorem bnd0 {F : Nat → Option AV} {d : Nat} : Bnd F none d d := .inl ⟨rfl, rfl⟩
theorem bnd1 {F : Nat → Option AV} {x : Operand} {k : IntKind} {d v : Nat} (h : evF F x = some (.one (.n k v))) : Bnd F (some x) d v := .inr ⟨x, k, rfl, h⟩

theorem run_bounds {a : Act} {w : World} {ρ : Nat → Loc} {A : Nat → Prop} (hs : StRel cx F H a w ρ A) {lo hi : Option Operand} {len cap l h : Nat} (hlo : Bnd F lo 0 l) (hhi : Bnd F hi len h) (h1 : l ≤ h) (h2 : h ≤ cap) (b : Bool) :
    (Instr.sliceBounds b len cap (lo.map a.eval) (hi.map a.eval) none).run cx.P w = .ok (l, h, cap) w := by
  have ev : ∀ y k v, evF F y = some (.one (.n k v)) → a.eval y = .int k v := fun y k v hy => (ev_rel hs hy).1
  unfold Instr.sliceBounds Instr.sliceBound
  rcases hlo with ⟨rfl, rfl⟩ | ⟨yl, kl, rfl, hl⟩
  · rcases hhi with ⟨rfl, rfl⟩ | ⟨yh, kh, rfl, hh⟩
    · simp
    · have e := ev _ _ _ hh
      simp only [Option.map_none, Option.map_some, e, asIntOf, Sem.run_bind, Sem.run_pure, Result.andThen_ok]
      rw [if_pos ⟨by omega, by omega⟩]
      simp
  · have el := ev _ _ _ hl
    rcases hhi with ⟨rfl, rfl⟩ | ⟨yh, kh, rfl, hh⟩
    · simp only [Option.map_none, Option.map_some, el, asIntOf, Sem.run_bind, Sem.run_pure, Result.andThen_ok]
      rw [if_pos ⟨by omega, by omega⟩]
      simp
    · have e := ev _ _ _ hh
      simp only [Option.map_some, e, el, asIntOf, Sem.run_bind, Sem.run_pure, Result.andThen_ok]
      rw [if_pos ⟨by omega, by omega⟩]
      simp only [Sem.run_pure, Result.andThen_ok, Int.toNat_natCast]
      rw [if_pos ⟨by omega, by omega⟩]
      simp
theorem run_bounds3 {a : Act} {w : World} {ρ : Nat → Loc} {A : Nat → Prop} (hs : StRel cx F H a w ρ A) {lo : Option Operand} {yh ym : Operand} {kh km : IntKind} {len cap l h m : Nat} (hlo : Bnd F lo 0 l) (hhi : evF F yh = some (.one (.n kh h))) (hmx : evF F ym = some (.one (.n km m)))
    (h1 : l ≤ h) (h2 : h ≤ m) (h3 : m ≤ cap) (b : Bool) :
    (Instr.sliceBounds b len cap (lo.map a.eval) (some (a.eval yh)) (some (a.eval ym))).run cx.P w = .ok (l, h, m) w := by
  have ev : ∀ y k v, evF F y = some (.one (.n k v)) → a.eval y = .int k v := fun y k v hy => (ev_rel hs hy).1
  unfold Instr.sliceBounds Instr.sliceBound
  have e := ev _ _ _ hhi
  have em := ev _ _ _ hmx
  rcases hlo with ⟨rfl, rfl⟩ | ⟨yl, kl, rfl, hl⟩
  · simp only [Option.map_none, e, em, asIntOf, Sem.run_bind, Sem.run_pure, Result.andThen_ok]
    rw [if_pos ⟨by omega, by omega⟩]
    simp only [Sem.run_pure, Result.andThen_ok, Int.toNat_natCast]
    rw [if_pos ⟨by omega, by omega⟩]
    simp
  · have el := ev _ _ _ hl
    simp only [Option.map_some, e, em, el, asIntOf, Sem.run_bind, Sem.run_pure, Result.andThen_ok]
    rw [if_pos ⟨by omega, by omega⟩]
    simp only [Sem.run_pure, Result.andThen_ok, Int.toNat_natCast]
    rw [if_pos ⟨by omega, by omega⟩]
    simp only [Sem.run_pure, Result.andThen_ok]
    rw [if_pos ⟨by omega, by omega⟩]
    simp

section slice
variable {T E : TypeId} {x : Operand} {lo hi : Option Operand} {N n by' bz id off len l h : Nat} {d : TypeDesc} {z zz c : Cs} {k : IntKind}
/-- A slice of an array that is a variable. -/
theorem Y.slArr (hT : TyI cx.P T (.array N E) n by' z) (hE : TyI cx.P E d 1 bz zz) (hu : Up cx ops F o) (ho : o.op = .slice T x lo hi none) (hx : evF F x = some (.one (.p id off))) (hb : H id = some (.own c)) (hc : off + N ≤ c.len)
    (hlo : Bnd F lo 0 l) (hhi : Bnd F hi N h) (h1 : l ≤ h) (h2 : h ≤ N) : Doing cx ops o F H ⟨.one (.sg id (off + l) (h - l)), [], []⟩ :=
  Doing.val hu fun ρ A a w hs => by
    have hp := ev_rel hs hx
    simp only [AV.Rel, SV.Rel] at hp
    have hsz : c.len ≤ (ρ id).size := (hs.hp id _ hb).1
    have hr := run_bounds hs (len := N) (cap := N) hlo hhi h1 h2 false
    refine ⟨.slice (some (if N = l then ⟨(ρ id).blk, (ρ id).off + off, none⟩ else (⟨(ρ id).blk, (ρ id).off + off, none⟩ : Addr).add (l * 1))) (h - l) (N - l), ?_, ?_⟩
    · simp only [execOp, ho, hp, Instr.sliceAt, Instr.sureAddr, Option.map_none, Sem.run_bind, Sem.run_pure, Result.andThen_ok, hT.run_und w, hr, hE.run_size w]
    · refine ⟨_, _, rfl, by omega, ?_⟩
      by_cases hN : N = l
      · exact .inl (by omega)
      · refine .inr ⟨?_, by omega⟩
        rw [if_neg hN, addr_add, Nat.mul_one, Nat.add_assoc]
theorem Y.slSg (hT : TyI cx.P T (.slice E) n by' z) (hE : TyI cx.P E d 1 bz zz) (hu : Up cx ops F o) (ho : o.op = .slice T x lo hi none) (hx : evF F x = some (.one (.sg id off len)))
    (hlo : Bnd F lo 0 l) (hhi : Bnd F hi len h) (h1 : l ≤ h) (h2 : h ≤ len) : Doing cx ops o F H ⟨.one (.sg id (off + l) (h - l)), [], []⟩ :=
  Doing.val hu fun ρ A a w hs => by
    obtain ⟨ad, cap, hv, hcap, h0⟩ := ev_rel hs hx
    have hr := run_bounds hs (len := len) (cap := cap) hlo hhi h1 (by omega) true
    refine ⟨.slice (if cap = l then ad else ad.map (·.add (l * 1))) (h - l) (cap - l), ?_, ?_⟩
    · simp only [execOp, ho, hv, Instr.sliceAt, Instr.slice, Option.map_none, Sem.run_bind, Sem.run_pure, Result.andThen_ok, hT.run_und w, hr, hE.run_size w]
    · refine ⟨_, _, rfl, by omega, ?_⟩
      by_cases hN : cap = l
      · exact .inl (by omega)
      · rcases h0 with h0 | ⟨had, hsz⟩
        · omega
        · refine .inr ⟨?_, by omega⟩
          rw [if_neg hN, had, Option.map_some, addr_add, Nat.mul_one, Nat.add_assoc]
theorem Imm.slice {A : Nat → Prop} {w : World} {m : Nat} {ex : Bool} {cell : Nat → Value → Prop} {ad : Option Addr} {cap : Nat} (hcap : m ≤ cap) (h0 : cap = 0 ∨ ∃ b o, ad = some ⟨b, o, none⟩ ∧ ¬ A b ∧ b < w.heap.size ∧ ∀ i, i < m → ∃ u, w.cell? ⟨b, o + i, none⟩ = some u ∧ cell i u)
    {l h cap' : Nat} (h1 : l ≤ h) (h2 : h ≤ m) (hc1 : h ≤ cap') (hc2 : cap' ≤ cap) (he : ex = true → cap' = h) : Imm A w (h - l) ex (fun i u => cell (l + i) u) (.slice (if cap' = l then ad else ad.map (·.add (l * 1))) (h - l) (cap' - l)) := by
  refine ⟨_, _, rfl, by omega, fun e => by rw [he e], ?_⟩
  by_cases hN : cap' = l
  · exact .inl (by omega)
  · rcases h0 with h0 | ⟨b, of, had, hA, hlt, hc⟩
    · omega
    · refine .inr ⟨b, of + l, ?_, hA, hlt, fun i hi => ?_⟩
      · rw [if_neg hN, had, Option.map_some, addr_add, Nat.mul_one]
      · obtain ⟨u, hu, hr⟩ := hc (l + i) (by omega)
        exact ⟨u, by rw [Nat.add_assoc]; exact hu, hr⟩
theorem take_drop_len {α : Type} {xs : List α} {l h : Nat} (h1 : l ≤ h) (h2 : h ≤ xs.length) : ((xs.drop l).take (h - l)).length = h - l := by simp; omega
theorem getD_take_drop {xs : List Nat} {l h i : Nat} (hi : i < h - l) : ((xs.drop l).take (h - l)).getD i 0 = xs.getD (l + i) 0 := by
  simp [List.getD_eq_getElem?_getD, hi]
theorem Y.slBs {ex : Bool} {xs : List Nat} (hT : TyI cx.P T (.slice E) n by' z) (hE : TyI cx.P E d 1 bz zz) (hu : Up cx ops F o) (ho : o.op = .slice T x lo hi none) (hx : evF F x = some (.one (.bs ex k xs)))
    (hlo : Bnd F lo 0 l) (hhi : Bnd F hi xs.length h) (h1 : l ≤ h) (h2 : h ≤ xs.length) : Doing cx ops o F H ⟨.one (.bs false k ((xs.drop l).take (h - l))), [], []⟩ :=
  Doing.val hu fun ρ A a w hs => by
    obtain ⟨ad, cap, hv, hcap, _, h0⟩ := ev_rel hs hx
    have hr := run_bounds hs (len := xs.length) (cap := cap) hlo hhi h1 (by omega) true
    refine ⟨.slice (if cap = l then ad else ad.map (·.add (l * 1))) (h - l) (cap - l), ?_, ?_⟩
    · simp only [execOp, ho, hv, Instr.sliceAt, Instr.slice, Option.map_none, Sem.run_bind, Sem.run_pure, Result.andThen_ok, hT.run_und w, hr, hE.run_size w]
    · have := Imm.slice (ex := false) hcap h0 h1 h2 (cap' := cap) (by omega) (Nat.le_refl _) (fun h => nomatch h)
      simp only [AV.Rel, SV.Rel, ImmB]
      rw [take_drop_len h1 h2]
      exact this.mono (fun _ _ _ => rfl) (Nat.le_refl _) (fun _ _ h => h) (fun i u hi hc => by rw [getD_take_drop hi]; exact hc)
/-- ... whose room ends with it. -/
theorem Y.slBs3 {ex : Bool} {xs : List Nat} {yh ym : Operand} {kh km : IntKind} (hT : TyI cx.P T (.slice E) n by' z) (hE : TyI cx.P E d 1 bz zz) (hu : Up cx ops F o) (ho : o.op = .slice T x lo (some yh) (some ym)) (hx : evF F x = some (.one (.bs ex k xs)))
    (hlo : Bnd F lo 0 l) (hhi : evF F yh = some (.one (.n kh h))) (hmx : evF F ym = some (.one (.n km h))) (h1 : l ≤ h) (h2 : h ≤ xs.length) : Doing cx ops o F H ⟨.one (.bs true k ((xs.drop l).take (h - l))), [], []⟩ :=
  Doing.val hu fun ρ A a w hs => by
    obtain ⟨ad, cap, hv, hcap, _, h0⟩ := ev_rel hs hx
    have hr := run_bounds3 hs (len := xs.length) (cap := cap) hlo hhi hmx h1 (Nat.le_refl _) (by omega) true
    refine ⟨.slice (if h = l then ad else ad.map (·.add (l * 1))) (h - l) (h - l), ?_, ?_⟩
    · simp only [execOp, ho, hv, Instr.sliceAt, Instr.slice, Option.map_some, Sem.run_bind, Sem.run_pure, Result.andThen_ok, hT.run_und w, hr, hE.run_size w]
    · have := Imm.slice (ex := true) hcap h0 h1 h2 (cap' := h) (Nat.le_refl _) (by omega) (fun _ => rfl)
      simp only [AV.Rel, SV.Rel, ImmB]
      rw [take_drop_len h1 h2]
      exact this.mono (fun _ _ _ => rfl) (Nat.le_refl _) (fun _ _ h => h) (fun i u hi hc => by rw [getD_take_drop hi]; exact hc)
theorem Y.slSg3 {yh ym : Operand} {kh km : IntKind} (hT : TyI cx.P T (.slice E) n by' z) (hE : TyI cx.P E d 1 bz zz) (hu : Up cx ops F o) (ho : o.op = .slice T x lo (some yh) (some ym)) (hx : evF F x = some (.one (.sg id off len)))
    (hlo : Bnd F lo 0 l) (hhi : evF F yh = some (.one (.n kh h))) (hmx : evF F ym = some (.one (.n km h))) (h1 : l ≤ h) (h2 : h ≤ len) : Doing cx ops o F H ⟨.one (.sg id (off + l) (h - l)), [], []⟩ :=
  Doing.val hu fun ρ A a w hs => by
    obtain ⟨ad, cap, hv, hcap, h0⟩ := ev_rel hs hx
    have hr := run_bounds3 hs (len := len) (cap := cap) hlo hhi hmx h1 (Nat.le_refl _) (by omega) true
    refine ⟨.slice (if h = l then ad else ad.map (·.add (l * 1))) (h - l) (h - l), ?_, ?_⟩
    · simp only [execOp, ho, hv, Instr.sliceAt, Instr.slice, Option.map_some, Sem.run_bind, Sem.run_pure, Result.andThen_ok, hT.run_und w, hr, hE.run_size w]
    · refine ⟨_, _, rfl, by omega, ?_⟩
      by_cases hN : h = l
      · exact .inl (by omega)
      · rcases h0 with h0 | ⟨had, hsz⟩
        · omega
        · refine .inr ⟨?_, by omega⟩
          rw [if_neg hN, had, Option.map_some, addr_add, Nat.mul_one, Nat.add_assoc]
end slice

/-! ### Lengths, the least of two -/
def SV.len? : SV → Option Nat
  | .sg _ _ len => some len
  | .bs _ _ xs => some xs.length
  | .bss _ xss => some xss.length
  | .nil => some 0
  | _ => none
theorem SV.len_rel {s : SV} {n : Nat} (h : s.len? = some n) {ρ : Nat → Loc} {A : Nat → Prop} {w : World} {v : Value} (hv : s.Rel ρ A w v) : ∃ a cap, v = .slice a n cap := by
  cases s <;> simp only [SV.len?, Option.some.injEq, reduceCtorEq] at h <;> subst h
  · obtain ⟨a, rfl⟩ := hv; exact ⟨a, 0, rfl⟩
  · obtain ⟨a, cap, rfl, _⟩ := hv; exact ⟨a, cap, rfl⟩
  · obtain ⟨a, cap, rfl, _⟩ := hv; exact ⟨a, cap, rfl⟩
  · obtain ⟨a, cap, rfl, _⟩ := hv; exact ⟨a, cap, rfl⟩
section len
variable {T E : TypeId} {x y : Operand} {n by' : Nat} {z : Cs} {s : SV} {k : IntKind} {a b : Nat}
theorem Y.len {ats : Array TypeId} {L : Nat} (hT : TyI cx.P T (.slice E) n by' z) (hu : Up cx ops F o) (ho : o.op = .call { callee := .builtin .len, args := #[x], argTypes := ats }) (hat : ats[0]? = some T) (hx : evF F x = some (.one s)) (hs : s.len? = some L) :
    Doing cx ops o F H ⟨.one (.n .i64 L), [], []⟩ :=
  Doing.val hu fun ρ A act w hst => by
    obtain ⟨ad, cap, h1⟩ := SV.len_rel hs (ev_rel hst hx)
    refine ⟨_, ?_, rfl, fits.i64⟩
    simp [execOp, ho, resolve, invoke, builtin, Builtin.len_, hat, h1, hT.run_und w, goInt]
theorem Y.min {ats : Array TypeId} (hu : Up cx ops F o) (ho : o.op = .call { callee := .builtin .min, args := #[x, y], argTypes := ats }) (hx : evF F x = some (.one (.n k a))) (hy : evF F y = some (.one (.n k b))) :
    Doing cx ops o F H ⟨.one (.n k (Min.min a b)), [], []⟩ :=
  Doing.val hu fun ρ A act w hst => by
    have h1 := ev_rel hst hx
    have h2 := ev_rel hst hy
    simp only [AV.Rel, SV.Rel] at h1 h2
    refine ⟨.int k (if (b : Int) < a then b else a), ?_, ?_⟩
    · simp [execOp, ho, resolve, invoke, builtin, Builtin.min_, Builtin.min2, h1.1, h2.1]
    · constructor
      · rw [show Min.min a b = (if a ≤ b then a else b) from Nat.min_def]
        congr 1
        split <;> split <;> omega
      · rw [show Min.min a b = (if a ≤ b then a else b) from Nat.min_def]
        split
        · exact h1.2
        · exact h2.2
theorem Y.max {ats : Array TypeId} (hu : Up cx ops F o) (ho : o.op = .call { callee := .builtin .max, args := #[x, y], argTypes := ats }) (hx : evF F x = some (.one (.n k a))) (hy : evF F y = some (.one (.n k b))) :
    Doing cx ops o F H ⟨.one (.n k (Max.max a b)), [], []⟩ :=
  Doing.val hu fun ρ A act w hst => by
    have h1 := ev_rel hst hx
    have h2 := ev_rel hst hy
    simp only [AV.Rel, SV.Rel] at h1 h2
    refine ⟨.int k (if (b : Int) > a then b else a), ?_, ?_⟩
    · simp [execOp, ho, resolve, invoke, builtin, Builtin.max_, Builtin.max2, h1.1, h2.1]
    · constructor
      · rw [show Max.max a b = (if a ≤ b then b else a) from Nat.max_def]
        congr 1
        split <;> split <;> omega
      · rw [show Max.max a b = (if a ≤ b then b else a) from Nat.max_def]
        split
        · exact h2.2
        · exact h1.2
end len

/-! ### Strings, and equality -/
theorem strOfNums_nat (xs : List Nat) : strOfNums (xs.map fun (x : Nat) => (x : Int)) = strOf xs := by
  unfold strOfNums strOf
  rw [List.map_map]
  congr 3

section str
variable {T T' E : TypeId} {x y : Operand} {n by' bz : Nat} {z zz : Cs} {xs ys : List Nat}
theorem Y.str {v : AV} {n' b' : Nat} {z' : Cs} (hT : TyI cx.P T (.slice E) n by' z) (hE : TyI cx.P E (.int .u8) 1 bz zz) (hT' : TyI cx.P T' .string n' b' z') (hu : Up cx ops F o) (ho : o.op = .convert T T' x) (hx : evF F x = some v) (hv : View H v (.one (.bs false .u8 xs))) :
    Doing cx ops o F H ⟨.one (.str xs), [], []⟩ :=
  Doing.val hu fun ρ A act w hst => by
    obtain ⟨ad, cap, h1, hcap, _, h0⟩ := View.rel hst (A' := fun _ => False) (fun _ h => h.elim) (fun _ _ _ _ _ _ h => h) hv (ev_rel hst hx)
    refine ⟨.string (strOf xs), ?_, rfl, fun x hx => ?_⟩
    case refine_2 =>
      obtain ⟨i, hi, rfl⟩ := List.getElem_of_mem hx
      rcases h0 with h0 | ⟨b, off, _, _, _, hc⟩
      · omega
      · obtain ⟨u, _, _, hf⟩ := hc i hi
        have := hf.lt rfl rfl
        simpa [List.getD_eq_getElem?_getD, hi, IntKind.bits] using this
    rcases h0 with h0 | ⟨b, off, had, _, _, hc⟩
    · have hxs : xs = [] := by
        cases xs with
        | nil => rfl
        | cons _ _ => simp only [List.length_cons] at hcap; omega
      subst hxs
      have : (convert T T' (.slice ad 0 cap)).run cx.P w = .ok (.string (strOf [])) w := by
        cases ad with
        | none => rw [run_convert_bytes_nil w T E hT.u hE.u _ _ T' hT'.u]; rfl
        | some q =>
          rw [run_convert_bytes_string w T T' E _ _ _ hT.u hE.u hT'.u]
          rw [run_bytesToString w q 0 cap [] (by simp [loadCells, loadCellsFrom])]
          rfl
      simp only [List.length_nil] at h1
      simp only [execOp, ho, h1, Sem.run_bind, this, Result.andThen_ok, Sem.run_pure]
    · have := run_convert_bytes_arg (P := cx.P) w T E hT.u hE.u b off xs.length cap (xs.map fun (x : Nat) => (x : Int)) (by simp) (fun i hi => by
        obtain ⟨u, hu', hr⟩ := hc i hi
        rw [hu', hr.1]
        simp [List.getD_eq_getElem?_getD, hi]) T' hT'.u
      rw [strOfNums_nat] at this
      simp only [execOp, ho, h1, had, Sem.run_bind, this, Result.andThen_ok, Sem.run_pure]
theorem strOf_inj {xs ys : List Nat} (hx : ∀ x ∈ xs, x < 256) (hy : ∀ y ∈ ys, y < 256) : strOf xs = strOf ys ↔ xs = ys := by
  refine ⟨fun h => ?_, fun h => by rw [h]⟩
  have h1 : ∀ (l : List Nat), (∀ x ∈ l, x < 256) → ((strOf l).data.toList.map UInt8.toNat) = l := by
    intro l hl
    simp only [strOf, List.map_map]
    conv => rhs; rw [← List.map_id l]
    apply List.map_congr_left
    intro x hx
    simp only [Function.comp, UInt8.toNat_ofNat', id]
    exact Nat.mod_eq_of_lt (hl x hx)
  rw [← h1 xs hx, ← h1 ys hy, h]
theorem Y.eqS (hu : Up cx ops F o) (ho : o.op = .binOp .eql T x y T') (hx : evF F x = some (.one (.str xs))) (hy : evF F y = some (.one (.str ys))) : Doing cx ops o F H ⟨.one (.b (decide (xs = ys))), [], []⟩ :=
  Doing.val hu fun ρ A act w hst => by
    have h1 := ev_rel hst hx
    have h2 := ev_rel hst hy
    simp only [AV.Rel, SV.Rel] at h1 h2
    refine ⟨.bool ((strOf xs).toList == (strOf ys).toList), ?_, ?_⟩
    · simp only [execOp, ho, h1, h2, Sem.run_bind]
      rfl
    · have e : (decide (xs = ys)) = decide (strOf xs = strOf ys) := by
        have := strOf_inj h1.2 h2.2
        by_cases h : xs = ys
        · simp [h]
        · simp [h, this]
      simp only [AV.Rel, SV.Rel, ByteArray.toList_eq, e]
      congr 1
      rw [Bool.eq_iff_iff]
      simp [strOf]
theorem Y.neqS (hu : Up cx ops F o) (ho : o.op = .binOp .neq T x y T') (hx : evF F x = some (.one (.str xs))) (hy : evF F y = some (.one (.str ys))) : Doing cx ops o F H ⟨.one (.b (decide (xs ≠ ys))), [], []⟩ :=
  Doing.val hu fun ρ A act w hst => by
    have h1 := ev_rel hst hx
    have h2 := ev_rel hst hy
    simp only [AV.Rel, SV.Rel] at h1 h2
    refine ⟨.bool (!((strOf xs).toList == (strOf ys).toList)), ?_, ?_⟩
    · simp only [execOp, ho, h1, h2, Sem.run_bind]
      rfl
    · have e : (decide (xs ≠ ys)) = !decide (strOf xs = strOf ys) := by
        have := strOf_inj h1.2 h2.2
        by_cases h : xs = ys
        · simp [h]
        · simp [h, this]
      simp only [AV.Rel, SV.Rel, ByteArray.toList_eq, e]
      congr 2
      rw [Bool.eq_iff_iff]
      simp [strOf]
theorem Y.addS (hu : Up cx ops F o) (ho : o.op = .binOp .add T x y T') (hx : evF F x = some (.one (.str xs))) (hy : evF F y = some (.one (.str ys))) (hl : xs.length + ys.length < 9223372036854775808) : Doing cx ops o F H ⟨.one (.str (xs ++ ys)), [], []⟩ :=
  Doing.val hu fun ρ A act w hst => by
    have h1 := ev_rel hst hx
    have h2 := ev_rel hst hy
    simp only [AV.Rel, SV.Rel] at h1 h2
    refine ⟨.string (strOf xs ++ strOf ys), ?_, ?_⟩
    · have e : (binOp .add T (.string (strOf xs)) (.string (strOf ys))).run cx.P w = .ok (.string (strOf xs ++ strOf ys)) w := by
        show (Op.stringOp .add (strOf xs) (strOf ys)).run cx.P w = _
        unfold Op.stringOp
        have hs : ¬ ((((strOf xs).size + (strOf ys).size : Nat) : Int) > IntKind.i64.max) := by
          have e1 : (strOf xs).size = xs.length := by simp [strOf, ByteArray.size]
          have e2 : (strOf ys).size = ys.length := by simp [strOf, ByteArray.size]
          rw [e1, e2]
          simp [IntKind.max, IntKind.signed, IntKind.bits]; omega
        simp only
        rw [if_neg hs]; rfl
      have g : (eqGuard .add T x y (.string (strOf xs)) (.string (strOf ys))).run cx.P w = .ok () w := rfl
      simp only [execOp, ho, h1, h2, Sem.run_bind, g, Result.andThen_ok, e, Sem.run_pure]
    · refine ⟨?_, fun x hx => ?_⟩
      · congr 1
        simp [strOf, ByteArray.ext_iff]
      · rcases List.mem_append.1 hx with h | h
        · exact h1.2 x h
        · exact h2.2 x h
theorem Y.eqB {x y : Operand} {a b : Bool} (hT : TyI cx.P T .bool n by' z) (hu : Up cx ops F o) (ho : o.op = .binOp .eql T x y T') (hx : evF F x = some (.one (.b a))) (hy : evF F y = some (.one (.b b))) : Doing cx ops o F H ⟨.one (.b (a == b)), [], []⟩ :=
  Doing.val hu fun ρ A act w hst => by
    have h1 := ev_rel hst hx
    have h2 := ev_rel hst hy
    simp only [AV.Rel, SV.Rel] at h1 h2
    refine ⟨.bool (a == b), ?_, rfl⟩
    have e : (binOp .eql T (.bool a) (.bool b)).run cx.P w = .ok (.bool (a == b)) w := by
      show ((Op.equal T (.bool a) (.bool b)).bind _).run cx.P w = _
      have := run_equal_bool (P := cx.P) w T a b hT.u
      exact (Sem.run_bind' _ _ _ _).trans (by rw [this]; rfl)
    have g : (eqGuard .eql T x y (.bool a) (.bool b)).run cx.P w = .ok () w := rfl
    simp only [execOp, ho, h1, h2, Sem.run_bind, g, e, Result.andThen_ok, Sem.run_pure]

theorem run_eqItems_ints {P : Program} {w : World} {k : IntKind} {d : Nat} (hE : TyI P E (.int k) 1 bz zz) {xs ys : List Nat} {cs ds : Array Value} (hc : cs.toList = xs.map fun (x : Nat) => Value.int k x) (hd : ds.toList = ys.map fun (x : Nat) => Value.int k x) (hl : xs.length = ys.length) :
    ∀ (m i : Nat), i + m = xs.length → (Op.eqItems (d + 1) E 1 cs ds (List.range' i m)).run P w = .ok (decide (xs.drop i = ys.drop i)) w
  | 0, i, h => by
    have e1 : xs.drop i = [] := List.drop_eq_nil_of_le (by omega)
    have e2 : ys.drop i = [] := List.drop_eq_nil_of_le (by omega)
    simp [Op.eqItems, e1, e2]
  | m + 1, i, h => by
    have ih := run_eqItems_ints (w := w) (d := d) hE hc hd hl m (i + 1) (by omega)
    have px : (part E cs i).run P w = .ok (.int k (xs[i]'(by omega))) w := by
      unfold part
      have : cs[i]? = some (.int k (xs[i]'(by omega))) := by
        rw [← Array.getElem?_toList, hc]; simp [show i < xs.length by omega]
      simp only [Sem.run_bind, hE.run_isAgg w, TypeDesc.isAgg, Result.andThen_ok, Bool.false_eq_true, if_false, this, Sem.run_pure]
    have py : (part E ds i).run P w = .ok (.int k (ys[i]'(by omega))) w := by
      unfold part
      have : ds[i]? = some (.int k (ys[i]'(by omega))) := by
        rw [← Array.getElem?_toList, hd]; simp [show i < ys.length by omega]
      simp only [Sem.run_bind, hE.run_isAgg w, TypeDesc.isAgg, Result.andThen_ok, Bool.false_eq_true, if_false, this, Sem.run_pure]
    rw [List.range'_succ]
    simp only [Op.eqItems, Nat.mul_one, Sem.run_bind, px, py, Result.andThen_ok, run_equalIn_int w d E k k _ _ hE.u]
    have e1 : xs.drop i = xs[i]'(by omega) :: xs.drop (i + 1) := List.drop_eq_getElem_cons (by omega)
    have e2 : ys.drop i = ys[i]'(by omega) :: ys.drop (i + 1) := List.drop_eq_getElem_cons (by omega)
    by_cases he : xs[i]'(by omega) = ys[i]'(by omega)
    · have : ((xs[i]'(by omega) : Int) == (ys[i]'(by omega) : Int)) = true := by simp [he]
      rw [this]
      simp only [Bool.not_true, Bool.false_eq_true, if_false]
      have hiff : (xs.drop i = ys.drop i) ↔ (xs.drop (i + 1) = ys.drop (i + 1)) := by
        rw [e1, e2, List.cons.injEq]; simp only [he, true_and]
      rw [ih]; simp only [hiff]
    · have : ((xs[i]'(by omega) : Int) == (ys[i]'(by omega) : Int)) = false := by simp; omega
      rw [this]
      simp only [Bool.not_false, if_true, Sem.run_pure]
      have hne : ¬ (xs.drop i = ys.drop i) := by
        rw [e1, e2, List.cons.injEq]; exact fun h => he h.1
      rw [decide_eq_false hne]

theorem row_toList {ρ : Nat → Loc} {A : Nat → Prop} {w : World} {k : IntKind} {xs : List Nat} {cs : Array Value} (hs : cs.size = (Cs.ints k xs).len) (hc : ∀ j, j < (Cs.ints k xs).len → ∃ u, cs[j]? = some u ∧ ((Cs.ints k xs).at j).Rel ρ A w u) :
    cs.toList = xs.map fun (x : Nat) => Value.int k x := by
  apply List.ext_getElem?
  intro j
  rw [Array.getElem?_toList]
  by_cases hj : j < xs.length
  · obtain ⟨u, hu, hr⟩ := hc j hj
    rw [hu]
    simp only [Cs.at, SV.Rel] at hr
    rw [hr.1]
    simp [List.getD_eq_getElem?_getD, hj]
  · rw [Array.getElem?_eq_none (by rw [hs]; simp only [Cs.len]; omega)]
    simp [List.getElem?_eq_none (Nat.le_of_not_lt hj)]

/-- Two arrays of integers. -/
theorem Y.eqR {k : IntKind} {N : Nat} (hT : TyI cx.P T (.array N E) n by' z) (hE : TyI cx.P E (.int k) 1 bz zz) (hg : cx.P.eqGuardType cx.P.depth T = false) (hu : Up cx ops F o) (ho : o.op = .binOp .eql T x y T') (hx : evF F x = some (.row (.ints k xs))) (hy : evF F y = some (.row (.ints k ys)))
    (h1 : xs.length = N) (h2 : ys.length = N) : Doing cx ops o F H ⟨.one (.b (decide (xs = ys))), [], []⟩ :=
  Doing.val hu fun ρ A act w hst => by
    obtain ⟨cs, hv, hcs, hcc⟩ := ev_rel hst hx
    obtain ⟨ds, hw, hds, hdd⟩ := ev_rel hst hy
    have e1 := row_toList hcs hcc
    have e2 := row_toList hds hdd
    obtain ⟨i, _, hi, hsz, _⟩ := hE.info
    refine ⟨.bool (decide (xs = ys)), ?_, rfl⟩
    have g : (eqGuard .eql T x y (.agg cs) (.agg ds)).run cx.P w = .ok () w := by
      unfold eqGuard
      simp [hg]
    have e : (Op.equal T (.agg cs) (.agg ds)).run cx.P w = .ok (decide (xs = ys)) w := by
      unfold Op.equal Op.maxDepth
      rw [run_equalIn_array w 9999 cs ds hT.u hi]
      have hcell : cx.P.cellsOf E = 1 := by simp [Program.cellsOf, hi, hsz]
      rw [hcell, List.range_eq_range', ← h1]
      have := run_eqItems_ints (P := cx.P) (w := w) (d := 9998) hE e1 e2 (by omega) xs.length 0 (by omega)
      simpa using this
    have e' : (binOp .eql T (.agg cs) (.agg ds)).run cx.P w = .ok (.bool (decide (xs = ys))) w := by
      show ((Op.equal T (.agg cs) (.agg ds)).bind _).run cx.P w = _
      exact (Sem.run_bind' _ _ _ _).trans (by rw [e]; rfl)
    simp only [execOp, ho, hv, hw, Sem.run_bind, g, e', Result.andThen_ok, Sem.run_pure]
end str
end
end Go.Fx
