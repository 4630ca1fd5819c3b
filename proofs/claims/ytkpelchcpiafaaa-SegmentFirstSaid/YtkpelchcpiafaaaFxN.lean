/-
  FxN: the operations that make memory, and that write it, one by one; calls.
-/
import Derived.Test.YtkpelchcpiafaaaFxM
namespace Go.Fx
open Go.RowKit (Below)

def AV.clen : AV → Nat
  | .row c => c.len
  | _ => 1
def AV.cellAt : AV → Nat → SV
  | .one s, _ => s
  | .row c, j => c.at j
  | .two _ _, _ => .u
/-- What may lie in cells. -/
def SV.cell : SV → Bool
  | .u => false
  | _ => true
def AV.cells? : AV → Bool
  | .one s => s.cell
  | .row (.ints _ _) => true
  | .row (.mix l) => l.all SV.cell
  | .two _ _ => false

theorem SV.rel_one {s : SV} (h : s.cell = true) {ρ : Nat → Loc} {A : Nat → Prop} {w : World} {v : Value} (hv : s.Rel ρ A w v) : v.oneCell' = true ∧ v.cells = #[v] := by
  cases s <;> first
    | (simp only [SV.Rel] at hv; subst hv; exact ⟨rfl, rfl⟩)
    | (simp [SV.cell] at h; done)
    | (obtain ⟨rfl, _⟩ := hv; exact ⟨rfl, rfl⟩)
    | (obtain ⟨_, rfl⟩ := hv; exact ⟨rfl, rfl⟩)
    | (obtain ⟨_, _, rfl, _⟩ := hv; exact ⟨rfl, rfl⟩)
    | (obtain ⟨_, _, _, rfl, _⟩ := hv; exact ⟨rfl, rfl⟩)

theorem Cs.at_cell {c : Cs} (h : (AV.row c).cells? = true) {j : Nat} (hj : j < c.len) : (c.at j).cell = true := by
  cases c with
  | ints k xs => rfl
  | mix l =>
    simp only [Cs.len] at hj
    simp only [Cs.at, List.getD_eq_getElem?_getD, hj, List.getElem?_eq_getElem, Option.getD_some]
    exact List.all_eq_true.1 h _ (List.getElem_mem hj)

theorem AV.rel_cells {x : AV} (h : x.cells? = true) {ρ : Nat → Loc} {A : Nat → Prop} {w : World} {v : Value} (hv : x.Rel ρ A w v) :
    v.cells.size = x.clen ∧ ∀ j, j < x.clen → ∃ u, v.cells[j]? = some u ∧ (x.cellAt j).Rel ρ A w u ∧ u.oneCell' = true := by
  cases x with
  | one s =>
    obtain ⟨h1, h2⟩ := SV.rel_one h hv
    refine ⟨by rw [h2]; rfl, fun j hj => ?_⟩
    obtain rfl : j = 0 := by simp only [AV.clen] at hj; omega
    exact ⟨v, by rw [h2]; rfl, hv, h1⟩
  | row c =>
    obtain ⟨cs, rfl, hsz, hc⟩ := hv
    refine ⟨hsz, fun j hj => ?_⟩
    obtain ⟨u, hu, hr⟩ := hc j hj
    exact ⟨u, hu, hr, (SV.rel_one (Cs.at_cell h hj) hr).1⟩
  | two a b => simp [AV.cells?] at h

theorem AV.cellAt_ids {x : AV} {j : Nat} (hj : j < x.clen) {i : Nat} (h : i ∈ (x.cellAt j).ids) : i ∈ x.ids := by
  cases x with
  | one s => exact h
  | row c => exact Cs.ids_at hj h
  | two a b => simp [AV.cellAt, SV.ids] at h

/-- c' is c with x laid at off. -/
structure Spl (c : Cs) (off : Nat) (x : AV) (c' : Cs) : Prop where
  len : c'.len = c.len
  fit : off + x.clen ≤ c.len
  at' : ∀ j, j < c.len → c'.at j = if off ≤ j ∧ j < off + x.clen then x.cellAt (j - off) else c.at j

theorem Spl.n {k : IntKind} {xs : List Nat} {off v : Nat} (h : off < xs.length) : Spl (.ints k xs) off (.one (.n k v)) (.ints k (xs.set off v)) := by
  refine ⟨by simp [Cs.len], by simp [Cs.len, AV.clen]; omega, fun j hj => ?_⟩
  simp only [Cs.len] at hj
  simp only [Cs.at, AV.clen, AV.cellAt, List.getD_eq_getElem?_getD, List.getElem?_set]
  by_cases he : off = j
  · subst he; simp [hj]
  · rw [if_neg he, if_neg (by omega)]
theorem Spl.all {c c' : Cs} (h : c'.len = c.len) : Spl c 0 (.row c') c' := by
  refine ⟨h, by simp [AV.clen, h], fun j hj => ?_⟩
  rw [if_pos ⟨by omega, by simp [AV.clen]; omega⟩]; rfl
theorem Spl.r {k : IntKind} {xs ys : List Nat} {off : Nat} (h : off + ys.length ≤ xs.length) : Spl (.ints k xs) off (.row (.ints k ys)) (.ints k (xs.take off ++ ys ++ xs.drop (off + ys.length))) := by
  refine ⟨by simp [Cs.len]; omega, by simp [Cs.len, AV.clen]; omega, fun j hj => ?_⟩
  simp only [Cs.len] at hj
  simp only [Cs.at, AV.clen, Cs.len, AV.cellAt, List.getD_eq_getElem?_getD, List.append_assoc]
  by_cases h1 : j < off
  · rw [if_neg (by omega), List.getElem?_append_left (by simp; omega), List.getElem?_take, if_pos h1]
  · rw [List.getElem?_append_right (by simp; omega)]
    have e : (xs.take off).length = off := by simp; omega
    rw [e]
    by_cases h2 : j < off + ys.length
    · rw [if_pos ⟨by omega, h2⟩, List.getElem?_append_left (by omega)]
    · rw [if_neg (by omega), List.getElem?_append_right (by omega), List.getElem?_drop]
      congr 3; omega
theorem Spl.m {l : List SV} {off : Nat} {s : SV} (h : off < l.length) : Spl (.mix l) off (.one s) (.mix (l.set off s)) := by
  refine ⟨by simp [Cs.len], by simp [Cs.len, AV.clen]; omega, fun j hj => ?_⟩
  simp only [Cs.len] at hj
  simp only [Cs.at, AV.clen, AV.cellAt, List.getD_eq_getElem?_getD, List.getElem?_set]
  by_cases he : off = j
  · subst he; simp [hj]
  · rw [if_neg he, if_neg (by omega)]
def Cs.toL : Cs → List SV
  | .ints k xs => xs.map (SV.n k)
  | .mix l => l
theorem Cs.toL_len {c : Cs} : c.toL.length = c.len := by cases c <;> simp [Cs.toL, Cs.len]
theorem Cs.toL_at {c : Cs} {j : Nat} (h : j < c.len) : c.toL.getD j .u = c.at j := by
  cases c with
  | ints k xs => simp only [Cs.len] at h; simp [Cs.toL, Cs.at, List.getD_eq_getElem?_getD, h]
  | mix l => rfl
theorem Spl.mr {l : List SV} {off : Nat} {c : Cs} (h : off + c.len ≤ l.length) : Spl (.mix l) off (.row c) (.mix (l.take off ++ c.toL ++ l.drop (off + c.len))) := by
  have hl := c.toL_len
  have e : (l.take off).length = off := by simp; omega
  refine ⟨?_, h, fun j hj => ?_⟩
  · show (l.take off ++ c.toL ++ l.drop (off + c.len)).length = l.length
    rw [List.length_append, List.length_append, e, hl, List.length_drop]; omega
  change j < l.length at hj
  rw [List.append_assoc]
  by_cases h1 : j < off
  · rw [if_neg (fun h => by have := h.1; omega)]
    simp only [Cs.at, List.getD_eq_getElem?_getD]
    rw [List.getElem?_append_left (by omega), List.getElem?_take, if_pos h1]
  · by_cases h2 : j < off + c.len
    · rw [if_pos ⟨by omega, h2⟩]
      have hat := Cs.toL_at (c := c) (j := j - off) (by omega)
      show (l.take off ++ (c.toL ++ l.drop (off + c.len))).getD j .u = c.at (j - off)
      rw [← hat]
      simp only [List.getD_eq_getElem?_getD]
      rw [List.getElem?_append_right (by omega), e, List.getElem?_append_left (by omega)]
    · rw [if_neg (fun h => h2 h.2)]
      simp only [Cs.at, List.getD_eq_getElem?_getD]
      rw [List.getElem?_append_right (by omega), e, List.getElem?_append_right (by omega), List.getElem?_drop]
      congr 3; omega

section
variable {cx : Cx} {ops : Array Oper} {o : Oper} {F : Nat → Option AV} {H : Nat → Option Bk}

theorem evF_nom {F : Nat → Option AV} {d : Nat} (hn : Nom cx d F H) {x : Operand} {v : AV} (h : evF F x = some v) : d ∉ v.ids := by
  cases x with
  | tmp t => exact hn.f t v h
  | const c =>
    simp only [evF, cst] at h
    split at h <;> first | (cases h; done) | (split at h <;> first | (cases h; done) | (cases h; simp [AV.ids, SV.ids])) | (cases h; simp [AV.ids, SV.ids])
  | func f => simp only [evF, Option.some.injEq] at h; subst h; simp [AV.ids, SV.ids]
  | global g => cases h

/-! ### New blocks -/
/-- What stands for a new block: its place, or a slice over it. -/
inductive NewV (d : Nat) : AV → Nat → Nat → Value → Prop
  | ptr (b n : Nat) : NewV d (.one (.p d 0)) b n (.pointer (some ⟨b, 0, none⟩))
  | sli (b n len cap : Nat) : len ≤ cap → cap ≤ n → NewV d (.one (.sg d 0 len)) b n (.slice (some ⟨b, 0, none⟩) len cap)

theorem NewV.rel {d : Nat} {av : AV} {b n : Nat} {v : Value} (h : NewV d av b n v) {ρ : Nat → Loc} {A : Nat → Prop} {w : World} (hρ : ρ d = ⟨b, 0, n, true⟩) : av.Rel ρ A w v := by
  cases h with
  | ptr => simp only [AV.Rel, SV.Rel, hρ]
  | sli _ _ len cap h1 h2 => exact ⟨_, cap, rfl, h1, .inr ⟨by rw [hρ], by rw [hρ]; simpa using h2⟩⟩

/-- One that lays a new block. -/
theorem Doing.new {d : Nat} {av : AV} {c : Cs} {bk : Bk} (hu : Up cx ops F o) (hbk : bk = .own c ∨ bk = .grw c) (hid : ∀ F' H', (∀ t v, F t = some v → F' t = some v) → (∀ i b, H i = some b → H' i = some b) → Nom cx d F' H' → d ∉ c.ids)
    (h : ∀ ρ A a w, StRel cx F H a w ρ A → ∃ v w' cs T fz, (execOp a.eval o).run cx.P w = .ok (.value v) w' ∧ Pushed w w' (.cells cs T fz) ∧ Unfrozen fz cs.size ∧ c.len ≤ cs.size ∧
      (∀ j, j < c.len → ∃ u, cs[j]? = some u ∧ (c.at j).Rel ρ A w u) ∧ NewV d av w.heap.size cs.size v) : Doing cx ops o F H ⟨av, [(d, bk)], [d]⟩ := by
  intro F' H' hF hH hN ρ A a w hs K Q hK
  have hn := hN d (by simp)
  have hs' := hs.sub hF hH
  unfold StepOp
  rw [if_pos (hu.wanted hs')]
  obtain ⟨v, w', cs, T, fz, h1, h2, h3, h4, h5, h6⟩ := h ρ A a w hs'
  unfold Oper.wp
  rw [h1]
  refine hK v w' (upd' ρ d ⟨w.heap.size, 0, cs.size, true⟩) (fun b => A b ∨ b = w.heap.size) ?_
  rw [ovr_cons, ovr_nil]
  exact (hs.alloc hn h2 h3 h4 h5 (hid F' H' hF hH hn) hbk).put hu.d (h6.rel (by simp [upd']))

theorem unfrozen0 (n : Nat) : Unfrozen (0, 0) n := .inl rfl

theorem Y.alloc {d T n by' : Nat} {dT : TypeDesc} {z : Cs} (hT : TyI cx.P T dT n by' z) (hz : z.plain = true) (hz0 : z.ids = []) (hu : Up cx ops F o) (ho : o.op = .alloc T) : Doing cx ops o F H ⟨.one (.p d 0), [(d, .own z)], [d]⟩ :=
  Doing.new hu (.inl rfl) (fun _ _ _ _ _ => by rw [hz0]; simp) fun ρ A a w hs => by
    obtain ⟨v, hv, hvz⟩ := hT.run_zero w
    obtain ⟨h1, h2⟩ := Cs.vals_at hz ρ A w
    have hsz : v.cells.size = z.len := by rw [← h1, ← hvz]; simp
    refine ⟨.pointer (some ⟨w.heap.size, 0, none⟩), w.alloc (.cells v.cells T), v.cells, T, (0, 0), ?_, ⟨rfl, rfl, rfl, rfl⟩, unfrozen0 _, by omega, fun j hj => ?_, .ptr _ _⟩
    · simp only [execOp, ho, Instr.alloc, newVar, newRow, Sem.run_bind, hv, Result.andThen_ok, run_newObj, Sem.run_pure]; rfl
    · obtain ⟨u, hu', hr⟩ := h2 j hj
      exact ⟨u, by rw [← Array.getElem?_toList, hvz]; exact hu', hr⟩

/-- A parameter that is captured, or whose place is taken: a row. -/
theorem Y.box {d T : Nat} {x : Operand} {v : AV} {c : Cs} (hu : Up cx ops F o) (ho : o.op = .box T x) (hx : evF F x = some v) (hv : v.cells? = true) (hl : c.len = v.clen) (hc : ∀ j, j < v.clen → c.at j = v.cellAt j) :
    Doing cx ops o F H ⟨.one (.p d 0), [(d, .own c)], [d]⟩ := by
  have ids : ∀ j, j < c.len → ∀ i ∈ (c.at j).ids, i ∈ v.ids := fun j hj i hi => by
    rw [hc j (by omega)] at hi; exact AV.cellAt_ids (by omega) hi
  refine Doing.new hu (.inl rfl) (fun F' H' hF hH hn => ?_) fun ρ A a w hs => ?_
  · have hd := evF_nom hn (evF_mono hF hx)
    intro hmem
    cases c with
    | ints k xs => simp [Cs.ids] at hmem
    | mix l =>
      simp only [Cs.ids, List.mem_flatMap] at hmem
      obtain ⟨s, hs, hds⟩ := hmem
      obtain ⟨j, hj, rfl⟩ := List.getElem_of_mem hs
      exact hd (ids j hj d (by simpa [Cs.at, List.getD_eq_getElem?_getD, hj] using hds))
  · obtain ⟨h1, h2⟩ := AV.rel_cells hv (ev_rel hs hx)
    refine ⟨.pointer (some ⟨w.heap.size, 0, none⟩), w.alloc (.cells (a.eval x).cells T), _, T, (0, 0), ?_, ⟨rfl, rfl, rfl, rfl⟩, unfrozen0 _, by omega, fun j hj => ?_, .ptr _ _⟩
    · simp only [execOp, ho, Instr.box, newVar, newRow, Sem.run_bind, Result.andThen_ok, run_newObj, Sem.run_pure]; rfl
    · obtain ⟨u, hu', hr, _⟩ := h2 j (by omega)
      exact ⟨u, hu', by rw [hc j (by omega)]; exact hr⟩
theorem Y.boxR {d T : Nat} {x : Operand} {c : Cs} (hu : Up cx ops F o) (ho : o.op = .box T x) (hx : evF F x = some (.row c)) (hv : (AV.row c).cells? = true) : Doing cx ops o F H ⟨.one (.p d 0), [(d, .own c)], [d]⟩ :=
  Y.box hu ho hx hv rfl fun _ _ => rfl
theorem Y.boxN {d T v : Nat} {x : Operand} {k : IntKind} (hu : Up cx ops F o) (ho : o.op = .box T x) (hx : evF F x = some (.one (.n k v))) : Doing cx ops o F H ⟨.one (.p d 0), [(d, .own (.ints k [v]))], [d]⟩ :=
  Y.box (c := .ints k [v]) hu ho hx rfl rfl (fun j hj => by obtain rfl : j = 0 := (by simp only [AV.clen] at hj; omega); rfl)
theorem Y.boxS {d T : Nat} {x : Operand} {s : SV} (hu : Up cx ops F o) (ho : o.op = .box T x) (hx : evF F x = some (.one s)) (hv : s.cell = true) : Doing cx ops o F H ⟨.one (.p d 0), [(d, .own (.mix [s]))], [d]⟩ :=
  Y.box (c := .mix [s]) hu ho hx hv rfl (fun j hj => by obtain rfl : j = 0 := (by simp only [AV.clen] at hj; omega); rfl)

/-! ### Rows that are laid out -/
/-- The parts of a row, laid one after the other. -/
inductive Fill (F : Nat → Option AV) (place : Nat → Option (Nat × Nat)) : List (Nat × Operand) → Cs → Cs → Prop
  | nil (c : Cs) : Fill F place [] c c
  | cons (i : Nat) (x : Operand) (r : List (Nat × Operand)) (c c1 c2 : Cs) (v : AV) (off sz : Nat) : place i = some (off, sz) → evF F x = some v → v.cells? = true → v.clen = sz → Spl c off v c1 → Fill F place r c1 c2 → Fill F place ((i, x) :: r) c c2

theorem foldl_lay (off : Nat) : ∀ (l : List (Value × Nat)) (cells : Array Value), (∀ x ∈ l, off + x.2 < cells.size) → (l.map (·.2)).Nodup →
    (l.foldl (fun cs x => cs.setIfInBounds (off + x.2) x.1) cells).size = cells.size ∧ ∀ j, (l.foldl (fun cs x => cs.setIfInBounds (off + x.2) x.1) cells)[j]? = match l.find? (fun x => off + x.2 == j) with | some x => some x.1 | none => cells[j]?
  | [], cells, _, _ => ⟨rfl, fun j => rfl⟩
  | x :: l, cells, h, hnd => by
    rw [List.map_cons, List.nodup_cons] at hnd
    obtain ⟨h1, h2⟩ := foldl_lay off l (cells.setIfInBounds (off + x.2) x.1) (fun y hy => by simpa using h y (by simp [hy])) hnd.2
    refine ⟨by simpa using h1, fun j => ?_⟩
    rw [List.foldl_cons, h2 j]
    by_cases hj : off + x.2 = j
    · subst hj
      have hnone : l.find? (fun y => off + y.2 == off + x.2) = none := by
        rw [List.find?_eq_none]
        intro y hy hc
        simp only [beq_iff_eq] at hc
        exact hnd.1 (List.mem_map.2 ⟨y, hy, by omega⟩)
      rw [hnone]
      have := h x (by simp)
      simp [this]
    · have hb : (off + x.2 == j) = false := by simpa using hj
      rw [List.find?_cons, hb]
      cases l.find? (fun y => off + y.2 == j) with
      | some y => rfl
      | none => simp only; rw [Array.getElem?_setIfInBounds_ne (by omega)]

theorem find_zip (off j : Nat) : ∀ (l : List Value) (k : Nat), (l.zipIdx k).find? (fun x => off + x.2 == j) = if off + k ≤ j ∧ j < off + k + l.length then (l[j - (off + k)]?).map (fun v => (v, j - off)) else none
  | [], k => by simp
  | v :: l, k => by
    rw [List.zipIdx_cons, List.find?_cons, find_zip off j l (k + 1)]
    by_cases h : off + k = j
    · subst h
      have hb : (off + (v, k).2 == off + k) = true := by simp
      have hc : off + k ≤ off + k ∧ off + k < off + k + (v :: l).length := ⟨Nat.le_refl _, by simp⟩
      rw [hb, if_pos hc, Nat.sub_self, Nat.add_sub_cancel_left]
      rfl
    · have hb : (off + (v, k).2 == j) = false := by simpa using h
      rw [hb]
      show (if off + (k + 1) ≤ j ∧ j < off + (k + 1) + l.length then (l[j - (off + (k + 1))]?).map (fun v => (v, j - off)) else none) = _
      by_cases h2 : off + (k + 1) ≤ j ∧ j < off + (k + 1) + l.length
      · have h3 : off + k ≤ j ∧ j < off + k + (v :: l).length := ⟨by omega, by simp; omega⟩
        rw [if_pos h2, if_pos h3, show j - (off + k) = (j - (off + (k + 1))) + 1 by omega, List.getElem?_cons_succ]
      · have h3 : ¬ (off + k ≤ j ∧ j < off + k + (v :: l).length) := by simp; omega
        rw [if_neg h2, if_neg h3]

theorem fill_one {ρ : Nat → Loc} {A : Nat → Prop} {w : World} {cells : Array Value} {c c1 : Cs} {off : Nat} {x : AV} {v : Value} (hcs : cells.size = c.len) (hc : ∀ j, j < c.len → ∃ u, cells[j]? = some u ∧ (c.at j).Rel ρ A w u) (hx : x.cells? = true) (hv : x.Rel ρ A w v) (hs : Spl c off x c1) :
    (v.cells.zipIdx.foldl (fun cs (y : Value × Nat) => cs.setIfInBounds (off + y.2) y.1) cells).size = c1.len ∧ ∀ j, j < c1.len → ∃ u, (v.cells.zipIdx.foldl (fun cs (y : Value × Nat) => cs.setIfInBounds (off + y.2) y.1) cells)[j]? = some u ∧ (c1.at j).Rel ρ A w u := by
  obtain ⟨h1, h2⟩ := AV.rel_cells hx hv
  have hfit := hs.fit
  have e : v.cells.zipIdx.foldl (fun cs (y : Value × Nat) => cs.setIfInBounds (off + y.2) y.1) cells = (v.cells.toList.zipIdx).foldl (fun cs (y : Value × Nat) => cs.setIfInBounds (off + y.2) y.1) cells := by
    rw [← Array.foldl_toList, Array.toList_zipIdx]
  rw [e]
  obtain ⟨g1, g2⟩ := foldl_lay off v.cells.toList.zipIdx cells (fun y hy => by
    obtain ⟨u, j⟩ := y
    have := List.mem_zipIdx hy
    simp only [Array.length_toList] at this
    show off + j < cells.size
    omega) (by rw [List.zipIdx_map_snd]; exact List.nodup_range')
  refine ⟨by rw [g1, hs.len, hcs], fun j hj => ?_⟩
  rw [hs.len] at hj
  rw [g2 j, find_zip, hs.at' j hj]
  simp only [Nat.add_zero, Array.length_toList, h1]
  by_cases hj2 : off ≤ j ∧ j < off + x.clen
  · rw [if_pos hj2, if_pos hj2]
    obtain ⟨u, hu, hr, _⟩ := h2 (j - off) (by omega)
    exact ⟨u, by rw [Array.getElem?_toList, hu]; rfl, hr⟩
  · rw [if_neg hj2, if_neg hj2]
    exact hc j hj

theorem Fill.run {place : Nat → Option (Nat × Nat)} {parts : List (Nat × Operand)} {c c2 : Cs} (h : Fill F place parts c c2) {a : Act} {w : World} {ρ : Nat → Loc} {A : Nat → Prop} (hs : StRel cx F H a w ρ A) :
    ∀ {cells : Array Value}, cells.size = c.len → (∀ j, j < c.len → ∃ u, cells[j]? = some u ∧ (c.at j).Rel ρ A w u) →
      ∃ cs, Instr.fill place cells (parts.map fun x => (x.1, a.eval x.2)) = some cs ∧ cs.size = c2.len ∧ ∀ j, j < c2.len → ∃ u, cs[j]? = some u ∧ (c2.at j).Rel ρ A w u := by
  induction h with
  | nil c => intro cells h1 h2; exact ⟨cells, rfl, h1, h2⟩
  | cons i x r c c1 c2 v off sz hp hx hv hl hsp hr ih =>
    intro cells h1 h2
    have hxr := ev_rel hs hx
    obtain ⟨g1, g2⟩ := fill_one h1 h2 hv hxr hsp
    obtain ⟨cs, hcs, hh⟩ := ih g1 g2
    refine ⟨cs, ?_, hh⟩
    obtain ⟨k1, _⟩ := AV.rel_cells hv hxr
    have hfit := hsp.fit
    simp only [List.map_cons, Instr.fill, hp]
    rw [if_neg (by simp; omega)]
    exact hcs

theorem Fill.ids {place : Nat → Option (Nat × Nat)} {parts : List (Nat × Operand)} {c c2 : Cs} (h : Fill F place parts c c2) {d : Nat} (hd : ∀ x v, evF F x = some v → d ∉ v.ids) : (∀ j, j < c.len → d ∉ (c.at j).ids) → ∀ j, j < c2.len → d ∉ (c2.at j).ids := by
  induction h with
  | nil c => exact fun h => h
  | cons i x r c c1 c2 v off sz hp hx hv hl hsp hr ih =>
    intro hc
    refine ih fun j hj => ?_
    rw [hsp.len] at hj
    rw [hsp.at' j hj]
    split
    · rename_i hj2
      exact fun hm => hd x v hx (AV.cellAt_ids (by omega) hm)
    · exact hc j hj

theorem Cs.nom_of_at {c : Cs} {d : Nat} (h : ∀ j, j < c.len → d ∉ (c.at j).ids) : d ∉ c.ids := by
  cases c with
  | ints k xs => simp [Cs.ids]
  | mix l =>
    intro hm
    simp only [Cs.ids, List.mem_flatMap] at hm
    obtain ⟨s, hs, hd⟩ := hm
    obtain ⟨j, hj, rfl⟩ := List.getElem_of_mem hs
    exact h j hj (by simpa [Cs.at, List.getD_eq_getElem?_getD, hj] using hd)

theorem Y.buildA {T E N n by' sz bz : Nat} {dE : TypeDesc} {z zz c : Cs} {parts : List (Nat × Operand)} (hT : TyI cx.P T (.array N E) n by' z) (hE : TyI cx.P E dE sz bz zz) (hz : z.plain = true) (hu : Up cx ops F o) (ho : o.op = .build T parts.toArray)
    (hf : Fill F (fun i => some (i * sz, sz)) parts z c) : Doing cx ops o F H ⟨.row c, [], []⟩ :=
  Doing.val hu fun ρ A a w hs => by
    obtain ⟨v, hv, hvz⟩ := hT.run_zero w
    obtain ⟨h1, h2⟩ := Cs.vals_at hz ρ A w
    obtain ⟨cs, g1, g2, g3⟩ := hf.run hs (cells := v.cells) (by rw [← h1, ← hvz]; simp) (fun j hj => by
      obtain ⟨u, hu', hr⟩ := h2 j hj
      exact ⟨u, by rw [← Array.getElem?_toList, hvz]; exact hu', hr⟩)
    refine ⟨.agg cs, ?_, cs, rfl, g2, g3⟩
    simp only [execOp, ho, Instr.build, Sem.run_bind, hv, Result.andThen_ok, hT.run_und w, hE.run_size w, List.map_toArray, g1, Sem.run_pure]
theorem Y.buildS {T n by' : Nat} {fs : Array Field} {z c : Cs} {parts : List (Nat × Operand)} {places : Array (Nat × Nat)} (hT : TyI cx.P T (.struct fs) n by' z) (hz : z.plain = true)
    (hpl : ∀ w, (fs.mapM fun f => do pure (f.offset, ← sizeOf f.type) : Sem (Array (Nat × Nat))).run cx.P w = .ok places w) (hu : Up cx ops F o) (ho : o.op = .build T parts.toArray)
    (hf : Fill F (fun i => places[i]?) parts z c) : Doing cx ops o F H ⟨.row c, [], []⟩ :=
  Doing.val hu fun ρ A a w hs => by
    obtain ⟨v, hv, hvz⟩ := hT.run_zero w
    obtain ⟨h1, h2⟩ := Cs.vals_at hz ρ A w
    obtain ⟨cs, g1, g2, g3⟩ := hf.run hs (cells := v.cells) (by rw [← h1, ← hvz]; simp) (fun j hj => by
      obtain ⟨u, hu', hr⟩ := h2 j hj
      exact ⟨u, by rw [← Array.getElem?_toList, hvz]; exact hu', hr⟩)
    refine ⟨.agg cs, ?_, cs, rfl, g2, g3⟩
    simp only [execOp, ho, Instr.build, Sem.run_bind, hv, Result.andThen_ok, hT.run_und w, List.map_toArray]
    erw [hpl w]
    simp only [Result.andThen_ok, g1, Sem.run_pure]

end
end Go.Fx
