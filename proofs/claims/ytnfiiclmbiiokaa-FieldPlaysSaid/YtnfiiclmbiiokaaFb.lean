/-
  The own layer: abstract values, frames and heaps (part Fb).
-/
import Derived.Test.YtnfiiclmbiiokaaFa
/- FxN: the operations that make memory, and that write it, one by one; calls. -/
namespace Go.Fx
open Go.RowKit (Below)

def AV.clen : AV → Nat
  | .row c => c.len
  | _ => 1
def AV.cellAt : AV → Nat → SV
  | .one s, _ => s
  | .row c, j => c.at j
  | .two _ _, _ => .u
/-- What may lie in cells. -/
def SV.cell : SV → Bool
  | .u => false
  | _ => true
def AV.cells? : AV → Bool
  | .one s => s.cell
  | .row (.ints _ _) => true
  | .row (.mix l) => l.all SV.cell
  | .two _ _ => false

theorem SV.rel_one {s : SV} (h : s.cell = true) {ρ : Nat → Loc} {A : Nat → Prop} {w : World} {v : Value} (hv : s.Rel ρ A w v) : v.oneCell' = true ∧ v.cells = #[v] := by
  cases s <;> first
    | (simp only [SV.Rel] at hv; subst hv; exact ⟨rfl, rfl⟩)
    | (simp [SV.cell] at h; done)
    | (obtain ⟨rfl, _⟩ := hv; exact ⟨rfl, rfl⟩)
    | (obtain ⟨_, rfl⟩ := hv; exact ⟨rfl, rfl⟩)
    | (obtain ⟨_, _, rfl, _⟩ := hv; exact ⟨rfl, rfl⟩)
    | (obtain ⟨_, _, _, rfl, _⟩ := hv; exact ⟨rfl, rfl⟩)

theorem Cs.at_cell {c : Cs} (h : (AV.row c).cells? = true) {j : Nat} (hj : j < c.len) : (c.at j).cell = true := by
  cases c with
  | ints k xs => rfl
  | mix l =>
    simp only [Cs.len] at hj
    simp only [Cs.at, List.getD_eq_getElem?_getD, hj, List.getElem?_eq_getElem, Option.getD_some]
    exact List.all_eq_true.1 h _ (List.getElem_mem hj)

theorem AV.rel_cells {x : AV} (h : x.cells? = true) {ρ : Nat → Loc} {A : Nat → Prop} {w : World} {v : Value} (hv : x.Rel ρ A w v) :
    v.cells.size = x.clen ∧ ∀ j, j < x.clen → ∃ u, v.cells[j]? = some u ∧ (x.cellAt j).Rel ρ A w u ∧ u.oneCell' = true := by
  cases x with
  | one s =>
    obtain ⟨h1, h2⟩ := SV.rel_one h hv
    refine ⟨by rw [h2]; rfl, fun j hj => ?_⟩
    obtain rfl : j = 0 := by simp only [AV.clen] at hj; omega
    exact ⟨v, by rw [h2]; rfl, hv, h1⟩
  | row c =>
    obtain ⟨cs, rfl, hsz, hc⟩ := hv
    refine ⟨hsz, fun j hj => ?_⟩
    obtain ⟨u, hu, hr⟩ := hc j hj
    exact ⟨u, hu, hr, (SV.rel_one (Cs.at_cell h hj) hr).1⟩
  | two a b => simp [AV.cells?] at h

theorem AV.cellAt_ids {x : AV} {j : Nat} (hj : j < x.clen) {i : Nat} (h : i ∈ (x.cellAt j).ids) : i ∈ x.ids := by
  cases x with
  | one s => exact h
  | row c => exact Cs.ids_at hj h
  | two a b => simp [AV.cellAt, SV.ids] at h

/-- c' is c with x laid at off. -/
structure Spl (c : Cs) (off : Nat) (x : AV) (c' : Cs) : Prop where
  len : c'.len = c.len
  fit : off + x.clen ≤ c.len
  at' : ∀ j, j < c.len → c'.at j = if off ≤ j ∧ j < off + x.clen then x.cellAt (j - off) else c.at j

theorem Spl.n {k : IntKind} {xs : List Nat} {off v : Nat} (h : off < xs.length) : Spl (.ints k xs) off (.one (.n k v)) (.ints k (xs.set off v)) := by
  refine ⟨by simp [Cs.len], by simp [Cs.len, AV.clen]; omega, fun j hj => ?_⟩
  simp only [Cs.len] at hj
  simp only [Cs.at, AV.clen, AV.cellAt, List.getD_eq_getElem?_getD, List.getElem?_set]
  by_cases he : off = j
  · subst he; simp [hj]
  · rw [if_neg he, if_neg (by omega)]
theorem Spl.all {c c' : Cs} (h : c'.len = c.len) : Spl c 0 (.row c') c' := by
  refine ⟨h, by simp [AV.clen, h], fun j hj => ?_⟩
  rw [if_pos ⟨by omega, by simp [AV.clen]; omega⟩]; rfl
theorem Spl.r {k : IntKind} {xs ys : List Nat} {off : Nat} (h : off + ys.length ≤ xs.length) : Spl (.ints k xs) off (.row (.ints k ys)) (.ints k (xs.take off ++ ys ++ xs.drop (off + ys.length))) := by
  refine ⟨by simp [Cs.len]; omega, by simp [Cs.len, AV.clen]; omega, fun j hj => ?_⟩
  simp only [Cs.len] at hj
  simp only [Cs.at, AV.clen, Cs.len, AV.cellAt, List.getD_eq_getElem?_getD, List.append_assoc]
  by_cases h1 : j < off
  · rw [if_neg (by omega), List.getElem?_append_left (by simp; omega), List.getElem?_take, if_pos h1]
  · rw [List.getElem?_append_right (by simp; omega)]
    have e : (xs.take off).length = off := by simp; omega
    rw [e]
    by_cases h2 : j < off + ys.length
    · rw [if_pos ⟨by omega, h2⟩, List.getElem?_append_left (by omega)]
    · rw [if_neg (by omega), List.getElem?_append_right (by omega), List.getElem?_drop]
      congr 3; omega
theorem Spl.m {l : List SV} {off : Nat} {s : SV} (h : off < l.length) : Spl (.mix l) off (.one s) (.mix (l.set off s)) := by
  refine ⟨by simp [Cs.len], by simp [Cs.len, AV.clen]; omega, fun j hj => ?_⟩
  simp only [Cs.len] at hj
  simp only [Cs.at, AV.clen, AV.cellAt, List.getD_eq_getElem?_getD, List.getElem?_set]
  by_cases he : off = j
  · subst he; simp [hj]
  · rw [if_neg he, if_neg (by omega)]
def Cs.toL : Cs → List SV
  | .ints k xs => xs.map (SV.n k)
  | .mix l => l
theorem Cs.toL_len {c : Cs} : c.toL.length = c.len := by cases c <;> simp [Cs.toL, Cs.len]
theorem Cs.toL_at {c : Cs} {j : Nat} (h : j < c.len) : c.toL.getD j .u = c.at j := by
  cases c with
  | ints k xs => simp only [Cs.len] at h; simp [Cs.toL, Cs.at, List.getD_eq_getElem?_getD, h]
  | mix l => rfl
theorem Spl.mr {l : List SV} {off : Nat} {c : Cs} (h : off + c.len ≤ l.length) : Spl (.mix l) off (.row c) (.mix (l.take off ++ c.toL ++ l.drop (off + c.len))) := by
  have hl := c.toL_len
  have e : (l.take off).length = off := by simp; omega
  refine ⟨?_, h, fun j hj => ?_⟩
  · show (l.take off ++ c.toL ++ l.drop (off + c.len)).length = l.length
    rw [List.length_append, List.length_append, e, hl, List.length_drop]; omega
  change j < l.length at hj
  rw [List.append_assoc]
  by_cases h1 : j < off
  · rw [if_neg (fun h => by have := h.1; omega)]
    simp only [Cs.at, List.getD_eq_getElem?_getD]
    rw [List.getElem?_append_left (by omega), List.getElem?_take, if_pos h1]
  · by_cases h2 : j < off + c.len
    · rw [if_pos ⟨by omega, h2⟩]
      have hat := Cs.toL_at (c := c) (j := j - off) (by omega)
      show (l.take off ++ (c.toL ++ l.drop (off + c.len))).getD j .u = c.at (j - off)
      rw [← hat]
      simp only [List.getD_eq_getElem?_getD]
      rw [List.getElem?_append_right (by omega), e, List.getElem?_append_left (by omega)]
    · rw [if_neg (fun h => h2 h.2)]
      simp only [Cs.at, List.getD_eq_getElem?_getD]
      rw [List.getElem?_append_right (by omega), e, List.getElem?_append_right (by omega), List.getElem?_drop]
      congr 3; omega

section
variable {cx : Cx} {ops : Array Oper} {o : Oper} {F : Nat → Option AV} {H : Nat → Option Bk}

theorem evF_nom {F : Nat → Option AV} {d : Nat} (hn : Nom cx d F H) {x : Operand} {v : AV} (h : evF F x = some v) : d ∉ v.ids := by
  cases x with
  | tmp t => exact hn.f t v h
  | const c =>
    simp only [evF, cst] at h
    split at h <;> first | (cases h; done) | (split at h <;> first | (cases h; done) | (cases h; simp [AV.ids, SV.ids])) | (cases h; simp [AV.ids, SV.ids])
  | func f => simp only [evF, Option.some.injEq] at h; subst h; simp [AV.ids, SV.ids]
  | global g => cases h

/-! ### New blocks -/
/-- What stands for a new block: its place, or a slice over it. -/
inductive NewV (d : Nat) : AV → Nat → Nat → Value → Prop
  | ptr (b n : Nat) : NewV d (.one (.p d 0)) b n (.pointer (some ⟨b, 0, none⟩))
  | sli (b n len cap : Nat) : len ≤ cap → cap ≤ n → NewV d (.one (.sg d 0 len)) b n (.slice (some ⟨b, 0, none⟩) len cap)

theorem NewV.rel {d : Nat} {av : AV} {b n : Nat} {v : Value} (h : NewV d av b n v) {ρ : Nat → Loc} {A : Nat → Prop} {w : World} (hρ : ρ d = ⟨b, 0, n, true⟩) : av.Rel ρ A w v := by
  cases h with
  | ptr => simp only [AV.Rel, SV.Rel, hρ]
  | sli _ _ len cap h1 h2 => exact ⟨_, cap, rfl, h1, .inr ⟨by rw [hρ], by rw [hρ]; simpa using h2⟩⟩

/-- One that lays a new block. -/
theorem Doing.new {d : Nat} {av : AV} {c : Cs} {bk : Bk} (hu : Up cx ops F o) (hbk : bk = .own c ∨ bk = .grw c) (hid : ∀ F' H', (∀ t v, F t = some v → F' t = some v) → (∀ i b, H i = some b → H' i = some b) → Nom cx d F' H' → d ∉ c.ids)
    (h : ∀ ρ A a w, StRel cx F H a w ρ A → ∃ v w' cs T fz, (execOp a.eval o).run cx.P w = .ok (.value v) w' ∧ Pushed w w' (.cells cs T fz) ∧ Unfrozen fz cs.size ∧ c.len ≤ cs.size ∧
      (∀ j, j < c.len → ∃ u, cs[j]? = some u ∧ (c.at j).Rel ρ A w u) ∧ NewV d av w.heap.size cs.size v) : Doing cx ops o F H ⟨av, [(d, bk)], [d]⟩ := by
  intro F' H' hF hH hN ρ A a w hs K Q hK
  have hn := hN d (by simp)
  have hs' := hs.sub hF hH
  unfold StepOp
  rw [if_pos (hu.wanted hs')]
  obtain ⟨v, w', cs, T, fz, h1, h2, h3, h4, h5, h6⟩ := h ρ A a w hs'
  unfold Oper.wp
  rw [h1]
  refine hK v w' (upd' ρ d ⟨w.heap.size, 0, cs.size, true⟩) (fun b => A b ∨ b = w.heap.size) ?_
  rw [ovr_cons, ovr_nil]
  exact (hs.alloc hn h2 h3 h4 h5 (hid F' H' hF hH hn) hbk).put hu.d (h6.rel (by simp [upd']))

theorem unfrozen0 (n : Nat) : Unfrozen (0, 0) n := .inl rfl

theorem Y.alloc {d T n by' : Nat} {dT : TypeDesc} {z : Cs} (hT : TyI cx.P T dT n by' z) (hz : z.plain = true) (hz0 : z.ids = []) (hu : Up cx ops F o) (ho : o.op = .alloc T) : Doing cx ops o F H ⟨.one (.p d 0), [(d, .own z)], [d]⟩ :=
  Doing.new hu (.inl rfl) (fun _ _ _ _ _ => by rw [hz0]; simp) fun ρ A a w hs => by
    obtain ⟨v, hv, hvz⟩ := hT.run_zero w
    obtain ⟨h1, h2⟩ := Cs.vals_at hz ρ A w
    have hsz : v.cells.size = z.len := by rw [← h1, ← hvz]; simp
    refine ⟨.pointer (some ⟨w.heap.size, 0, none⟩), w.alloc (.cells v.cells T), v.cells, T, (0, 0), ?_, ⟨rfl, rfl, rfl, rfl⟩, unfrozen0 _, by omega, fun j hj => ?_, .ptr _ _⟩
    · simp only [execOp, ho, Instr.alloc, newVar, newRow, Sem.run_bind, hv, Result.andThen_ok, run_newObj, Sem.run_pure]; rfl
    · obtain ⟨u, hu', hr⟩ := h2 j hj
      exact ⟨u, by rw [← Array.getElem?_toList, hvz]; exact hu', hr⟩

/-- A parameter that is captured, or whose place is taken: a row. -/
theorem Y.box {d T : Nat} {x : Operand} {v : AV} {c : Cs} (hu : Up cx ops F o) (ho : o.op = .box T x) (hx : evF F x = some v) (hv : v.cells? = true) (hl : c.len = v.clen) (hc : ∀ j, j < v.clen → c.at j = v.cellAt j) :
    Doing cx ops o F H ⟨.one (.p d 0), [(d, .own c)], [d]⟩ := by
  have ids : ∀ j, j < c.len → ∀ i ∈ (c.at j).ids, i ∈ v.ids := fun j hj i hi => by
    rw [hc j (by omega)] at hi; exact AV.cellAt_ids (by omega) hi
  refine Doing.new hu (.inl rfl) (fun F' H' hF hH hn => ?_) fun ρ A a w hs => ?_
  · have hd := evF_nom hn (evF_mono hF hx)
    intro hmem
    cases c with
    | ints k xs => simp [Cs.ids] at hmem
    | mix l =>
      simp only [Cs.ids, List.mem_flatMap] at hmem
      obtain ⟨s, hs, hds⟩ := hmem
      obtain ⟨j, hj, rfl⟩ := List.getElem_of_mem hs
      exact hd (ids j hj d (by simpa [Cs.at, List.getD_eq_getElem?_getD, hj] using hds))
  · obtain ⟨h1, h2⟩ := AV.rel_cells hv (ev_rel hs hx)
    refine ⟨.pointer (some ⟨w.heap.size, 0, none⟩), w.alloc (.cells (a.eval x).cells T), _, T, (0, 0), ?_, ⟨rfl, rfl, rfl, rfl⟩, unfrozen0 _, by omega, fun j hj => ?_, .ptr _ _⟩
    · simp only [execOp, ho, Instr.box, newVar, newRow, Sem.run_bind, Result.andThen_ok, run_newObj, Sem.run_pure]; rfl
    · obtain ⟨u, hu', hr, _⟩ := h2 j (by omega)
      exact ⟨u, hu', by rw [hc j (by omega)]; exact hr⟩
theorem Y.boxR {d T : Nat} {x : Operand} {c : Cs} (hu : Up cx ops F o) (ho : o.op = .box T x) (hx : evF F x = some (.row c)) (hv : (AV.row c).cells? = true) : Doing cx ops o F H ⟨.one (.p d 0), [(d, .own c)], [d]⟩ :=
  Y.box hu ho hx hv rfl fun _ _ => rfl
theorem Y.boxN {d T v : Nat} {x : Operand} {k : IntKind} (hu : Up cx ops F o) (ho : o.op = .box T x) (hx : evF F x = some (.one (.n k v))) : Doing cx ops o F H ⟨.one (.p d 0), [(d, .own (.ints k [v]))], [d]⟩ :=
  Y.box (c := .ints k [v]) hu ho hx rfl rfl (fun j hj => by obtain rfl : j = 0 := (by simp only [AV.clen] at hj; omega); rfl)
theorem Y.boxS {d T : Nat} {x : Operand} {s : SV} (hu : Up cx ops F o) (ho : o.op = .box T x) (hx : evF F x = some (.one s)) (hv : s.cell = true) : Doing cx ops o F H ⟨.one (.p d 0), [(d, .own (.mix [s]))], [d]⟩ :=
  Y.box (c := .mix [s]) hu ho hx hv rfl (fun j hj => by obtain rfl : j = 0 := (by simp only [AV.clen] at hj; omega); rfl)

/-! ### Rows that are laid out -/
/-- The parts of a row, laid one after the other. -/
inductive Fill (F : Nat → Option AV) (place : Nat → Option (Nat × Nat)) : List (Nat × Operand) → Cs → Cs → Prop
  | nil (c : Cs) : Fill F place [] c c
  | cons (i : Nat) (x : Operand) (r : List (Nat × Operand)) (c c1 c2 : Cs) (v : AV) (off sz : Nat) : place i = some (off, sz) → evF F x = some v → v.cells? = true → v.clen = sz → Spl c off v c1 → Fill F place r c1 c2 → Fill F place ((i, x) :: r) c c2

theorem foldl_lay (off : Nat) : ∀ (l : List (Value × Nat)) (cells : Array Value), (∀ x ∈ l, off + x.2 < cells.size) → (l.map (·.2)).Nodup →
    (l.foldl (fun cs x => cs.setIfInBounds (off + x.2) x.1) cells).size = cells.size ∧ ∀ j, (l.foldl (fun cs x => cs.setIfInBounds (off + x.2) x.1) cells)[j]? = match l.find? (fun x => off + x.2 == j) with | some x => some x.1 | none => cells[j]?
  | [], cells, _, _ => ⟨rfl, fun j => rfl⟩
  | x :: l, cells, h, hnd => by
    rw [List.map_cons, List.nodup_cons] at hnd
    obtain ⟨h1, h2⟩ := foldl_lay off l (cells.setIfInBounds (off + x.2) x.1) (fun y hy => by simpa using h y (by simp [hy])) hnd.2
    refine ⟨by simpa using h1, fun j => ?_⟩
    rw [List.foldl_cons, h2 j]
    by_cases hj : off + x.2 = j
    · subst hj
      have hnone : l.find? (fun y => off + y.2 == off + x.2) = none := by
        rw [List.find?_eq_none]
        intro y hy hc
        simp only [beq_iff_eq] at hc
        exact hnd.1 (List.mem_map.2 ⟨y, hy, by omega⟩)
      rw [hnone]
      have := h x (by simp)
      simp [this]
    · have hb : (off + x.2 == j) = false := by simpa using hj
      rw [List.find?_cons, hb]
      cases l.find? (fun y => off + y.2 == j) with
      | some y => rfl
      | none => simp only; rw [Array.getElem?_setIfInBounds_ne (by omega)]

theorem find_zip (off j : Nat) : ∀ (l : List Value) (k : Nat), (l.zipIdx k).find? (fun x => off + x.2 == j) = if off + k ≤ j ∧ j < off + k + l.length then (l[j - (off + k)]?).map (fun v => (v, j - off)) else none
  | [], k => by simp
  | v :: l, k => by
    rw [List.zipIdx_cons, List.find?_cons, find_zip off j l (k + 1)]
    by_cases h : off + k = j
    · subst h
      have hb : (off + (v, k).2 == off + k) = true := by simp
      have hc : off + k ≤ off + k ∧ off + k < off + k + (v :: l).length := ⟨Nat.le_refl _, by simp⟩
      rw [hb, if_pos hc, Nat.sub_self, Nat.add_sub_cancel_left]
      rfl
    · have hb : (off + (v, k).2 == j) = false := by simpa using h
      rw [hb]
      show (if off + (k + 1) ≤ j ∧ j < off + (k + 1) + l.length then (l[j - (off + (k + 1))]?).map (fun v => (v, j - off)) else none) = _
      by_cases h2 : off + (k + 1) ≤ j ∧ j < off + (k + 1) + l.length
      · have h3 : off + k ≤ j ∧ j < off + k + (v :: l).length := ⟨by omega, by simp; omega⟩
        rw [if_pos h2, if_pos h3, show j - (off + k) = (j - (off + (k + 1))) + 1 by omega, List.getElem?_cons_succ]
      · have h3 : ¬ (off + k ≤ j ∧ j < off + k + (v :: l).length) := by simp; omega
        rw [if_neg h2, if_neg h3]

theorem fill_one {ρ : Nat → Loc} {A : Nat → Prop} {w : World} {cells : Array Value} {c c1 : Cs} {off : Nat} {x : AV} {v : Value} (hcs : cells.size = c.len) (hc : ∀ j, j < c.len → ∃ u, cells[j]? = some u ∧ (c.at j).Rel ρ A w u) (hx : x.cells? = true) (hv : x.Rel ρ A w v) (hs : Spl c off x c1) :
    (v.cells.zipIdx.foldl (fun cs (y : Value × Nat) => cs.setIfInBounds (off + y.2) y.1) cells).size = c1.len ∧ ∀ j, j < c1.len → ∃ u, (v.cells.zipIdx.foldl (fun cs (y : Value × Nat) => cs.setIfInBounds (off + y.2) y.1) cells)[j]? = some u ∧ (c1.at j).Rel ρ A w u := by
  obtain ⟨h1, h2⟩ := AV.rel_cells hx hv
  have hfit := hs.fit
  have e : v.cells.zipIdx.foldl (fun cs (y : Value × Nat) => cs.setIfInBounds (off + y.2) y.1) cells = (v.cells.toList.zipIdx).foldl (fun cs (y : Value × Nat) => cs.setIfInBounds (off + y.2) y.1) cells := by
    rw [← Array.foldl_toList, Array.toList_zipIdx]
  rw [e]
  obtain ⟨g1, g2⟩ := foldl_lay off v.cells.toList.zipIdx cells (fun y hy => by
    obtain ⟨u, j⟩ := y
    have := List.mem_zipIdx hy
    simp only [Array.length_toList] at this
    show off + j < cells.size
    omega) (by rw [List.zipIdx_map_snd]; exact List.nodup_range')
  refine ⟨by rw [g1, hs.len, hcs], fun j hj => ?_⟩
  rw [hs.len] at hj
  rw [g2 j, find_zip, hs.at' j hj]
  simp only [Nat.add_zero, Array.length_toList, h1]
  by_cases hj2 : off ≤ j ∧ j < off + x.clen
  · rw [if_pos hj2, if_pos hj2]
    obtain ⟨u, hu, hr, _⟩ := h2 (j - off) (by omega)
    exact ⟨u, by rw [Array.getElem?_toList, hu]; rfl, hr⟩
  · rw [if_neg hj2, if_neg hj2]
    exact hc j hj

theorem Fill.run {place : Nat → Option (Nat × Nat)} {parts : List (Nat × Operand)} {c c2 : Cs} (h : Fill F place parts c c2) {a : Act} {w : World} {ρ : Nat → Loc} {A : Nat → Prop} (hs : StRel cx F H a w ρ A) :
    ∀ {cells : Array Value}, cells.size = c.len → (∀ j, j < c.len → ∃ u, cells[j]? = some u ∧ (c.at j).Rel ρ A w u) →
      ∃ cs, Instr.fill place cells (parts.map fun x => (x.1, a.eval x.2)) = some cs ∧ cs.size = c2.len ∧ ∀ j, j < c2.len → ∃ u, cs[j]? = some u ∧ (c2.at j).Rel ρ A w u := by
  induction h with
  | nil c => intro cells h1 h2; exact ⟨cells, rfl, h1, h2⟩
  | cons i x r c c1 c2 v off sz hp hx hv hl hsp hr ih =>
    intro cells h1 h2
    have hxr := ev_rel hs hx
    obtain ⟨g1, g2⟩ := fill_one h1 h2 hv hxr hsp
    obtain ⟨cs, hcs, hh⟩ := ih g1 g2
    refine ⟨cs, ?_, hh⟩
    obtain ⟨k1, _⟩ := AV.rel_cells hv hxr
    have hfit := hsp.fit
    simp only [List.map_cons, Instr.fill, hp]
    rw [if_neg (by simp; omega)]
    exact hcs

theorem Fill.ids {place : Nat → Option (Nat × Nat)} {parts : List (Nat × Operand)} {c c2 : Cs} (h : Fill F place parts c c2) {d : Nat} (hd : ∀ x v, evF F x = some v → d ∉ v.ids) : (∀ j, j < c.len → d ∉ (c.at j).ids) → ∀ j, j < c2.len → d ∉ (c2.at j).ids := by
  induction h with
  | nil c => exact fun h => h
  | cons i x r c c1 c2 v off sz hp hx hv hl hsp hr ih =>
    intro hc
    refine ih fun j hj => ?_
    rw [hsp.len] at hj
    rw [hsp.at' j hj]
    split
    · rename_i hj2
      exact fun hm => hd x v hx (AV.cellAt_ids (by omega) hm)
    · exact hc j hj

theorem Cs.nom_of_at {c : Cs} {d : Nat} (h : ∀ j, j < c.len → d ∉ (c.at j).ids) : d ∉ c.ids := by
  cases c with
  | ints k xs => simp [Cs.ids]
  | mix l =>
    intro hm
    simp only [Cs.ids, List.mem_flatMap] at hm
    obtain ⟨s, hs, hd⟩ := hm
    obtain ⟨j, hj, rfl⟩ := List.getElem_of_mem hs
    exact h j hj (by simpa [Cs.at, List.getD_eq_getElem?_getD, hj] using hd)

theorem Y.buildA {T E N n by' sz bz : Nat} {dE : TypeDesc} {z zz c : Cs} {parts : List (Nat × Operand)} (hT : TyI cx.P T (.array N E) n by' z) (hE : TyI cx.P E dE sz bz zz) (hz : z.plain = true) (hu : Up cx ops F o) (ho : o.op = .build T parts.toArray)
    (hf : Fill F (fun i => some (i * sz, sz)) parts z c) : Doing cx ops o F H ⟨.row c, [], []⟩ :=
  Doing.val hu fun ρ A a w hs => by
    obtain ⟨v, hv, hvz⟩ := hT.run_zero w
    obtain ⟨h1, h2⟩ := Cs.vals_at hz ρ A w
    obtain ⟨cs, g1, g2, g3⟩ := hf.run hs (cells := v.cells) (by rw [← h1, ← hvz]; simp) (fun j hj => by
      obtain ⟨u, hu', hr⟩ := h2 j hj
      exact ⟨u, by rw [← Array.getElem?_toList, hvz]; exact hu', hr⟩)
    refine ⟨.agg cs, ?_, cs, rfl, g2, g3⟩
    simp only [execOp, ho, Instr.build, Sem.run_bind, hv, Result.andThen_ok, hT.run_und w, hE.run_size w, List.map_toArray, g1, Sem.run_pure]
theorem Y.buildS {T n by' : Nat} {fs : Array Field} {z c : Cs} {parts : List (Nat × Operand)} {places : Array (Nat × Nat)} (hT : TyI cx.P T (.struct fs) n by' z) (hz : z.plain = true)
    (hpl : ∀ w, (fs.mapM fun f => do pure (f.offset, ← sizeOf f.type) : Sem (Array (Nat × Nat))).run cx.P w = .ok places w) (hu : Up cx ops F o) (ho : o.op = .build T parts.toArray)
    (hf : Fill F (fun i => places[i]?) parts z c) : Doing cx ops o F H ⟨.row c, [], []⟩ :=
  Doing.val hu fun ρ A a w hs => by
    obtain ⟨v, hv, hvz⟩ := hT.run_zero w
    obtain ⟨h1, h2⟩ := Cs.vals_at hz ρ A w
    obtain ⟨cs, g1, g2, g3⟩ := hf.run hs (cells := v.cells) (by rw [← h1, ← hvz]; simp) (fun j hj => by
      obtain ⟨u, hu', hr⟩ := h2 j hj
      exact ⟨u, by rw [← Array.getElem?_toList, hvz]; exact hu', hr⟩)
    refine ⟨.agg cs, ?_, cs, rfl, g2, g3⟩
    simp only [execOp, ho, Instr.build, Sem.run_bind, hv, Result.andThen_ok, hT.run_und w, List.map_toArray]
    erw [hpl w]
    simp only [Result.andThen_ok, g1, Sem.run_pure]

end
end Go.Fx

/- FxO: stores, copies, appends, slices that are made, closures; calls met by contracts. -/
namespace Go.Fx
set_option linter.unusedVariables false
set_option linter.unusedSimpArgs false
open Go.RowKit (Below)

section
variable {cx : Cx} {ops : Array Oper} {o : Oper} {F : Nat → Option AV} {H : Nat → Option Bk}

theorem map_range0 {β : Type} (f : Nat → β) : (Array.range (0 * 1)).map f = #[] := by
  apply Array.ext
  · simp
  · intro i h; simp at h
theorem set_set {α : Type} (a : Array α) (i : Nat) (x y : α) : (a.setIfInBounds i x).setIfInBounds i y = a.setIfInBounds i y := by
  apply Array.ext_getElem?
  intro j
  by_cases h : i = j
  · subst h; simp [Array.getElem?_setIfInBounds]
  · rw [Array.getElem?_setIfInBounds_ne h, Array.getElem?_setIfInBounds_ne h, Array.getElem?_setIfInBounds_ne h]
theorem modify_push_last {α : Type} (a : Array α) (x : α) (f : α → α) : (a.push x).modify a.size f = a.push (f x) := by
  apply Array.ext_getElem?
  intro i
  rw [Array.getElem?_modify, Array.getElem?_push, Array.getElem?_push]
  by_cases h : a.size = i
  · subst h; simp
  · simp [h, Ne.symm h]

theorem setSelf {w : World} {b : Nat} {x : Obj} (h : w.heap[b]? = some x) : { w with heap := w.heap.setIfInBounds b x } = w := by
  have : w.heap.setIfInBounds b x = w.heap := by
    apply Array.ext_getElem?
    intro i
    by_cases hi : b = i
    · subst hi
      have hlt : b < w.heap.size := by
        rcases Nat.lt_or_ge b w.heap.size with h' | h'
        · exact h'
        · simp [Array.getElem?_eq_none h'] at h
      rw [Array.getElem?_setIfInBounds]; simp [hlt, ← h]
    · rw [Array.getElem?_setIfInBounds_ne hi]
  rw [this]

theorem setCell_eq {w : World} {b k : Nat} {cs : Array Value} {T : TypeId} {fz : Nat × Nat} (h : w.heap[b]? = some (.cells cs T fz)) (v : Value) :
    w.setCell ⟨b, k, none⟩ v = { w with heap := w.heap.setIfInBounds b (.cells (cs.setIfInBounds k v) T fz) } := by
  unfold World.setCell
  have : (w.heap.modify b fun
      | .cells c elem frozen => Obj.cells (if (none : Option Nat).isSome then c else c.setIfInBounds k v) elem frozen
      | o => o) = w.heap.setIfInBounds b (.cells (cs.setIfInBounds k v) T fz) := by
    apply Array.ext_getElem?
    intro i
    rw [Array.getElem?_modify]
    by_cases hi : b = i
    · subst hi
      have hlt : b < w.heap.size := by
        rcases Nat.lt_or_ge b w.heap.size with h' | h'
        · exact h'
        · simp [Array.getElem?_eq_none h'] at h
      simp only [Array.getElem?_eq_getElem hlt, Option.some.injEq] at h
      rw [Array.getElem?_setIfInBounds]; simp [hlt, h]
    · rw [Array.getElem?_setIfInBounds_ne hi]; simp [hi]
  exact congrArg (fun x => ({ w with heap := x } : World)) this

theorem run_storeCells_fz {P : Program} {b o : Nat} {T : TypeId} {fz : Nat × Nat} : ∀ (vs : List Value) (i : Nat) (cs : Array Value) (w : World), w.heap[b]? = some (.cells cs T fz) → Unfrozen fz cs.size → o + i + vs.length ≤ cs.size → (∀ v ∈ vs, v.oneCell' = true) →
    ∃ cs' : Array Value, (storeCells ⟨b, o, none⟩ vs i).run P w = .ok () { w with heap := w.heap.setIfInBounds b (.cells cs' T fz) } ∧ cs'.size = cs.size ∧
      ∀ j, cs'[j]? = if o + i ≤ j ∧ j < o + i + vs.length then vs[j - (o + i)]? else cs[j]?
  | [], i, cs, w, h, _, _, _ => ⟨cs, by rw [setSelf h]; rfl, rfl, fun j => by rw [if_neg (by simp)]⟩
  | v :: vs, i, cs, w, h, hf, hl, h1 => by
    simp only [List.length_cons] at hl
    have hlt : b < w.heap.size := by
      rcases Nat.lt_or_ge b w.heap.size with h' | h'
      · exact h'
      · simp [Array.getElem?_eq_none h'] at h
    have hc : w.cell? ⟨b, o + i, none⟩ = some (cs[o + i]'(by omega)) := by
      simp only [World.cell?, h, Option.isSome_none, Bool.false_eq_true, if_false]
      simp [show o + i < cs.size by omega]
    have hz : w.frozen? ⟨b, o + i, none⟩ = false := by
      simp only [World.frozen?, h]
      exact hf.at (o + i) (by omega)
    have h' : ({ w with heap := w.heap.setIfInBounds b (.cells (cs.setIfInBounds (o + i) v) T fz) } : World).heap[b]? = some (.cells (cs.setIfInBounds (o + i) v) T fz) := by
      simp [hlt]
    obtain ⟨cs', g1, g2, g3⟩ := run_storeCells_fz (P := P) (o := o) vs (i + 1) (cs.setIfInBounds (o + i) v) { w with heap := w.heap.setIfInBounds b (.cells (cs.setIfInBounds (o + i) v) T fz) } h' (by simpa using hf) (by simp; omega) (fun u hu => h1 u (by simp [hu]))
    refine ⟨cs', ?_, by simpa using g2, fun j => ?_⟩
    · simp only [storeCells, addr_add, Sem.run_bind, run_store P w _ v _ (h1 v (by simp)), hc, hz, Bool.false_eq_true, if_false, Result.andThen_ok, setCell_eq h, g1, set_set]
    · rw [g3 j]
      by_cases hj : o + i = j
      · subst hj
        rw [if_neg (by omega), if_pos ⟨by omega, by simp⟩]
        simp [show o + i < cs.size by omega]
      · by_cases hj2 : o + (i + 1) ≤ j ∧ j < o + (i + 1) + vs.length
        · rw [if_pos hj2, if_pos ⟨by omega, by simp; omega⟩, show j - (o + i) = (j - (o + (i + 1))) + 1 by omega]
          simp
        · rw [if_neg hj2, if_neg (by simp; omega), Array.getElem?_setIfInBounds_ne hj]

theorem OwnB.real {cx : Cx} {ρ : Nat → Loc} {A : Nat → Prop} {w : World} {l : Loc} {c : Cs} (h : OwnB cx ρ A w l c) (hc : l.size ≠ 0) : l.own = true ∧ c.len ≤ l.size ∧ ∃ cs T fz, w.heap[l.blk]? = some (.cells cs T fz) ∧ l.off + l.size ≤ cs.size ∧ Unfrozen fz cs.size ∧
    ∀ j, j < c.len → ∃ u, cs[l.off + j]? = some u ∧ (c.at j).Rel ρ A w u := by
  rcases h.2 with h2 | ⟨ho, _, _, _, cs, T, fz, h3, h4, h5, h6⟩
  · exact absurd h2 hc
  · exact ⟨ho, h.1, cs, T, fz, h3, h4, h5, h6⟩

/-- A STORE. -/
theorem Y.st {T n by' id off : Nat} {d : TypeDesc} {z c c' : Cs} {x y : Operand} {v : AV} (hT : TyI cx.P T d n by' z) (hu : Up cx ops F o) (ho : o.op = .store T x y) (hx : evF F x = some (.one (.p id off))) (hy : evF F y = some v) (hv : v.cells? = true) (hn : v.clen = n)
    (hb : H id = some (.own c)) (hs : Spl c off v c') (hn0 : n ≠ 0) : Doing cx ops o F H ⟨.one .u, [(id, .own c')], []⟩ := by
  intro F' H' hF hH _ ρ A a w hst K Q hK
  have hst0 := hst.sub hF hH
  unfold StepOp
  rw [if_pos (hu.wanted hst0)]
  have h1 := ev_rel hst0 hx
  simp only [AV.Rel, SV.Rel] at h1
  obtain ⟨g1, g2⟩ := AV.rel_cells hv (ev_rel hst0 hy)
  have hfit := hs.fit
  have hown := hst0.hp id _ hb
  obtain ⟨r1, r2, cs, T', fz, r3, r4, r5, r6⟩ := OwnB.real hown (by have := hown.1; omega)
  obtain ⟨cs', k1, k2, k3⟩ := run_storeCells_fz (P := cx.P) (o := (ρ id).off + off) (a.eval y).cells.toList 0 cs w r3 r5 (by simp; omega) (by
    intro u hu'
    obtain ⟨j, hj, rfl⟩ := List.getElem_of_mem hu'
    simp only [Array.length_toList] at hj
    obtain ⟨u, hu2, _, h3⟩ := g2 j (by omega)
    simp only [Array.getElem?_eq_getElem hj, Option.some.injEq] at hu2
    simp only [Array.getElem_toList, hu2, h3])
  have hrun : (execOp a.eval o).run cx.P w = .ok .skip { w with heap := w.heap.setIfInBounds (ρ id).blk (.cells cs' T' fz) } := by
    simp only [execOp, ho, h1, Instr.storeAt, Instr.sureAddr, storeVar, Sem.run_bind, Sem.run_pure, Result.andThen_ok, hT.run_size w]
    rw [if_neg (by omega)]
    simp only [Result.andThen_ok, k1]
  unfold Oper.wp
  rw [hrun]
  refine hK undef _ ρ A ?_
  rw [ovr_cons, ovr_nil]
  refine (hst.write (hH _ _ hb) trivial r1 (by omega) r3 k2 rfl (c' := c') (by rw [hs.len]; omega) (fun j hj => ?_) (.inl rfl)).put hu.d rfl
  rw [hs.len] at hj
  rw [hs.at' j hj, k3]
  simp only [Nat.add_zero, Array.length_toList]
  by_cases hj2 : off ≤ j ∧ j < off + v.clen
  · rw [if_pos hj2, if_pos ⟨by omega, by omega⟩]
    obtain ⟨u, hu', hr, _⟩ := g2 (j - off) (by omega)
    refine ⟨u, ?_, hr⟩
    rw [Array.getElem?_toList, show (ρ id).off + j - ((ρ id).off + off) = j - off by omega]; exact hu'
  · rw [if_neg hj2, if_neg (by omega)]
    exact r6 j hj

/-! ### Slices that are made -/
theorem Y.mkS {d T E n by' bz L : Nat} {dE : TypeDesc} {z : Cs} {k : IntKind} {x y : Operand} (hT : TyI cx.P T (.slice E) n by' z) (hE : TyI cx.P E (.int k) 1 bz (.ints k [0])) (hu : Up cx ops F o) (ho : o.op = .makeSlice T x y)
    (hx : evF F x = some (.one (.n .i64 L))) (hy : evF F y = some (.one (.n .i64 L))) (hL : bz * L ≤ 281474976710656) (hL' : L < 9223372036854775808) (_ : dE = .int k := by rfl) :
    Doing cx ops o F H ⟨.one (.sg d 0 L), [(d, .own (.ints k (List.replicate L 0)))], [d]⟩ :=
  Doing.new hu (.inl rfl) (fun _ _ _ _ _ => by simp [Cs.ids]) fun ρ A a w hs => by
    have h1 := ev_rel hs hx
    have h2 := ev_rel hs hy
    simp only [AV.Rel, SV.Rel] at h1 h2
    obtain ⟨v, hv, hvz⟩ := hE.run_zero w
    obtain ⟨i, hi, hib, his⟩ := hE.run_bytes w
    have hvc : v.cells = #[Value.int k 0] := by
      apply Array.ext'
      rw [hvz]; rfl
    have hw := wrap_i64 (L : Int) (by omega) (by omega)
    have hcells : ((Array.range (L * 1)).map fun j => (#[Value.int k 0] : Array Value)[j % (#[Value.int k 0] : Array Value).size]!) = Array.replicate L (Value.int k 0) := by
      apply Array.ext
      · simp
      · intro j h1 h2
        simp [Nat.mod_one]
    refine ⟨.slice (some ⟨w.heap.size, 0, none⟩) L L, w.alloc (.cells (Array.replicate L (.int k 0)) E), _, E, (0, 0), ?_, ⟨rfl, rfl, rfl, rfl⟩, unfrozen0 _, by simp [Cs.len], fun j hj => ?_, ?_⟩
    · have ht : ¬ ((decide ((L : Int) < 0) || decide ((bz : Int) * L > 2 ^ 48)) = true) := by
        simp
        have : (bz : Int) * L = ((bz * L : Nat) : Int) := by simp
        omega
      have ht' : (decide ((L : Int) < 0) || decide ((bz : Int) * L > 2 ^ 48)) = false := by simpa using ht
      simp only [execOp, ho, h1, h2, Instr.makeSlice, asInt, asIntOf, Sem.run_bind, Sem.run_pure, Result.andThen_ok, hT.run_und w, hi, hib, hw, ht']
      have hn0 : (decide ((L : Int) < 0)) = false := by simp
      have hn1 : (decide ((L : Int) > L)) = false := by simp
      simp only [hn0, hn1, Bool.or_self, Bool.false_eq_true, if_false, Sem.run_bind, run_askRoom, Result.andThen_ok, Int.toNat_natCast, hE.run_size w]
      by_cases hL0 : L * 1 = 0
      · rw [if_pos hL0]
        have : L = 0 := by omega
        subst this
        simp only [Sem.run_pure, Result.andThen_ok, newRow, Sem.run_bind, run_newObj, map_range0]
        rfl
      · rw [if_neg hL0]
        simp only [Sem.run_bind, hv, Result.andThen_ok, Sem.run_pure, hvc, newRow, run_newObj, hcells]
        rfl
    · simp only [Cs.len, List.length_replicate] at hj
      have e : (List.replicate L 0).getD j 0 = 0 := by simp [List.getD_eq_getElem?_getD, hj]
      refine ⟨.int k 0, by simp [hj], ?_⟩
      show Value.int k 0 = .int k ((List.replicate L 0).getD j 0 : Nat) ∧ fits k ((List.replicate L 0).getD j 0)
      rw [e]
      exact ⟨rfl, .inr (Nat.two_pow_pos _)⟩
    · simp only [Array.size_replicate]
      exact .sli _ _ _ _ (Nat.le_refl _) (Nat.le_refl _)

theorem Y.bldS {d T E n by' sz bz L : Nat} {dE : TypeDesc} {z zz c : Cs} {parts : List (Nat × Operand)} (hT : TyI cx.P T (.slice E) n by' z) (hE : TyI cx.P E dE sz bz zz) (hsz : sz = 1) (hu : Up cx ops F o) (ho : o.op = .buildSlice T L parts.toArray)
    (z0 : Cs) (hz0 : z0.vals = ((List.range L).map fun _ => zz.vals.headD undef)) (hzl : z0.len = L) (hzz : z0.plain = true) (hz : zz.len = 1) (hL0 : L ≠ 0) (hL : L ≤ 16777216) (hf : Fill F (fun i => some (i * sz, sz)) parts z0 c) : Doing cx ops o F H ⟨.one (.sg d 0 L), [(d, .own c)], [d]⟩ := by
  subst hsz
  obtain ⟨q1, q2⟩ : ∃ l : Nat, c.len = l ∧ l = L := by
    refine ⟨c.len, rfl, ?_⟩
    have : ∀ {parts : List (Nat × Operand)} {c c2 : Cs}, Fill F (fun i => some (i * 1, 1)) parts c c2 → c2.len = c.len := by
      intro parts c c2 h
      induction h with
      | nil => rfl
      | cons _ _ _ _ _ _ _ _ _ _ _ _ _ hsp _ ih => rw [ih, hsp.len]
    rw [this hf, hzl]
  refine Doing.new hu (.inl rfl) (fun F' H' hF _ hn => Cs.nom_of_at (hf.ids (fun x v hx => evF_nom hn (evF_mono hF hx)) fun j hj => ?_)) fun ρ A a w hs => ?_
  · cases z0 with
    | ints k xs => simp [Cs.at, SV.ids]
    | mix l =>
      simp only [Cs.len] at hj
      simp only [Cs.at, List.getD_eq_getElem?_getD, hj, List.getElem?_eq_getElem, Option.getD_some]
      have := List.all_eq_true.1 hzz _ (List.getElem_mem hj)
      generalize l[j] = s at *
      cases s <;> simp_all [SV.plain, SV.ids]
  · obtain ⟨v, hv, hvz⟩ := hE.run_zero w
    obtain ⟨i, hi, hib, his⟩ := hE.run_bytes w
    obtain ⟨h1, h2⟩ := Cs.vals_at hzz ρ A w
    have hvs : v.cells.size = 1 := by
      have : v.cells.toList.length = zz.vals.length := by rw [hvz]
      simp only [Array.length_toList] at this
      rw [this]
      cases zz <;> simpa [Cs.vals, Cs.len] using hz
    have hcells : ((Array.range (L * 1)).map fun j => v.cells[j % v.cells.size]!).toList = z0.vals := by
      rw [hz0]
      simp only [Array.toList_map, Array.toList_range, Nat.mul_one, hvs, Nat.mod_one]
      apply List.map_congr_left
      intro j _
      have : v.cells = #[zz.vals.headD undef] := by
        apply Array.ext'
        rw [hvz]
        have hl : zz.vals.length = 1 := by rw [← hvz]; simpa using hvs
        match hzv : zz.vals, hl with
        | [q], _ => rfl
      rw [this]; rfl
    obtain ⟨cs, g1, g2, g3⟩ := hf.run hs (cells := (Array.range (L * 1)).map fun j => v.cells[j % v.cells.size]!) (by rw [← h1, ← hcells]; simp) (fun j hj => by
      obtain ⟨u, hu', hr⟩ := h2 j hj
      exact ⟨u, by rw [← Array.getElem?_toList, hcells]; exact hu', hr⟩)
    refine ⟨.slice (some ⟨w.heap.size, 0, none⟩) L L, w.alloc (.cells cs E), cs, E, (0, 0), ?_, ⟨rfl, rfl, rfl, rfl⟩, unfrozen0 _, by omega, g3, .sli _ _ _ _ (Nat.le_refl _) (by omega)⟩
    simp only [execOp, ho, Instr.buildSlice, Sem.run_bind, hT.run_und w, Result.andThen_ok, hE.run_size w, List.map_toArray]
    rw [if_neg (by omega)]
    simp only [Sem.run_pure]
    rw [if_neg (by omega)]
    simp only [Sem.run_bind, hv, Result.andThen_ok, Sem.run_pure, g1, newRow, run_newObj]
    rfl
/-- No element. -/
theorem Y.bldS0 {T E n by' sz bz : Nat} {dE : TypeDesc} {z zz : Cs} (hT : TyI cx.P T (.slice E) n by' z) (hE : TyI cx.P E dE sz bz zz) (hu : Up cx ops F o) (ho : o.op = .buildSlice T 0 #[]) : Doing cx ops o F H ⟨.one .nil, [], []⟩ := by
  intro F' H' hF hH _ ρ A a w hst K Q hK
  have hst0 := hst.sub hF hH
  unfold StepOp
  rw [if_pos (hu.wanted hst0)]
  unfold Oper.wp
  have : (execOp a.eval o).run cx.P w = .ok (.value (.slice (some ⟨w.heap.size, 0, none⟩) 0 0)) (w.alloc (.cells #[] E)) := by
    simp only [execOp, ho, Instr.buildSlice, Sem.run_bind, hT.run_und w, Result.andThen_ok, hE.run_size w]
    have e0 : (Array.map (fun (_ : Nat) => (default : Value)) (Array.range 0)) = #[] := by
      apply Array.ext
      · simp
      · intro i h; simp at h
    simp [Instr.fill, newRow, e0]
  rw [this]
  exact hK _ _ ρ A ((hst.below ((Below.refl _ _).alloc (Nat.le_refl _) _)).put hu.d ⟨_, rfl⟩)

/-- The bytes of a string that the text writes out. -/
theorem Y.bytesC {d T T' E n by' n' b' bz : Nat} {z z' zz : Cs} {x : Operand} {xs : List Nat} (hT : TyI cx.P T .string n by' z) (hT' : TyI cx.P T' (.slice E) n' b' z') (hE : TyI cx.P E (.int .u8) 1 bz zz) (hu : Up cx ops F o) (ho : o.op = .convert T T' x) (hx : evF F x = some (.one (.str xs))) :
    Doing cx ops o F H ⟨.one (.sg d 0 xs.length), [(d, .own (.ints .u8 xs))], [d]⟩ :=
  Doing.new hu (.inl rfl) (fun _ _ _ _ _ => by simp [Cs.ids]) fun ρ A a w hs => by
    obtain ⟨h1, hxs⟩ := ev_rel hs hx
    have hsz : (strOf xs).size = xs.length := by simp [strOf, ByteArray.size]
    generalize hcap : (Question.appendCap (strOf xs).size 0 E).cut (w.tape w.drawn (Question.appendCap (strOf xs).size 0 E)) = cap
    have hle : xs.length ≤ cap := by rw [← hcap, hsz]; exact Nat.le_add_right _ _
    let cs : Array Value := (strOf xs).data.map (fun b => Value.int .u8 b.toNat) ++ Array.replicate (cap - (strOf xs).size) (.int .u8 0)
    have hcs : cs.size = cap := by
      show (Array.size (_ ++ _)) = _
      rw [Array.size_append, Array.size_map, Array.size_replicate]
      have : (strOf xs).data.size = (strOf xs).size := rfl
      omega
    refine ⟨.slice (some ⟨w.heap.size, 0, none⟩) xs.length cap, { w with heap := w.heap.push (.cells cs E (cap, cap + 1)), drawn := w.drawn + 1 }, cs, E, (cap, cap + 1), ?_, ⟨rfl, rfl, rfl, rfl⟩, ?_, by simp [Cs.len]; omega, fun j hj => ?_, .sli _ _ _ _ hle (by omega)⟩
    · have hconv : (convert T T' (.string (strOf xs))).run cx.P w = (Conv.stringToBytes E (strOf xs)).run cx.P w := by
        simp only [convert, Sem.run_bind, hT.run_und w, hT'.run_und w, Result.andThen_ok, hE.run_und w]
      simp only [execOp, ho, h1, Sem.run_bind, hconv, Conv.stringToBytes, run_choose, Question.forced, Bool.false_eq_true, if_false, Result.andThen_ok, hcap, newRow, run_newObj, Sem.run_pure, markStringish, run_shape]
      have hshape : ({ w with heap := w.heap.push (.cells cs E), drawn := w.drawn + 1 } : World).shape? w.heap.size = some (E, cs.size) := by
        simp [World.shape?]
      simp only [show (Array.map (fun b => Value.int IntKind.u8 ↑b.toNat) (strOf xs).data ++ Array.replicate (cap - (strOf xs).size) (Value.int IntKind.u8 0)) = cs from rfl]
      simp only [hshape, run_freeze, Result.andThen_ok, hsz, hcs]
      simp only [World.freeze, Nat.succ_ne_zero, if_false, modify_push_last]
      rfl
    · exact .inr (by omega)
    · simp only [Cs.len] at hj
      have hx := hxs _ (List.getElem_mem hj)
      have e : xs.getD j 0 = xs[j] := by simp [List.getD_eq_getElem?_getD, hj]
      refine ⟨.int .u8 (xs[j] : Nat), ?_, by show Value.int .u8 (xs[j] : Nat) = .int .u8 (xs.getD j 0 : Nat); rw [e], by rw [e]; exact .inr hx⟩
      show (_ ++ _)[j]? = _
      rw [Array.getElem?_append_left (by simp [strOf]; exact hj)]
      simp [strOf, hj]
      omega

end
end Go.Fx

/- FxP: append and copy; closures; calls met by contracts. -/
namespace Go.Fx
open Go.RowKit (Below)

/-- What is appended, or copied, reads so. -/
inductive Src (H : Nat → Option Bk) : AV → Cs → Prop
  | nilI (k : IntKind) : Src H (.one .nil) (.ints k [])
  | nilM : Src H (.one .nil) (.mix [])
  | bs (ex : Bool) (k : IntKind) (xs : List Nat) : Src H (.one (.bs ex k xs)) (.ints k xs)
  | bss (ex : Bool) (xss : List (List Nat)) : Src H (.one (.bss ex xss)) (.mix (xss.map fun xs => .bs false .u8 xs))
  | sg (id off len : Nat) (b : Bk) (c c' : Cs) : H id = some b → (b = .own c ∨ b = .grw c) → off + len ≤ c.len → c' = c.sub off len → Src H (.one (.sg id off len)) c'

theorem blk_cells {cx : Cx} {F : Nat → Option AV} {H : Nat → Option Bk} {a : Act} {w : World} {ρ : Nat → Loc} {A : Nat → Prop} (hs : StRel cx F H a w ρ A) {id : Nat} {b : Bk} {c : Cs} (hb : H id = some b) (hbc : b = .own c ∨ b = .grw c) (hz : (ρ id).size ≠ 0) :
    ∀ j, j < c.len → ∃ u, w.cell? ⟨(ρ id).blk, (ρ id).off + j, none⟩ = some u ∧ (c.at j).Rel ρ A w u := by
  have own : OwnB cx ρ A w (ρ id) c → ∀ j, j < c.len → ∃ u, w.cell? ⟨(ρ id).blk, (ρ id).off + j, none⟩ = some u ∧ (c.at j).Rel ρ A w u := by
    rintro ⟨_, h2⟩ j hj
    rcases h2 with h2 | ⟨_, ha, _, _, cs, T, fz, hh, _, _, hcs⟩
    · exact absurd h2 hz
    · obtain ⟨u, hu, hr⟩ := hcs j hj
      exact ⟨u, by simp only [World.cell?, hh, Option.isSome_none, Bool.false_eq_true, if_false]; exact hu, hr⟩
  have hrel := hs.hp id b hb
  rcases hbc with rfl | rfl
  · exact own hrel
  · rcases hrel with hrel | ⟨_, _, h2⟩
    · exact own hrel
    · rcases h2 with h2 | ⟨_, _, hcs⟩
      · exact absurd h2 hz
      · exact hcs

theorem Src.read {cx : Cx} {F : Nat → Option AV} {H : Nat → Option Bk} {a : Act} {w : World} {ρ : Nat → Loc} {A : Nat → Prop} (hs : StRel cx F H a w ρ A) {x : AV} {c : Cs} (h : Src H x c) {v : Value} (hv : x.Rel ρ A w v) :
    ∃ ad cap, v = .slice ad c.len cap ∧ c.len ≤ cap ∧ (c.len = 0 ∨ ∃ b o, ad = some ⟨b, o, none⟩ ∧ ∀ j, j < c.len → ∃ u, w.cell? ⟨b, o + j, none⟩ = some u ∧ (c.at j).Rel ρ A w u) := by
  cases h with
  | nilI k => obtain ⟨ad, rfl⟩ := hv; exact ⟨ad, 0, rfl, Nat.le_refl _, .inl rfl⟩
  | nilM => obtain ⟨ad, rfl⟩ := hv; exact ⟨ad, 0, rfl, Nat.le_refl _, .inl rfl⟩
  | bs ex k xs =>
    obtain ⟨ad, cap, rfl, h1, _, h2⟩ := hv
    refine ⟨ad, cap, rfl, h1, ?_⟩
    rcases h2 with h2 | ⟨b, o, had, _, _, hc⟩
    · exact .inl (by simp only [Cs.len] at *; omega)
    · exact .inr ⟨b, o, had, fun j hj => hc j hj⟩
  | bss ex xss =>
    obtain ⟨ad, cap, rfl, h1, _, h2⟩ := hv
    have hl : (Cs.mix (xss.map fun xs => .bs false .u8 xs)).len = xss.length := by simp [Cs.len]
    rw [hl]
    refine ⟨ad, cap, rfl, h1, ?_⟩
    rcases h2 with h2 | ⟨b, o, had, _, _, hc⟩
    · exact .inl (by omega)
    · refine .inr ⟨b, o, had, fun j hj => ?_⟩
      obtain ⟨u, hu, hr⟩ := hc j hj
      refine ⟨u, hu, ?_⟩
      simp only [Cs.at, List.getD_eq_getElem?_getD, List.getElem?_map, hj, List.getElem?_eq_getElem, Option.map_some, Option.getD_some]
      have e : xss.getD j [] = xss[j] := by simp [List.getD_eq_getElem?_getD, hj]
      rw [e] at hr; exact hr
  | sg id off len b c0 c' hb hbc hl he =>
    subst he
    obtain ⟨ad, cap, rfl, h1, h2⟩ := hv
    rw [Cs.sub_len hl]
    refine ⟨ad, cap, rfl, h1, ?_⟩
    rcases h2 with h2 | ⟨had, hsz⟩
    · exact .inl (by omega)
    by_cases h0 : len = 0
    · exact .inl h0
    refine .inr ⟨(ρ id).blk, (ρ id).off + off, had, fun j hj => ?_⟩
    obtain ⟨u, hu, hr⟩ := blk_cells hs hb hbc (by omega) (off + j) (by omega)
    exact ⟨u, by rw [Nat.add_assoc]; exact hu, by rw [Cs.sub_at hj]; exact hr⟩

theorem Src.nom {cx : Cx} {F : Nat → Option AV} {H : Nat → Option Bk} {d : Nat} (hn : Nom cx d F H) {x : AV} {c : Cs} (h : Src H x c) : ∀ j, j < c.len → d ∉ (c.at j).ids := by
  cases h with
  | nilI k => intro j hj; simp [Cs.len] at hj
  | nilM => intro j hj; simp [Cs.len] at hj
  | bs ex k xs => intro j _; simp [Cs.at, SV.ids]
  | bss ex xss =>
    intro j hj
    simp only [Cs.len, List.length_map] at hj
    simp [Cs.at, List.getD_eq_getElem?_getD, hj, SV.ids]
  | sg id off len b c0 c' hb hbc hl he =>
    subst he
    intro j hj hm
    rw [Cs.sub_len hl] at hj
    rw [Cs.sub_at hj] at hm
    have := hn.g id b hb
    rcases hbc with rfl | rfl <;> exact this (Cs.ids_at (by omega) hm)

theorem run_firstCells {P : Program} {w : World} {ρ : Nat → Loc} {A : Nat → Prop} {c : Cs} {ad : Option Addr} {cap : Nat} (h : c.len = 0 ∨ ∃ b o, ad = some ⟨b, o, none⟩ ∧ ∀ j, j < c.len → ∃ u, w.cell? ⟨b, o + j, none⟩ = some u ∧ (c.at j).Rel ρ A w u) :
    ∃ cs : Array Value, (∀ k, (Builtin.firstCells 1 c.len (.slice ad c.len cap)).run P { w with drawn := k } = .ok cs { w with drawn := k }) ∧ cs.size = c.len ∧ ∀ j, j < c.len → ∃ u, cs[j]? = some u ∧ (c.at j).Rel ρ A w u := by
  rcases h with h | ⟨b, o, rfl, hc⟩
  · rw [h]
    cases ad with
    | none => exact ⟨#[], fun _ => rfl, rfl, fun j hj => by omega⟩
    | some q => exact ⟨#[], fun _ => by simp [Builtin.firstCells, loadCells, loadCellsFrom], rfl, fun j hj => by omega⟩
  · refine ⟨((List.range c.len).map fun j => (w.cell? ⟨b, o + j, none⟩).getD undef).toArray, fun k => ?_, ?_, fun j hj => ?_⟩
    · simp only [Builtin.firstCells, Nat.mul_one]
      exact run_loadCells { w with drawn := k } ⟨b, o, none⟩ c.len (fun j => (w.cell? ⟨b, o + j, none⟩).getD undef) (fun j hj => by
        obtain ⟨u, hu, _⟩ := hc j hj
        rw [addr_add, hu]; exact hu)
    · simp
    · obtain ⟨u, hu, hr⟩ := hc j hj
      exact ⟨u, by simp [hj, hu], hr⟩

/-- A row behind another one. -/
structure App (c1 c2 c : Cs) : Prop where
  len : c.len = c1.len + c2.len
  l : ∀ j, j < c1.len → c.at j = c1.at j
  r : ∀ j, j < c2.len → c.at (c1.len + j) = c2.at j
theorem App.i {k : IntKind} {xs ys : List Nat} : App (.ints k xs) (.ints k ys) (.ints k (xs ++ ys)) := by
  refine ⟨by simp [Cs.len], fun j hj => ?_, fun j hj => ?_⟩
  · simp only [Cs.len] at hj
    simp only [Cs.at, List.getD_eq_getElem?_getD]; rw [List.getElem?_append_left hj]
  · simp only [Cs.len, Cs.at, List.getD_eq_getElem?_getD]; rw [List.getElem?_append_right (by omega), Nat.add_sub_cancel_left]
theorem App.i0 {k : IntKind} {ys : List Nat} : App (.ints k []) (.ints k ys) (.ints k ys) := App.i (xs := [])
theorem App.m {xs ys : List SV} : App (.mix xs) (.mix ys) (.mix (xs ++ ys)) := by
  refine ⟨by simp [Cs.len], fun j hj => ?_, fun j hj => ?_⟩
  · simp only [Cs.len] at hj
    simp only [Cs.at, List.getD_eq_getElem?_getD]; rw [List.getElem?_append_left hj]
  · simp only [Cs.len, Cs.at, List.getD_eq_getElem?_getD]; rw [List.getElem?_append_right (by omega), Nat.add_sub_cancel_left]
theorem App.toL (c1 c2 : Cs) : App c1 c2 (.mix (c1.toL ++ c2.toL)) := by
  refine ⟨by show (c1.toL ++ c2.toL).length = _; rw [List.length_append, Cs.toL_len, Cs.toL_len], fun j hj => ?_, fun j hj => ?_⟩
  · rw [← Cs.toL_at hj]
    simp only [Cs.at, List.getD_eq_getElem?_getD]; rw [List.getElem?_append_left (by rw [Cs.toL_len]; exact hj)]
  · rw [← Cs.toL_at hj, ← Cs.toL_len (c := c1)]
    simp only [Cs.at, List.getD_eq_getElem?_getD]; rw [List.getElem?_append_right (by omega), Nat.add_sub_cancel_left]
theorem App.nom {c1 c2 c : Cs} (h : App c1 c2 c) {d : Nat} (h1 : ∀ j, j < c1.len → d ∉ (c1.at j).ids) (h2 : ∀ j, j < c2.len → d ∉ (c2.at j).ids) : d ∉ c.ids := by
  refine Cs.nom_of_at fun j hj => ?_
  rw [h.len] at hj
  by_cases hlt : j < c1.len
  · rw [h.l j hlt]; exact h1 j hlt
  · have := h.r (j - c1.len) (by omega)
    rw [show c1.len + (j - c1.len) = j by omega] at this
    rw [this]; exact h2 _ (by omega)

/-- What may be appended to: nothing yet, a slice whose room is full, or one of the call's own to its end (which then is no more: 'kill'). -/
inductive Base (H : Nat → Option Bk) : AV → Cs → Option Nat → Prop
  | nilI (k : IntKind) : Base H (.one .nil) (.ints k []) none
  | nilM : Base H (.one .nil) (.mix []) none
  | ex (k : IntKind) (xs : List Nat) : Base H (.one (.bs true k xs)) (.ints k xs) none
  | sg (id off len : Nat) (c c' : Cs) : H id = some (.own c) → off + len = c.len → c' = c.sub off len → Base H (.one (.sg id off len)) c' (some id)

theorem Base.src {H : Nat → Option Bk} {x : AV} {c : Cs} {k : Option Nat} (h : Base H x c k) : Src H x c := by
  cases h with
  | nilI k => exact .nilI k
  | nilM => exact .nilM
  | ex k xs => exact .bs true k xs
  | sg id off len c0 c' hb hl he => exact .sg id off len _ c0 _ hb (.inl rfl) (by omega) he

def killL : Option Nat → List (Nat × Bk)
  | some id => [(id, .dead)]
  | none => []

theorem growBy_le (n : Nat) : ∀ (r c : Nat), c ≤ 2 * n + 192 → Builtin.growBy n r c ≤ 2 * n + 192
  | 0, c, h => h
  | r + 1, c, h => by
    simp only [Builtin.growBy]
    split
    · exact h
    · exact growBy_le n r _ (by omega)
theorem nextslicecap_le {n c : Nat} (h : c < n) : Builtin.nextslicecap n c ≤ 2 * n + 192 := by
  unfold Builtin.nextslicecap
  split
  · omega
  · split
    · omega
    · exact growBy_le n 4 c (by omega)

/-- A slice of nothing may be taken for one of the call's own. -/
theorem StRel.adopt {cx : Cx} {F : Nat → Option AV} {H : Nat → Option Bk} {a : Act} {w : World} {ρ : Nat → Loc} {A : Nat → Prop} (hs : StRel cx F H a w ρ A) {d : Nat} (hn : Nom cx d F H) {c : Cs} (hc : c.len = 0) :
    StRel cx F (upd H d (.own c)) a w (upd' ρ d ⟨0, 0, 0, false⟩) A := by
  have hρ : ∀ i, i ≠ d → upd' ρ d ⟨0, 0, 0, false⟩ i = ρ i := fun i hi => by simp [upd', hi]
  refine ⟨hs.df, hs.sz, fun t v hv => (hs.fr t v hv).mono (fun i hi => hρ i (fun e => hn.f t v hv (e ▸ hi))) (fun _ _ _ => rfl) (Nat.le_refl _) (fun _ _ h => h), ?_, ?_, hs.A1, hs.O, hs.fm, ?_⟩
  · intro i b' hb'
    simp only [upd] at hb'
    split at hb'
    · rename_i he
      subst he
      cases hb'
      simp only [upd', if_true]
      exact ⟨by simp [hc], .inl rfl⟩
    · rename_i h1
      rw [hρ i h1]
      exact (hs.hp i b' hb').mono (fun k hk => hρ k (fun e => hn.g i b' hb' (e ▸ hk))) (fun _ _ _ => rfl) (Nat.le_refl _) (fun _ _ h => h) (fun _ _ _ => rfl) (fun hl' ho' hz' => hs.liveA hb' hl' ho' hz')
  · intro i j bi bj hbi hbj li lj hne oi oj zi zj
    by_cases h1 : i = d
    · subst h1; simp [upd'] at oi
    by_cases h2 : j = d
    · subst h2; simp [upd'] at oj
    rw [hρ i h1] at oi zi ⊢
    rw [hρ j h2] at oj zj ⊢
    simp only [upd, if_neg h1, if_neg h2] at hbi hbj
    exact hs.sep i j bi bj hbi hbj li lj hne oi oj zi zj
  · intro i hi
    have : i ≠ d := fun e => hn.e (e ▸ hi)
    rw [hρ i this]; exact hs.E i hi

theorem Nom.kill {cx : Cx} {F : Nat → Option AV} {H : Nat → Option Bk} {d id : Nat} (hn : Nom cx d F H) (h : d ≠ id) : Nom cx d F (upd H id .dead) :=
  ⟨hn.e, by simp only [upd]; rw [if_neg h]; exact hn.h, hn.f, fun i b hb => by
    simp only [upd] at hb
    split at hb
    · cases hb; simp [Bk.ids]
    · exact hn.g i b hb⟩

section
variable {cx : Cx} {ops : Array Oper} {o : Oper} {F : Nat → Option AV} {H : Nat → Option Bk}

theorem run_append {P : Program} {w : World} {T T' E E' n by' n' b' bz : Nat} {dE : TypeDesc} {z z' : Cs} {zz : Cs} (hT : TyI P T (.slice E) n by' z) (hE : TyI P E dE 1 bz zz) (hT' : TyI P T' (.slice E') n' b' z') (hbz : bz ≠ 0) {ty : TypeId} {ad ad2 : Option Addr} {l1 cap l2 cap2 : Nat} {old new : Array Value}
    (h1 : ∀ k, (Builtin.firstCells 1 l1 (.slice ad l1 cap)).run P { w with drawn := k } = .ok old { w with drawn := k }) (h2 : ∀ k, (Builtin.firstCells 1 l2 (.slice ad2 l2 cap2)).run P { w with drawn := k } = .ok new { w with drawn := k }) :
    (l1 + l2 ≤ cap → (Builtin.append_ #[T, T'] ty #[.slice ad l1 cap, .slice ad2 l2 cap2]).run P w = ((match ad with | some a => storeCells (a.add l1) new.toList | none => pure ()).run P w).andThen fun _ w' => .ok (.slice ad (l1 + l2) cap) w') ∧
    (cap < l1 + l2 → (2 * (l1 + l2) + 192) * bz ≤ 281474976710656 → ∃ N rest, l1 + l2 ≤ N ∧ rest.size = (N - (l1 + l2)) * zz.len ∧ (Builtin.append_ #[T, T'] ty #[.slice ad l1 cap, .slice ad2 l2 cap2]).run P w =
      .ok (.slice (some ⟨w.heap.size, 0, none⟩) (l1 + l2) N) { w with heap := w.heap.push (.cells (old ++ new ++ rest) E), drawn := w.drawn + 1 }) := by
  obtain ⟨i, hi, hib, his⟩ := hE.run_bytes w
  obtain ⟨zv, hzv, hzvz⟩ := hE.run_zero w
  have e1 : (#[T, T'] : Array TypeId)[0]? = some T := rfl
  have e2 : (#[T, T'] : Array TypeId)[1]? = some T' := rfl
  have e3 : (#[Value.slice ad l1 cap, Value.slice ad2 l2 cap2] : Array Value)[0]? = some (.slice ad l1 cap) := rfl
  have e4 : (#[Value.slice ad l1 cap, Value.slice ad2 l2 cap2] : Array Value)[1]? = some (.slice ad2 l2 cap2) := rfl
  refine ⟨fun hle => ?_, fun hlt hroom => ?_⟩
  · unfold Builtin.append_
    simp only [e1, e2, e3, e4, Sem.run_bind, hT.run_und w, hT'.run_und w, hE.run_size w, Result.andThen_ok, Sem.run_pure, Builtin.lenOf, Bool.false_eq_true, if_false]
    rw [if_pos hle]
    have h2' := h2 w.drawn
    simp only [Bool.not_false, if_true, Sem.run_bind, h2', Result.andThen_ok, Nat.mul_one]
    cases ad with
    | none => rfl
    | some a => simp only [Sem.run_bind]; rfl
  · have hns := nextslicecap_le hlt
    have hmul : Builtin.nextslicecap (l1 + l2) cap * bz ≤ (2 * (l1 + l2) + 192) * bz := Nat.mul_le_mul_right _ hns
    have hn1 : ¬ (Builtin.nextslicecap (l1 + l2) cap * bz > 2 ^ 48) := by omega
    have hi' : ∀ k, (typeInfo E).run P { w with drawn := k } = .ok i { w with drawn := k } := fun k => by
      obtain ⟨i', v', hi2, _⟩ := hE.info
      have : i' = i := by simp [typeInfo, hi2] at hi; exact hi
      simp [typeInfo, hi2, this]
    have hz' : ∀ k, (zeroValue E).run P { w with drawn := k } = .ok zv { w with drawn := k } := fun k => by
      obtain ⟨i', v', hi2, _, _, hz2, _⟩ := hE.info
      have : v' = zv := by simp [zeroValue, typeInfo, hi2, hz2] at hzv; exact hzv
      simp [zeroValue, typeInfo, hi2, hz2, this]
    refine ⟨(Question.appendCap (l1 + l2) cap E).cut (w.tape w.drawn (Question.appendCap (l1 + l2) cap E)), Builtin.zeroCells zv.cells ((Question.appendCap (l1 + l2) cap E).cut (w.tape w.drawn (Question.appendCap (l1 + l2) cap E)) - (l1 + l2)), Nat.le_add_right _ _, ?_, ?_⟩
    · have : zv.cells.size = zz.len := by
        have h0 : zv.cells.toList.length = zz.vals.length := by rw [hzvz]
        rw [Array.length_toList] at h0
        rw [h0]; cases zz <;> simp [Cs.vals, Cs.len]
      simp [Builtin.zeroCells, this]
    · unfold Builtin.append_
      simp only [e1, e2, e3, e4, Sem.run_bind, hT.run_und w, hT'.run_und w, hE.run_size w, Result.andThen_ok, Sem.run_pure, Builtin.lenOf, Bool.false_eq_true, if_false]
      rw [if_neg (by omega)]
      have hi0 := hi' w.drawn
      simp only [Sem.run_bind, hi0, Result.andThen_ok, hib, hbz, or_self, and_false, if_false, hn1, Sem.run_pure, run_choose, Question.forced, Bool.false_eq_true]
      simp only [hi', Result.andThen_ok, Sem.run_pure, Sem.run_bind, run_askRoom, h1, h2, Bool.not_false, if_true, hz', newRow, run_newObj]

theorem killL_ovr (k : Option Nat) (H : Nat → Option Bk) : ovr (killL k) H = match k with | some id => upd H id .dead | none => H := by
  cases k with
  | none => rfl
  | some id => simp only [killL]; rw [ovr_cons, ovr_nil]

theorem Base.mono {H H' : Nat → Option Bk} (hH : ∀ i b, H i = some b → H' i = some b) {x : AV} {c : Cs} {k : Option Nat} (h : Base H x c k) : Base H' x c k := by
  cases h with
  | nilI k => exact .nilI k
  | nilM => exact .nilM
  | ex k xs => exact .ex k xs
  | sg id off len c0 c' hb hl he => exact .sg id off len c0 _ (hH _ _ hb) hl he
theorem Src.mono {H H' : Nat → Option Bk} (hH : ∀ i b, H i = some b → H' i = some b) {x : AV} {c : Cs} (h : Src H x c) : Src H' x c := by
  cases h with
  | nilI k => exact .nilI k
  | nilM => exact .nilM
  | bs ex k xs => exact .bs ex k xs
  | bss ex xss => exact .bss ex xss
  | sg id off len b c0 c' hb hbc hl he => exact .sg id off len b c0 _ (hH _ _ hb) hbc hl he

/-- APPEND. -/
theorem Y.app {d T T' E E' n by' n' b' bz : Nat} {dE : TypeDesc} {z z' zz c1 c2 c : Cs} {x y : Operand} {v1 v2 : AV} {kill : Option Nat} {ats : Array TypeId} (hT : TyI cx.P T (.slice E) n by' z) (hE : TyI cx.P E dE 1 bz zz) (hz1 : zz.len = 1) (hT' : TyI cx.P T' (.slice E') n' b' z') (hbz : bz ≠ 0)
    (hu : Up cx ops F o) (ho : o.op = .call { callee := .builtin .append, args := #[x, y], argTypes := ats }) (hat : ats = #[T, T']) (hx : evF F x = some v1) (hb : Base H v1 c1 kill) (hy : evF F y = some v2) (hs : Src H v2 c2) (ha : App c1 c2 c)
    (hroom : (2 * (c1.len + c2.len) + 192) * bz ≤ 281474976710656) (hcell : (AV.row c2).cells? = true) (hex : (∃ ex k xs, v1 = .one (.bs ex k xs)) → c2.len ≠ 0) : Doing cx ops o F H ⟨.one (.sg d 0 c.len), (d, .own c) :: killL kill, [d]⟩ := by
  intro F' H' hF hH hN ρ A a w hst K Q hK
  have hn := hN d (by simp)
  unfold StepOp
  rw [if_pos (hu.wanted (hst.sub hF hH))]
  have hxr := ev_rel hst (evF_mono hF hx)
  have hyr := ev_rel hst (evF_mono hF hy)
  have hb' := hb.mono hH
  have hs' := hs.mono hH
  obtain ⟨ad, cap, e1, hcap, hr1⟩ := hb'.src.read hst hxr
  obtain ⟨ad2, cap2, e2, hcap2, hr2⟩ := hs'.read hst hyr
  obtain ⟨old, o1, o2, o3⟩ := run_firstCells (P := cx.P) (cap := cap) hr1
  obtain ⟨new, n1, n2, n3⟩ := run_firstCells (P := cx.P) (cap := cap2) hr2
  obtain ⟨inPlace, grows⟩ := run_append (P := cx.P) (ty := o.type) hT hE hT' hbz o1 n1
  have hexec : (execOp a.eval o).run cx.P w = ((Builtin.append_ #[T, T'] o.type #[.slice ad c1.len cap, .slice ad2 c2.len cap2]).run cx.P w).andThen fun v w' => .ok (.value v) w' := by
    simp [execOp, ho, hat, resolve, invoke, builtin, e1, e2]
  have hid : d ∉ c.ids := ha.nom (hb'.src.nom hn) (hs'.nom hn)
  rcases Nat.lt_or_ge cap (c1.len + c2.len) with hlt | hge
  · -- it grows
    obtain ⟨N, rest, g1, g2, g3⟩ := grows hlt hroom
    unfold Oper.wp
    rw [hexec, g3]
    have hst' : StRel cx F' (ovr (killL kill) H') a w ρ A := by
      rw [killL_ovr]
      cases kill with
      | none => exact hst
      | some id => exact hst.kill id
    have hn' : Nom cx d F' (ovr (killL kill) H') := by
      rw [killL_ovr]
      cases kill with
      | none => exact hn
      | some id =>
        refine hn.kill ?_
        cases hb' with
        | sg _ off len c0 c' hbb hl he => rintro rfl; rw [hn.h] at hbb; cases hbb
    have hsize : (old ++ new ++ rest).size = c1.len + c2.len + rest.size := by simp [o2, n2]; omega
    have hcs : ∀ j, j < c.len → ∃ u, (old ++ new ++ rest)[j]? = some u ∧ (c.at j).Rel ρ A w u := by
      intro j hj
      rw [ha.len] at hj
      by_cases hj1 : j < c1.len
      · obtain ⟨u, hu', hr⟩ := o3 j hj1
        exact ⟨u, by rw [Array.append_assoc, Array.getElem?_append_left (by omega)]; exact hu', by rw [ha.l j hj1]; exact hr⟩
      · obtain ⟨u, hu', hr⟩ := n3 (j - c1.len) (by omega)
        refine ⟨u, ?_, ?_⟩
        · rw [Array.append_assoc, Array.getElem?_append_right (by omega), o2, Array.getElem?_append_left (by omega)]; exact hu'
        · have := ha.r (j - c1.len) (by omega)
          rw [show c1.len + (j - c1.len) = j by omega] at this
          rw [this]; exact hr
    refine hK _ _ (upd' ρ d ⟨w.heap.size, 0, (old ++ new ++ rest).size, true⟩) (fun b => A b ∨ b = w.heap.size) ?_
    rw [ovr_cons]
    have hzz : rest.size = (N - (c1.len + c2.len)) * zz.len := g2
    refine (hst'.alloc (w' := { w with heap := w.heap.push (.cells (old ++ new ++ rest) E), drawn := w.drawn + 1 }) hn' (cs := old ++ new ++ rest) (T := E) (fz := (0, 0)) ⟨rfl, rfl, rfl, rfl⟩ (unfrozen0 _) (c := c) (by rw [ha.len, hsize]; omega) hcs hid (.inl rfl)).put hu.d ?_
    refine ⟨_, N, by rw [ha.len], by rw [ha.len]; exact g1, .inr ⟨by simp [upd'], ?_⟩⟩
    simp only [upd', if_true, Nat.zero_add]
    rw [hsize, hzz, hz1]
    omega
  · -- there is room
    have hip := inPlace hge
    have hset : (a.put o.dst (.slice ad (c1.len + c2.len) cap)) = (a.put o.dst (.slice ad c.len cap)) := by rw [ha.len]
    -- nothing is written
    have still : c2.len = 0 → (execOp a.eval o).run cx.P w = .ok (.value (.slice ad c.len cap)) w := by
      intro h0
      have : new = #[] := Array.eq_empty_of_size_eq_zero (by omega)
      subst this
      rw [hexec, hip, ha.len]
      cases ad <;> rfl
    -- nothing
    have alone : c2.len = 0 → kill = none → c1.len = 0 → cap = 0 → o.wp cx.P a w K Q := by
      intro h0 hk h1 hc
      unfold Oper.wp
      rw [still h0]
      refine hK _ w (upd' ρ d ⟨0, 0, 0, false⟩) A ?_
      rw [ovr_cons, killL_ovr, hk]
      have hcl : c.len = 0 := by rw [ha.len]; omega
      exact (hst.adopt hn hcl).put hu.d ⟨ad, cap, rfl, by omega, .inl hc⟩
    cases hb' with
    | nilI k =>
      obtain ⟨ad', e3⟩ := hxr
      rw [e1] at e3
      simp only [Value.slice.injEq] at e3
      exact alone (by omega) rfl e3.2.1 e3.2.2
    | nilM =>
      obtain ⟨ad', e3⟩ := hxr
      rw [e1] at e3
      simp only [Value.slice.injEq] at e3
      exact alone (by omega) rfl e3.2.1 e3.2.2
    | ex k xs =>
      obtain ⟨ad', cap', e3, h4, h5, h6⟩ := hxr
      rw [e1] at e3
      simp only [Value.slice.injEq] at e3
      obtain ⟨rfl, e4, rfl⟩ := e3
      have hc := h5 rfl
      have hxl : (Cs.ints k xs).len = xs.length := rfl
      exact absurd (show c2.len = 0 by omega) (hex ⟨_, _, _, rfl⟩)
    | sg id off len c0 c1 hbb hl he =>
      subst he
      obtain ⟨ad', cap', e3, h4, h5⟩ := hxr
      rw [e1] at e3
      simp only [Value.slice.injEq] at e3
      obtain ⟨rfl, e4, rfl⟩ := e3
      have hdid : d ≠ id := by rintro rfl; rw [hn.h] at hbb; cases hbb
      have hlen1 : (c0.sub off len).len = len := Cs.sub_len (by omega)
      have upd2 : ∀ (H : Nat → Option Bk) (x y : Bk), upd (upd H id x) id y = upd H id y := by
        intro H x y; funext i; simp only [upd]; split <;> rfl
      have nomg : ∀ {x : Bk}, d ∉ x.ids → Nom cx d F' (upd H' id x) := by
        intro x hx
        refine ⟨hn.e, by simp only [upd]; rw [if_neg hdid]; exact hn.h, hn.f, fun i b' hb' => ?_⟩
        simp only [upd] at hb'
        split at hb'
        · cases hb'; exact hx
        · exact hn.g i b' hb'
      have hc0id : d ∉ c0.ids := hn.g id _ hbb
      by_cases h0 : c2.len = 0
      · unfold Oper.wp
        rw [still h0]
        refine hK _ w (upd' ρ d ⟨(ρ id).blk, (ρ id).off + off, (ρ id).size - off, (ρ id).own⟩) A ?_
        rw [ovr_cons, killL_ovr]
        have hmv := hst.move (id := id) (d := d) (off := off) (c := c0) (c' := c) hbb hn (by omega) (by rw [ha.len, hlen1]; omega) (fun j hj => by
          rw [ha.len, hlen1] at hj
          rw [ha.l j (by omega), Cs.sub_at (by omega)])
        refine hmv.put hu.d ⟨ad, cap, rfl, by rw [ha.len]; omega, h5.imp _root_.id fun ⟨q1, q2⟩ => ⟨by simp [upd', q1], ?_⟩⟩
        simp only [upd', if_true]; omega
      · -- it is written behind
        have hcap0 : cap ≠ 0 := by omega
        obtain ⟨had, hsz⟩ := h5.resolve_left hcap0
        have hz : (ρ id).size ≠ 0 := by omega
        have hownB : OwnB cx ρ A w (ρ id) c0 := hst.hp id _ hbb
        obtain ⟨r1, r2, cs, T0, fz, r3, r4, r5, r6⟩ := OwnB.real hownB hz
        obtain ⟨cs', k1, k2, k3⟩ := run_storeCells_fz (P := cx.P) (o := (ρ id).off + off + len) new.toList 0 cs w r3 r5 (by simp; omega) (by
          intro u hu'
          obtain ⟨j, hj, rfl⟩ := List.getElem_of_mem hu'
          simp only [Array.length_toList] at hj
          obtain ⟨u, hu2, h3⟩ := n3 j (by omega)
          simp only [Array.getElem?_eq_getElem hj, Option.some.injEq] at hu2
          simp only [Array.getElem_toList, hu2]
          exact (SV.rel_one (Cs.at_cell hcell (by omega)) h3).1)
        have hrun : (execOp a.eval o).run cx.P w = .ok (.value (.slice ad c.len cap)) { w with heap := w.heap.setIfInBounds (ρ id).blk (.cells cs' T0 fz) } := by
          rw [hexec, hip, had, hlen1]
          simp only [addr_add, k1, Result.andThen_ok, ha.len, hlen1]
        unfold Oper.wp
        rw [hrun]
        refine hK _ _ (upd' ρ d ⟨(ρ id).blk, (ρ id).off + off, (ρ id).size - off, (ρ id).own⟩) A ?_
        rw [ovr_cons, killL_ovr]
        have htl := App.toL c0 c2
        have hwr := hst.write (bk := .own (.mix (c0.toL ++ c2.toL))) hbb trivial r1 hz r3 k2 rfl (c' := .mix (c0.toL ++ c2.toL)) (by rw [htl.len]; omega) (fun j hj => by
          rw [htl.len] at hj
          rw [k3]
          simp only [Nat.add_zero, Array.length_toList, n2]
          by_cases hj1 : j < c0.len
          · rw [if_neg (by omega), htl.l j hj1]
            exact r6 j hj1
          · rw [if_pos ⟨by omega, by omega⟩]
            obtain ⟨u, hu', hr⟩ := n3 (j - c0.len) (by omega)
            have e := htl.r (j - c0.len) (by omega)
            rw [show c0.len + (j - c0.len) = j by omega] at e
            refine ⟨u, ?_, by rw [e]; exact hr⟩
            rw [Array.getElem?_toList, show (ρ id).off + j - ((ρ id).off + off + len) = j - c0.len by omega]; exact hu') (.inl rfl)
        have hmv := hwr.move (id := id) (d := d) (off := off) (c := .mix (c0.toL ++ c2.toL)) (c' := c) (by simp [upd]) (nomg (htl.nom (fun j hj hm => hc0id (Cs.ids_at hj hm)) (hs'.nom hn))) (by rw [htl.len]; omega) (by rw [htl.len, ha.len, hlen1]; omega) (fun j hj => by
          rw [ha.len, hlen1] at hj
          by_cases hj1 : j < len
          · rw [ha.l j (by omega), Cs.sub_at (by omega), htl.l _ (by omega)]
          · have e := ha.r (j - len) (by omega)
            rw [hlen1, show len + (j - len) = j by omega] at e
            have e' := htl.r (j - len) (by omega)
            rw [show c0.len + (j - len) = off + j by omega] at e'
            rw [e, e'])
        rw [upd2] at hmv
        refine hmv.put hu.d ⟨ad, cap, rfl, by rw [ha.len]; omega, .inr ⟨by simp [upd', had], ?_⟩⟩
        simp only [upd', if_true]; omega


/-- COPY into a slice of the call's own. -/
theorem Y.cpy {T T' E n by' bz id off len : Nat} {dE : TypeDesc} {z zz c c2 c' : Cs} {x y : Operand} {v2 : AV} {ats : Array TypeId} (hT : TyI cx.P T (.slice E) n by' z) (hE : TyI cx.P E dE 1 bz zz)
    (hu : Up cx ops F o) (ho : o.op = .call { callee := .builtin .copy, args := #[x, y], argTypes := ats }) (hat : ats = #[T, T']) (hx : evF F x = some (.one (.sg id off len))) (hb : H id = some (.own c)) (_hl : off + len ≤ c.len) (hy : evF F y = some v2) (hs : Src H v2 c2)
    (hle : c2.len ≤ len) (hsp : Spl c off (.row c2) c') (hcell : (AV.row c2).cells? = true) : Doing cx ops o F H ⟨.one (.n .i64 c2.len), [(id, .own c')], []⟩ := by
  intro F' H' hF hH _ ρ A a w hst K Q hK
  unfold StepOp
  rw [if_pos (hu.wanted (hst.sub hF hH))]
  obtain ⟨ad, cap, e1, hcap, h5⟩ := ev_rel hst (evF_mono hF hx)
  have hs' := hs.mono hH
  obtain ⟨ad2, cap2, e2, hcap2, hr2⟩ := hs'.read hst (ev_rel hst (evF_mono hF hy))
  obtain ⟨new, n1, n2, n3⟩ := run_firstCells (P := cx.P) (cap := cap2) hr2
  have n1' := n1 w.drawn
  have hmin : Nat.min c2.len len = c2.len := Nat.min_eq_left hle
  have hexec : (execOp a.eval o).run cx.P w = ((match ad with | some q => storeCells q new.toList | none => pure ()).run cx.P w).andThen fun _ w' => .ok (.value (.int .i64 c2.len)) w' := by
    have ea : (#[T, T'] : Array TypeId)[0]? = some T := rfl
    have eb : (#[Value.slice ad len cap, Value.slice ad2 c2.len cap2] : Array Value)[0]? = some (.slice ad len cap) := rfl
    have ec : (#[Value.slice ad len cap, Value.slice ad2 c2.len cap2] : Array Value)[1]? = some (.slice ad2 c2.len cap2) := rfl
    have : (Builtin.copy_ #[T, T'] o.type #[.slice ad len cap, .slice ad2 c2.len cap2]).run cx.P w = ((match ad with | some q => storeCells q new.toList | none => pure ()).run cx.P w).andThen fun _ w' => .ok (.int .i64 c2.len) w' := by
      unfold Builtin.copy_
      simp only [ea, eb, ec, Sem.run_bind, hT.run_und w, hE.run_size w, Result.andThen_ok, Sem.run_pure, Builtin.lenOf, hmin]
      erw [n1']
      simp only [Result.andThen_ok]
      cases ad with
      | none => rfl
      | some q => simp only [Sem.run_bind]; rfl
    have hr : (execOp a.eval o).run cx.P w = ((Builtin.copy_ #[T, T'] o.type #[.slice ad len cap, .slice ad2 c2.len cap2]).run cx.P w).andThen fun v w' => .ok (.value v) w' := by
      simp [execOp, ho, hat, resolve, invoke, builtin, e1, e2]
    rw [hr, this]
    cases (match ad with | some q => storeCells q new.toList | none => pure ()).run cx.P w <;> rfl
  have hfit := hsp.fit
  simp only [AV.clen] at hfit
  by_cases h0 : c2.len = 0
  · have : new = #[] := Array.eq_empty_of_size_eq_zero (by omega)
    subst this
    unfold Oper.wp
    have hr : (execOp a.eval o).run cx.P w = .ok (.value (.int .i64 c2.len)) w := by
      rw [hexec]; cases ad <;> rfl
    rw [hr]
    refine hK _ w ρ A ?_
    rw [ovr_cons, ovr_nil]
    have hsame : ∀ j, j < c.len → c'.at j = c.at j := fun j hj => by
      rw [hsp.at' j hj, if_neg (by simp only [AV.clen]; omega)]
    have hst2 : StRel cx F' (upd H' id (.own c')) a w ρ A := by
      have hbb := hH _ _ hb
      refine ⟨hst.df, hst.sz, hst.fr, ?_, ?_, hst.A1, hst.O, hst.fm, hst.E⟩
      · intro i b' hb'
        simp only [upd] at hb'
        split at hb'
        · rename_i he; subst he; cases hb'
          obtain ⟨q1, q2⟩ := hst.hp _ _ hbb
          refine ⟨by rw [hsp.len]; exact q1, q2.imp _root_.id ?_⟩
          rintro ⟨g1, g2, g3, g4, cs, T0, fz, g5, g6, g7, g8⟩
          refine ⟨g1, g2, g3, g4, cs, T0, fz, g5, g6, g7, fun j hj => ?_⟩
          rw [hsp.len] at hj
          rw [hsame j hj]; exact g8 j hj
        · exact hst.hp i b' hb'
      · intro i j bi bj hbi hbj li lj
        have f : ∀ i b', upd H' id (.own c') i = some b' → ∃ b'', H' i = some b'' ∧ (b'.live → b''.live) := by
          intro i b' hb'
          simp only [upd] at hb'
          split at hb'
          · rename_i he; subst he; exact ⟨_, hbb, fun _ => trivial⟩
          · exact ⟨b', hb', fun h => h⟩
        obtain ⟨bi', hbi', fi⟩ := f i bi hbi
        obtain ⟨bj', hbj', fj⟩ := f j bj hbj
        exact hst.sep i j bi' bj' hbi' hbj' (fi li) (fj lj)
    exact hst2.put hu.d ⟨rfl, fits.i64⟩
  · obtain ⟨had, hsz⟩ := h5.resolve_left (by omega)
    obtain ⟨r1, r2, cs, T0, fz, r3, r4, r5, r6⟩ := OwnB.real (hst.hp id _ (hH _ _ hb)) (by omega)
    obtain ⟨cs', k1, k2, k3⟩ := run_storeCells_fz (P := cx.P) (o := (ρ id).off + off) new.toList 0 cs w r3 r5 (by simp; omega) (by
      intro u hu'
      obtain ⟨j, hj, rfl⟩ := List.getElem_of_mem hu'
      simp only [Array.length_toList] at hj
      obtain ⟨u, hu2, h3⟩ := n3 j (by omega)
      simp only [Array.getElem?_eq_getElem hj, Option.some.injEq] at hu2
      simp only [Array.getElem_toList, hu2]
      exact (SV.rel_one (Cs.at_cell hcell (by omega)) h3).1)
    have hrun : (execOp a.eval o).run cx.P w = .ok (.value (.int .i64 c2.len)) { w with heap := w.heap.setIfInBounds (ρ id).blk (.cells cs' T0 fz) } := by
      rw [hexec, had]
      simp only [k1, Result.andThen_ok]
    unfold Oper.wp
    rw [hrun]
    refine hK _ _ ρ A ?_
    rw [ovr_cons, ovr_nil]
    refine (hst.write (hH _ _ hb) trivial r1 (by omega) r3 k2 rfl (c' := c') (by rw [hsp.len]; omega) (fun j hj => ?_) (.inl rfl)).put hu.d ⟨rfl, fits.i64⟩
    rw [hsp.len] at hj
    rw [hsp.at' j hj, k3]
    simp only [Nat.add_zero, Array.length_toList, n2]
    by_cases hj2 : off ≤ j ∧ j < off + c2.len
    · rw [if_pos (show off ≤ j ∧ j < off + (AV.row c2).clen from hj2), if_pos ⟨by omega, by omega⟩]
      obtain ⟨u, hu', hr⟩ := n3 (j - off) (by omega)
      refine ⟨u, ?_, hr⟩
      rw [Array.getElem?_toList, show (ρ id).off + j - ((ρ id).off + off) = j - off by omega]; exact hu'
    · rw [if_neg (show ¬ (off ≤ j ∧ j < off + (AV.row c2).clen) from hj2), if_neg (by omega)]
      exact r6 j hj

/-! ### Closures -/
inductive Caps (F : Nat → Option AV) : List Operand → List Nat → Prop
  | nil : Caps F [] []
  | cons (x : Operand) (xs : List Operand) (id : Nat) (ids : List Nat) : evF F x = some (.one (.p id 0)) → Caps F xs ids → Caps F (x :: xs) (id :: ids)
theorem Y.mkF {f : Nat} {caps : List Operand} {ids : List Nat} (hu : Up cx ops F o) (ho : o.op = .makeFunc (.func f) #[] caps.toArray) (hc : Caps F caps ids) : Doing cx ops o F H ⟨.one (.fn f ids), [], []⟩ :=
  Doing.val hu fun ρ A a w hs => by
    refine ⟨_, by simp only [execOp, ho]; rfl, ?_⟩
    simp only [AV.Rel, SV.Rel, List.map_toArray]
    have : caps.map a.eval = ids.map fun id => Value.pointer (some ⟨(ρ id).blk, (ρ id).off, none⟩) := by
      clear ho
      induction hc with
      | nil => rfl
      | cons x xs id ids hx _ ih =>
        have h := ev_rel hs hx
        simp only [AV.Rel, SV.Rel, Nat.add_zero] at h
        rw [List.map_cons, List.map_cons, ih, h]
    rw [this]
    rfl

/-! ### Calls -/
inductive EvL (F : Nat → Option AV) : List Operand → List AV → Prop
  | nil : EvL F [] []
  | cons (x : Operand) (xs : List Operand) (v : AV) (vs : List AV) : evF F x = some v → EvL F xs vs → EvL F (x :: xs) (v :: vs)
inductive ViewL (H : Nat → Option Bk) : List AV → List AV → Prop
  | nil : ViewL H [] []
  | cons (x y : AV) (xs ys : List AV) : View H x y → ViewL H xs ys → ViewL H (x :: xs) (y :: ys)

/-- A function of the program, with a body. -/
def FnOK (P : Program) (f : Nat) : Prop := ∃ fn, P.funcs[f]? = some fn ∧ (fn.name == "runtime.NumGoroutine") = false ∧ fn.body.isNone = false
theorem run_callFunc {P : Program} {f : Nat} (h : FnOK P f) (args : Array Value) (w : World) : (callFunc f args).run P w = .ok (.enter f args) w := by
  obtain ⟨fn, h1, h2, h3⟩ := h
  unfold callFunc
  simp only [Sem.run_bind, run_program, Result.andThen_ok, h1, h2, h3, Bool.false_eq_true, if_false, Sem.run_pure]

theorem run_call {P : Program} {f : Nat} (hf : FnOK P f) {a : Act} {w : World} {x : Operand} {xs : List Operand} {ats : Array TypeId} {caps : Array Value} (ho : o.op = .call { callee := .value x, args := xs.toArray, argTypes := ats }) (hx : a.eval x = .func (.func f) #[] caps) :
    (execOp a.eval o).run P w = .ok (.enter f ((xs.map a.eval).toArray ++ caps)) w := by
  simp only [execOp, ho, resolve, hx, Deferred.ofValue, List.map_toArray, Sem.run_bind, Sem.run_pure, Result.andThen_ok, invoke]
  rw [show (#[] ++ (xs.map a.eval).toArray : Array Value) = (xs.map a.eval).toArray by simp]
  exact run_callFunc hf _ _

theorem relL_view {a : Act} {w : World} {ρ : Nat → Loc} {A A' : Nat → Prop} (hs : StRel cx F H a w ρ A) (hA : ∀ b, A' b → A b) (hown : ∀ id b, H id = some b → b.live → (ρ id).own = true → (ρ id).size ≠ 0 → ¬ A' (ρ id).blk)
    {xs : List Operand} {vs us : List AV} (he : EvL F xs vs) : ViewL H vs us → (∀ u ∈ us, u.ids = []) → RelL ρz A' w us (xs.map a.eval) := by
  induction he generalizing us with
  | nil => intro h _; cases h; trivial
  | cons x xs v vs hx _ ih =>
    intro h hid
    cases h with
    | cons _ u _ us hv hr =>
      refine ⟨?_, ih hr fun u hu => hid u (by simp [hu])⟩
      exact (View.rel hs hA hown hv (ev_rel hs hx)).mono (fun i hi => by rw [hid u (by simp)] at hi; cases hi) (fun _ _ _ => rfl) (Nat.le_refl _) (fun _ _ h => h)

/-- A CALL by a contract between values, whose answer bears no slice. -/
theorem Y.callV {f : Nat} {x : Operand} {xs : List Operand} {ats : Array TypeId} {vs us : List AV} {res : AV} (hc : VC cx.P f us res) (hf : FnOK cx.P f) (hu : Up cx ops F o) (ho : o.op = .call { callee := .value x, args := xs.toArray, argTypes := ats }) (hx : evF F x = some (.one (.fn f [])))
    (he : EvL F xs vs) (hv : ViewL H vs us) (hid : us.all (fun u => u.ids.isEmpty) = true) (hp : res.pure = true) : Doing cx ops o F H ⟨res, [], []⟩ := by
  intro F' H' hF hH _ ρ A a w hst K Q hK
  have hst0 := hst.sub hF hH
  unfold StepOp
  rw [if_pos (hu.wanted hst0)]
  have hxr := ev_rel hst0 hx
  simp only [AV.Rel, SV.Rel, List.map_nil] at hxr
  have hrl := relL_view hst0 (A' := fun _ => False) (fun _ h => h.elim) (fun _ _ _ _ _ _ h => h) he hv (fun u hu => by simpa using List.all_eq_true.1 hid u hu)
  unfold Oper.wp
  rw [run_call hf ho hxr]
  simp only [Oper.upon, Array.append_empty]
  refine (hc (fun _ => False) w _ (fun _ h => h.elim) hrl).mono ?_
  rintro e w' ⟨r, rfl, hr, hb⟩
  exact hK r w' ρ A ((hst.below hb).put hu.d (AV.pure_rel hp hr))

/-- ... whose answer may: then what goes in is not the call's own any more. -/
theorem Y.callW {f : Nat} {x : Operand} {xs : List Operand} {ats : Array TypeId} {us : List AV} {res : AV} (hc : VC cx.P f us res) (hf : FnOK cx.P f) (hu : Up cx ops F o) (ho : o.op = .call { callee := .value x, args := xs.toArray, argTypes := ats }) (hx : evF F x = some (.one (.fn f [])))
    {vs : List AV} (he : EvL F xs vs) (hv : ViewL (fun _ => none) vs us) (hid : us.all (fun u => u.ids.isEmpty) = true) (hp : res.ids = []) : Doing cx ops o F H ⟨res, [], []⟩ := by
  intro F' H' hF hH _ ρ A a w hst K Q hK
  have hst0 := hst.sub hF hH
  unfold StepOp
  rw [if_pos (hu.wanted hst0)]
  have hxr := ev_rel hst0 hx
  simp only [AV.Rel, SV.Rel, List.map_nil] at hxr
  have hst1 : StRel cx F (fun _ => none) a w ρ A := hst0.sub (fun _ _ h => h) (fun i b h => by cases h)
  have hrl := relL_view hst1 (A' := A) (fun _ h => h) (fun _ _ h => by cases h) he hv (fun u hu => by simpa using List.all_eq_true.1 hid u hu)
  unfold Oper.wp
  rw [run_call hf ho hxr]
  simp only [Oper.upon, Array.append_empty]
  refine (hc A w _ hst.A1 hrl).mono ?_
  rintro e w' ⟨r, rfl, hr, hb⟩
  exact hK r w' ρ A ((hst.below hb).put hu.d (hr.mono (fun i hi => by rw [hp] at hi; cases hi) (fun _ _ _ => rfl) (Nat.le_refl _) (fun _ _ h => h)))

end
end Go.Fx

/- FxQ: calls that write into their caller's blocks, and calls that hand back a slice of their own. -/
namespace Go.Fx
open Go.RowKit (Below)

section
variable {cx : Cx} {ops : Array Oper} {o : Oper} {F : Nat → Option AV} {H : Nat → Option Bk}

def ptrs (ids : List Nat) : List AV := ids.map fun id => .one (.p id 0)

theorem relL_ev {a : Act} {w : World} {ρ : Nat → Loc} {A A' : Nat → Prop} (hs : StRel cx F H a w ρ A) (hA : ∀ b, A' b → A b) {xs : List Operand} {vs : List AV} (he : EvL F xs vs) : RelL ρ A' w vs (xs.map a.eval) := by
  induction he with
  | nil => trivial
  | cons x xs v vs hx _ ih => exact ⟨(ev_rel hs hx).mono (fun _ _ => rfl) (fun _ _ _ => rfl) (Nat.le_refl _) (fun b _ h => hA b h), ih⟩
theorem relL_append {ρ : Nat → Loc} {A : Nat → Prop} {w : World} : ∀ {as bs : List AV} {vs us : List Value}, RelL ρ A w as vs → RelL ρ A w bs us → RelL ρ A w (as ++ bs) (vs ++ us)
  | [], _, [], _, _, h => h
  | _ :: _, _, _ :: _, _, h, h' => ⟨h.1, relL_append h.2 h'⟩
  | [], _, _ :: _, _, h, _ => h.elim
  | _ :: _, _, [], _, h, _ => h.elim
theorem relL_ptrs {ρ : Nat → Loc} {A : Nat → Prop} {w : World} : ∀ (ids : List Nat), RelL ρ A w (ptrs ids) (ids.map fun id => Value.pointer (some ⟨(ρ id).blk, (ρ id).off, none⟩))
  | [] => trivial
  | _ :: ids => ⟨by simp [AV.Rel, SV.Rel], relL_ptrs ids⟩

/-- The caller's blocks that are handed over, as the heap has them. -/
def OwnL (H : Nat → Option Bk) (E : List (Nat × Cs)) : Prop := ∀ x ∈ E, H x.1 = some (.own x.2) ∧ x.2.len ≠ 0

/-- A CALL that writes into blocks of its caller's. -/
theorem Y.callU {f : Nat} {x : Operand} {xs : List Operand} {ats : Array TypeId} {vs : List AV} {ids : List Nat} {res : AV} {E E' : List (Nat × Cs)} (hc : UC cx.P f (vs ++ ptrs ids) E res E') (hf : FnOK cx.P f) (hu : Up cx ops F o)
    (ho : o.op = .call { callee := .value x, args := xs.toArray, argTypes := ats }) (hx : evF F x = some (.one (.fn f ids))) (he : EvL F xs vs) (hE : OwnL H E) (hE' : E'.map (·.1) = E.map (·.1)) (_hnd : (E.map (·.1)).Nodup) (hp : res.pure = true) :
    Doing cx ops o F H ⟨res, E'.map (fun x => (x.1, Bk.own x.2)), []⟩ := by
  intro F' H' hF hH _ ρ A a w hst K Q hK
  have hst0 := hst.sub hF hH
  unfold StepOp
  rw [if_pos (hu.wanted hst0)]
  have hxr := ev_rel hst0 hx
  simp only [AV.Rel, SV.Rel] at hxr
  have real : ∀ y ∈ E, (ρ y.1).own = true ∧ (ρ y.1).size ≠ 0 ∧ A (ρ y.1).blk ∧ ¬ cx.O (ρ y.1).blk ∧ (cx.w0.heap.size ≤ (ρ y.1).blk ∨ cx.M (ρ y.1).blk) ∧ y.2.len ≤ (ρ y.1).size ∧ ∃ cs T fz, w.heap[(ρ y.1).blk]? = some (.cells cs T fz) ∧ (ρ y.1).off + (ρ y.1).size ≤ cs.size ∧ Unfrozen fz cs.size ∧
      ∀ j, j < y.2.len → ∃ u, cs[(ρ y.1).off + j]? = some u ∧ (y.2.at j).Rel ρ A w u := by
    intro y hy
    obtain ⟨h1, h2⟩ := hE y hy
    obtain ⟨h3, h4⟩ := hst0.hp _ _ h1
    rcases h4 with h4 | ⟨g1, g2, g3, g4, g5⟩
    · omega
    · exact ⟨g1, by omega, g2, g3, g4, h3, g5⟩
  let O' : Nat → Prop := fun b => A b ∧ ∀ y ∈ E, (ρ y.1).blk ≠ b
  have hAeq : ∀ b, (O' b ∨ ∃ y ∈ E, (ρ y.1).blk = b) → A b := by
    rintro b (h | ⟨y, hy, rfl⟩)
    · exact h.1
    · exact (real y hy).2.2.1
  have hAeq' : ∀ b, A b → (O' b ∨ ∃ y ∈ E, (ρ y.1).blk = b) := by
    intro b hb
    by_cases h : ∃ y ∈ E, (ρ y.1).blk = b
    · exact .inr h
    · exact .inl ⟨hb, fun y hy e => h ⟨y, hy, e⟩⟩
  have hcall := hc ρ O' w (xs.map a.eval ++ ids.map fun id => Value.pointer (some ⟨(ρ id).blk, (ρ id).off, none⟩)) (fun b hb => hst.A1 b hb.1)
    (fun y hy => by
      obtain ⟨g1, g2, g3, g4, g5, g6, cs, T, fz, g7, g8, g9, g10⟩ := real y hy
      refine ⟨g1, g2, fun h => h.2 y hy rfl, g6, cs, T, fz, g7, g8, g9, fun j hj => ?_⟩
      obtain ⟨u, hu', hr⟩ := g10 j hj
      exact ⟨u, hu', hr.mono (fun _ _ => rfl) (fun _ _ _ => rfl) (Nat.le_refl _) (fun b _ h => hAeq b h)⟩)
    (fun y hy z hz hne => by
      obtain ⟨g1, g2, _⟩ := real y hy
      obtain ⟨k1, k2, _⟩ := real z hz
      exact hst0.sep _ _ _ _ (hE y hy).1 (hE z hz).1 trivial trivial hne g1 k1 g2 k2)
    (relL_append (relL_ev hst0 hAeq he) (relL_ptrs ids))
  unfold Oper.wp
  rw [run_call hf ho hxr]
  simp only [Oper.upon]
  rw [show (xs.map a.eval ++ ids.map fun id => Value.pointer (some ⟨(ρ id).blk, (ρ id).off, none⟩)).toArray = (xs.map a.eval).toArray ++ (ids.map fun id => Value.pointer (some ⟨(ρ id).blk, (ρ id).off, none⟩)).toArray by simp] at hcall
  refine hcall.mono ?_
  rintro e w' ⟨r, rfl, hr, hfm, hE2⟩
  refine hK r w' ρ A ?_
  have keep : ∀ b, b < w.heap.size → (∀ y ∈ E, (ρ y.1).blk ≠ b) → w'.heap[b]? = w.heap[b]? := fun b hb h => hfm.block b hb (fun ⟨y, hy, e⟩ => h y hy e)
  have keepA : ∀ b, b < w.heap.size → ¬ A b → w'.heap[b]? = w.heap[b]? := fun b hb h => keep b hb fun y hy e => h (e ▸ (real y hy).2.2.1)
  have mem : ∀ i c, (i, c) ∈ E' → ∃ c0, (i, c0) ∈ E := by
    intro i c h
    have : i ∈ E'.map (·.1) := List.mem_map.2 ⟨_, h, rfl⟩
    rw [hE'] at this
    obtain ⟨⟨_, c0⟩, hy, rfl⟩ := List.mem_map.1 this
    exact ⟨c0, hy⟩
  have look : ∀ i b, ovr (E'.map fun x => (x.1, Bk.own x.2)) H' i = some b → (∃ c c0, (i, c) ∈ E' ∧ (i, c0) ∈ E ∧ b = .own c) ∨ ((∀ y ∈ E, y.1 ≠ i) ∧ H' i = some b) := by
    intro i b hb
    unfold ovr at hb
    split at hb
    · rename_i b' hb'
      cases hb
      obtain ⟨c, hc, rfl⟩ := lk_map_mem hb'
      obtain ⟨c0, hc0⟩ := mem i c hc
      exact .inl ⟨c, c0, hc, hc0, rfl⟩
    · rename_i hnone
      refine .inr ⟨fun y hy e => ?_, hb⟩
      subst e
      have : y.1 ∈ E'.map (·.1) := by rw [hE']; exact List.mem_map.2 ⟨_, hy, rfl⟩
      obtain ⟨x', hx', he'⟩ := List.mem_map.1 this
      have : ∀ (l : List (Nat × Cs)), x' ∈ l → lk x'.1 (l.map fun x => (x.1, Bk.own x.2)) ≠ none := by
        intro l
        induction l with
        | nil => intro h; cases h
        | cons z l ih =>
          intro h
          simp only [List.map_cons, lk]
          split
          · simp
          · rename_i hne
            rcases List.mem_cons.1 h with h | h
            · subst h; exact absurd rfl hne
            · exact ih h
      exact this E' hx' (he' ▸ hnone)
  refine StRel.put (F := F') ⟨hst.df, hst.sz, fun t v hv => (hst.fr t v hv).mono (fun _ _ => rfl) keepA hfm.size (fun _ _ h => h), ?_, ?_, fun b hb => Nat.lt_of_lt_of_le (hst.A1 b hb) hfm.size, hst.O, ?_, hst.E⟩ hu.d (AV.pure_rel hp hr)
  · intro i b hb
    rcases look i b hb with ⟨c, c0, hc, hc0, rfl⟩ | ⟨hne, hb'⟩
    · obtain ⟨cs, T, fz, g1, g2, g3, g4, g5⟩ := hE2 (i, c) hc
      obtain ⟨k1, k2, k3, k4, k5, _⟩ := real (i, c0) hc0
      refine ⟨g4, .inr ⟨k1, k3, k4, k5, cs, T, fz, g1, g2, g3, fun j hj => ?_⟩⟩
      obtain ⟨u, hu', hr'⟩ := g5 j hj
      exact ⟨u, hu', hr'.mono (fun _ _ => rfl) (fun _ _ _ => rfl) (Nat.le_refl _) (fun b _ h => hAeq' b h)⟩
    · refine (hst.hp i b hb').mono (fun _ _ => rfl) keepA hfm.size (fun _ _ h => h) ?_ (fun hl ho' hz => hst.liveA hb' hl ho' hz)
      intro hl ho' hz
      refine keep _ (hst.A1 _ (hst.liveA hb' hl ho' hz)) fun y hy => ?_
      obtain ⟨k1, k2, _⟩ := real y hy
      exact hst.sep _ _ _ _ (hH _ _ (hE y hy).1) hb' trivial hl (hne y hy) k1 ho' k2 hz
  · intro i j bi bj hbi hbj li lj hne oi oj zi zj
    have f : ∀ i b, ovr (E'.map fun x => (x.1, Bk.own x.2)) H' i = some b → b.live → ∃ b', H' i = some b' ∧ b'.live := by
      intro i b hb hl
      rcases look i b hb with ⟨c, c0, _, hc0, rfl⟩ | ⟨_, hb'⟩
      · exact ⟨_, hH _ _ (hE _ hc0).1, trivial⟩
      · exact ⟨b, hb', hl⟩
    obtain ⟨bi', hbi', li'⟩ := f i bi hbi li
    obtain ⟨bj', hbj', lj'⟩ := f j bj hbj lj
    exact hst.sep i j bi' bj' hbi' hbj' li' lj' hne oi oj zi zj
  · refine ⟨hfm.os.trans hst.fm.os, hfm.tape.trans hst.fm.tape, hfm.output.trans hst.fm.output, Nat.le_trans hst.fm.size hfm.size, fun b hb hM => ?_⟩
    refine (keep b (Nat.lt_of_lt_of_le hb hst.fm.size) fun y hy e => ?_).trans (hst.fm.block b hb hM)
    obtain ⟨_, _, _, _, k5, _⟩ := real y hy
    rcases k5 with k5 | k5
    · omega
    · exact hM (e ▸ k5)

theorem AV.ren_rel {τ : List (Nat × Nat)} {ρ : Nat → Loc} {A : Nat → Prop} {w : World} {x : AV} : ∀ {v : Value}, x.Rel (fun id => ρ (rn τ id)) A w v → (x.ren τ).Rel ρ A w v := by
  have sv : ∀ {s : SV} {v : Value}, s.Rel (fun id => ρ (rn τ id)) A w v → (s.ren τ).Rel ρ A w v := by
    intro s v h
    cases s with
    | fn f caps => simp only [SV.ren, SV.Rel, List.map_map] at h ⊢; exact h
    | _ => exact h
  induction x with
  | one s => intro v h; exact sv h
  | row c =>
    rintro v ⟨cs, hv, hl, hc⟩
    refine ⟨cs, hv, by rw [Cs.len_ren]; exact hl, fun j hj => ?_⟩
    rw [Cs.len_ren] at hj
    obtain ⟨u, hu, hr⟩ := hc j hj
    exact ⟨u, hu, by rw [Cs.at_ren hj]; exact sv hr⟩
  | two a b iha ihb =>
    rintro v ⟨x, y, hv, hx, hy⟩
    exact ⟨x, y, hv, iha hx, ihb hy⟩

/-- No slice but of the call's own. -/
def SV.noImm : SV → Bool
  | .bs _ _ _ | .bss _ _ | .pc _ _ | .pcb _ | .ss _ | .sp _ | .pz _ => false
  | _ => true
def noImm : AV → Bool
  | .one s => s.noImm
  | .row (.ints _ _) => true
  | .row (.mix l) => l.all SV.noImm
  | .two a b => noImm a && noImm b
theorem SV.noImm_rel {s : SV} (h : s.noImm = true) {ρ : Nat → Loc} {A A' : Nat → Prop} {w : World} {v : Value} (hv : s.Rel ρ A w v) : s.Rel ρ A' w v := by
  cases s <;> first | exact hv | (simp [SV.noImm] at h; done)
theorem noImm_rel {x : AV} : noImm x = true → ∀ {ρ : Nat → Loc} {A A' : Nat → Prop} {w : World} {v : Value}, x.Rel ρ A w v → x.Rel ρ A' w v := by
  induction x with
  | one s => intro h _ _ _ _ _ hv; exact SV.noImm_rel h hv
  | row c =>
    rintro h _ _ _ _ v ⟨cs, hv, hl, hc⟩
    refine ⟨cs, hv, hl, fun j hj => ?_⟩
    obtain ⟨u, hu, hr⟩ := hc j hj
    refine ⟨u, hu, SV.noImm_rel ?_ hr⟩
    cases c with
    | ints k xs => rfl
    | mix l =>
      simp only [Cs.len] at hj
      simp only [Cs.at, List.getD_eq_getElem?_getD, hj, List.getElem?_eq_getElem, Option.getD_some]
      exact List.all_eq_true.1 h _ (List.getElem_mem hj)
  | two a b iha ihb =>
    rintro h _ _ _ _ v ⟨x, y, hv, hx, hy⟩
    simp only [Go.Fx.noImm, Bool.and_eq_true] at h
    exact ⟨x, y, hv, iha h.1 hx, ihb h.2 hy⟩

/-- A CALL that hands back a slice of its own: here it is block d. -/
theorem Y.callF {d f : Nat} {x : Operand} {xs : List Operand} {ats : Array TypeId} {vs us : List AV} {res : AV} {k : IntKind} {ys : List Nat} (hc : VF cx.P f us res k ys) (hf : FnOK cx.P f) (hu : Up cx ops F o) (ho : o.op = .call { callee := .value x, args := xs.toArray, argTypes := ats }) (hx : evF F x = some (.one (.fn f [])))
    (he : EvL F xs vs) (hv : ViewL H vs us) (hid : us.all (fun u => u.ids.isEmpty) = true) (hr0 : res.ids.all (· == 0) = true) (hnb : noImm res = true) : Doing cx ops o F H ⟨res.ren [(0, d)], [(d, .own (.ints k ys))], [d]⟩ := by
  intro F' H' hF hH hN ρ A a w hst K Q hK
  have hn := hN d (by simp)
  have hst0 := hst.sub hF hH
  unfold StepOp
  rw [if_pos (hu.wanted hst0)]
  have hxr := ev_rel hst0 hx
  simp only [AV.Rel, SV.Rel, List.map_nil] at hxr
  have hrl := relL_view hst0 (A' := fun _ => False) (fun _ h => h.elim) (fun _ _ _ _ _ _ h => h) he hv (fun u hu => by simpa using List.all_eq_true.1 hid u hu)
  unfold Oper.wp
  rw [run_call hf ho hxr]
  simp only [Oper.upon, Array.append_empty]
  refine (hc (fun _ => False) w _ (fun _ h => h.elim) hrl).mono ?_
  rintro e w' ⟨r, l, rfl, hr, hb, hfl, hfr⟩
  let A' : Nat → Prop := fun b => A b ∨ (l.size ≠ 0 ∧ b = l.blk)
  refine hK r w' (upd' ρ d l) A' ?_
  rw [ovr_cons, ovr_nil]
  have hst1 := hst.below hb
  have hρ : ∀ i, i ≠ d → upd' ρ d l i = ρ i := fun i hi => by simp [upd', hi]
  have hlge : l.size ≠ 0 → w.heap.size ≤ l.blk ∧ l.blk < w'.heap.size := fun hz => by
    rcases hfr with h | h
    · exact absurd h hz
    · exact ⟨h.2.1, h.2.2.1⟩
  have hA' : ∀ b, b < w.heap.size → A' b → A b := by
    rintro b hb (h | ⟨hz, rfl⟩)
    · exact h
    · have := hlge hz; omega
  have keep : ∀ b, b < w.heap.size → ¬ A b → w'.heap[b]? = w.heap[b]? := fun b hb' _ => hb.block b hb'
  refine StRel.put (F := F') ⟨hst.df, hst.sz, fun t v hv => (hst.fr t v hv).mono (fun i hi => hρ i (fun e => hn.f t v hv (e ▸ hi))) keep hb.size hA', ?_, ?_, ?_, fun b hb => .inl (hst.O b hb), hst1.fm, ?_⟩ hu.d ?_
  · intro i b hb'
    simp only [upd] at hb'
    split at hb'
    · rename_i he
      subst he
      cases hb'
      simp only [upd', if_true]
      refine ⟨hfl, ?_⟩
      rcases hfr with h | ⟨h1, h2, h3, cs, T, fz, h4, h5, h6, h7⟩
      · exact .inl h
      · by_cases hz : l.size = 0
        · exact .inl hz
        refine .inr ⟨h1, .inr ⟨hz, rfl⟩, fun hO => ?_, .inl (Nat.le_trans hst.fm.size h2), cs, T, fz, h4, h5, h6, fun j hj => ⟨_, (h7 j hj).1, rfl, (h7 j hj).2⟩⟩
        have := hst.A1 _ (hst.O _ hO); omega
    · rename_i h1
      rw [hρ i h1]
      exact (hst.hp i b hb').mono (fun k hk => hρ k (fun e => hn.g i b hb' (e ▸ hk))) keep hb.size hA' (fun hl ho' hz => hb.block _ (hst.A1 _ (hst.liveA hb' hl ho' hz))) (fun hl ho' hz => .inl (hst.liveA hb' hl ho' hz))
  · intro i j bi bj hbi hbj li lj hne oi oj zi zj
    simp only [upd] at hbi hbj
    by_cases h1 : i = d
    · have h2 : j ≠ d := fun h => hne (h1.trans h.symm)
      rw [if_neg h2] at hbj
      subst h1
      rw [hρ j h2] at oj zj ⊢
      have := hst.A1 _ (hst.liveA hbj lj oj zj)
      simp only [upd', if_true] at zi ⊢
      have := hlge zi
      omega
    · rw [if_neg h1] at hbi
      rw [hρ i h1] at oi zi ⊢
      by_cases h2 : j = d
      · subst h2
        have := hst.A1 _ (hst.liveA hbi li oi zi)
        simp only [upd', if_true] at zj ⊢
        have := hlge zj
        omega
      · rw [if_neg h2] at hbj
        rw [hρ j h2] at oj zj ⊢
        exact hst.sep i j bi bj hbi hbj li lj hne oi oj zi zj
  · rintro b (hb' | ⟨hz, rfl⟩)
    · exact Nat.lt_of_lt_of_le (hst.A1 b hb') hb.size
    · exact (hlge hz).2
  · intro i hi
    have : i ≠ d := fun e => hn.e (e ▸ hi)
    rw [hρ i this]; exact hst.E i hi
  · refine AV.ren_rel ?_
    refine noImm_rel hnb (hr.mono (fun i hi => ?_) (fun _ _ _ => rfl) (Nat.le_refl _) (fun _ _ h => h))
    have : i = 0 := by simpa using List.all_eq_true.1 hr0 i hi
    subst this
    simp [rn, lk, upd']

end
end Go.Fx

/- FxR: the return of a call that writes into its caller's blocks, and of one that hands back a slice of its own. -/
namespace Go.Fx
open Go.RowKit (Below)

theorem AV.ren_rel' {τ : List (Nat × Nat)} {ρ : Nat → Loc} {A : Nat → Prop} {w : World} {x : AV} : ∀ {v : Value}, (x.ren τ).Rel ρ A w v → x.Rel (fun id => ρ (rn τ id)) A w v := by
  have sv : ∀ {s : SV} {v : Value}, (s.ren τ).Rel ρ A w v → s.Rel (fun id => ρ (rn τ id)) A w v := by
    intro s v h
    cases s with
    | fn f caps => simp only [SV.ren, SV.Rel, List.map_map] at h ⊢; exact h
    | _ => exact h
  induction x with
  | one s => intro v h; exact sv h
  | row c =>
    rintro v ⟨cs, hv, hl, hc⟩
    rw [Cs.len_ren] at hl
    refine ⟨cs, hv, hl, fun j hj => ?_⟩
    obtain ⟨u, hu, hr⟩ := hc j (by rw [Cs.len_ren]; exact hj)
    rw [Cs.at_ren hj] at hr
    exact ⟨u, hu, sv hr⟩
  | two a b iha ihb =>
    rintro v ⟨x, y, hv, hx, hy⟩
    exact ⟨x, y, hv, iha hx, ihb hy⟩

/-- The results as a list. -/
inductive ResL (P : Program) (S : Ls) : List ResultVar → AV → Prop
  | none : ResL P S [] (.one .u)
  | one (r : ResultVar) (x : AV) : ResIs P S r x → ResL P S [r] x
  | two (r s : ResultVar) (x y : AV) : ResIs P S r x → ResIs P S s y → ResL P S [r, s] (.two x y)

theorem ResL.run {cx : Cx} {S : Ls} {fn : Func} {a : Act} {w : World} {ρ : Nat → Loc} {A : Nat → Prop} (hs : StRel cx S.F S.H a w ρ A) {rs : List ResultVar} (hf : fn.results = rs.toArray) {x : AV} (h : ResL cx.P S rs x) :
    ∃ v, (results fn a.tmps).run cx.P w = .ok v w ∧ x.Rel ρ A w v := by
  cases h with
  | none => exact ⟨_, results_none hf, rfl⟩
  | one r x hr =>
    obtain ⟨v, h1, h2⟩ := ResIs.run hs hr
    exact ⟨v, results_one hf h1, h2⟩
  | two r s x y hr hr' =>
    obtain ⟨v, h1, h2⟩ := ResIs.run hs hr
    obtain ⟨v', h1', h2'⟩ := ResIs.run hs hr'
    exact ⟨_, results_two hf h1 h1', _, _, rfl, h2, h2'⟩

section
variable {P : Program} {fn : Func} {nt : Nat} {w0 : World} {O : Nat → Prop} {S : Ls} {e : Exit}

theorem Holds.retF {rs : List ResultVar} {x res : AV} {id : Nat} {k : IntKind} {xs : List Nat} (he : e = .ret ∨ e = .normal) (hf : fn.results = rs.toArray) (hr : ResL P S rs x) (hx : res.ren [(0, id)] = x) (hid : res.ids.all (· == 0) = true) (hb : lk id S.hp = some (.own (.ints k xs))) :
    Holds (cxV P nt w0 O) S (bodyPost P fn (fun e w' => ∃ r l, e = .returned r ∧ res.Rel (fun _ => l) O w' r ∧ Below w0.heap.size w0 w' ∧ FreshB w0.heap.size w' l k xs) e) := by
  intro ρ A a w hs
  obtain ⟨v, h1, h2⟩ := hr.run hs hf
  subst hx
  refine bodyPost_of he hs.df h1 ⟨v, ρ id, rfl, ?_, hs.fm.below, ?_⟩
  · refine (AV.ren_rel' h2).mono (fun i hi => ?_) (fun _ _ _ => rfl) (Nat.le_refl _) (fun b _ h => hs.O b h)
    have : i = 0 := by simpa using List.all_eq_true.1 hid i hi
    subst this
    simp [rn, lk]
  · obtain ⟨g1, g2⟩ := hs.hp id _ hb
    refine ⟨g1, ?_⟩
    rcases g2 with g2 | ⟨k1, k2, k3, k4, cs, T, fz, k5, k6, k7, k8⟩
    · exact .inl g2
    · refine .inr ⟨k1, ?_, hs.A1 _ k2, cs, T, fz, k5, k6, k7, fun j hj => ?_⟩
      · rcases k4 with k4 | k4
        · exact k4
        · exact k4.elim
      · obtain ⟨u, hu, hr⟩ := k8 j hj
        simp only [Cs.at, SV.Rel] at hr
        rw [hu, hr.1]
        exact ⟨rfl, hr.2⟩

theorem Holds.retU {ρ : Nat → Loc} {E E' : List (Nat × Cs)} {res : AV} (he : e = .ret ∨ e = .normal) (hres : ∀ a w ρ' A, StRel (cxU P nt w0 O ρ E) S.F S.H a w ρ' A → ∃ v, (results fn a.tmps).run P w = .ok v w ∧ res.Rel ρ' A w v) (hp : res.pure = true)
    (hE : E'.map (·.1) = E.map (·.1)) (hb : ∀ x ∈ E', lk x.1 S.hp = some (.own x.2) ∧ x.2.len ≠ 0 ∧ (x.2.ids.all fun i => (E.map (·.1)).contains i) = true) :
    Holds (cxU P nt w0 O ρ E) S (bodyPost P fn (fun e w' => ∃ r, e = .returned r ∧
      res.Rel ρ (fun b => O b ∨ ∃ x ∈ E, (ρ x.1).blk = b) w' r ∧ FrameOK (fun b => ∃ x ∈ E, (ρ x.1).blk = b) w0 w' ∧
      (∀ x ∈ E', ∃ cs T fz, w'.heap[(ρ x.1).blk]? = some (.cells cs T fz) ∧ (ρ x.1).off + (ρ x.1).size ≤ cs.size ∧ Unfrozen fz cs.size ∧ x.2.len ≤ (ρ x.1).size ∧
        ∀ j, j < x.2.len → ∃ u, cs[(ρ x.1).off + j]? = some u ∧ (x.2.at j).Rel ρ (fun b => O b ∨ ∃ y ∈ E, (ρ y.1).blk = b) w' u)) e) := by
  intro ρ' A a w hs
  obtain ⟨v, h1, h2⟩ := hres a w ρ' A hs
  have hEe : ∀ i ∈ E.map (·.1), ρ' i = ρ i := hs.E
  have real : ∀ x ∈ E', x.1 ∈ E.map (·.1) ∧ x.2.len ≤ (ρ' x.1).size ∧ A (ρ' x.1).blk ∧ ∃ cs T fz, w.heap[(ρ' x.1).blk]? = some (.cells cs T fz) ∧ (ρ' x.1).off + (ρ' x.1).size ≤ cs.size ∧ Unfrozen fz cs.size ∧
      ∀ j, j < x.2.len → ∃ u, cs[(ρ' x.1).off + j]? = some u ∧ (x.2.at j).Rel ρ' A w u := by
    intro x hx
    obtain ⟨g1, g2, _⟩ := hb x hx
    obtain ⟨g3, g4⟩ := hs.hp _ _ g1
    have hm : x.1 ∈ E.map (·.1) := by rw [← hE]; exact List.mem_map.2 ⟨x, hx, rfl⟩
    rcases g4 with g4 | ⟨k1, k2, k3, k4, k5⟩
    · omega
    · exact ⟨hm, g3, k2, k5⟩
  refine bodyPost_of he hs.df h1 ⟨v, rfl, AV.pure_rel hp h2, hs.fm, fun x hx => ?_⟩
  obtain ⟨hm, g1, _, cs, T, fz, g2, g3, g4, g5⟩ := real x hx
  rw [hEe _ hm] at g1 g2 g3 g5
  refine ⟨cs, T, fz, g2, g3, g4, g1, fun j hj => ?_⟩
  obtain ⟨u, hu, hr⟩ := g5 j hj
  refine ⟨u, hu, hr.mono (fun i hi => ?_) (fun _ _ _ => rfl) (Nat.le_refl _) ?_⟩
  · have := List.all_eq_true.1 (hb x hx).2.2 i (Cs.ids_at hj hi)
    exact (hEe i (by simpa using this)).symm
  · rintro b _ (hO | ⟨y, hy, rfl⟩)
    · exact hs.O b hO
    · have hy' : y.1 ∈ E'.map (·.1) := by rw [hE]; exact List.mem_map.2 ⟨y, hy, rfl⟩
      obtain ⟨z, hz, hzy⟩ := List.mem_map.1 hy'
      obtain ⟨hm', _, hA, _⟩ := real z hz
      rw [hzy, hEe _ (hzy ▸ hm')] at hA
      exact hA
end
end Go.Fx

/- FxS: the same rules in the form in which a printed walk uses them: one step, one line. -/
namespace Go.Fx
open Go.RowKit (Below)

theorem u8s : IntKind.signed .u8 = false := rfl
theorem u16s : IntKind.signed .u16 = false := rfl
theorem u32s : IntKind.signed .u32 = false := rfl
theorem u64s : IntKind.signed .u64 = false := rfl
theorem u8m : 2 ^ IntKind.bits .u8 = 256 := rfl
theorem u16m : 2 ^ IntKind.bits .u16 = 65536 := rfl
theorem u32m : 2 ^ IntKind.bits .u32 = 4294967296 := rfl
theorem u64m : 2 ^ IntKind.bits .u64 = 18446744073709551616 := rfl

/-- A fold over the numbers below n, the last one outermost. -/
def iter {α : Type} (f : Nat → α → α) : Nat → α → α
  | 0, a => a
  | n + 1, a => f n (iter f n a)

section
variable {cx : Cx} {ops : Array Oper} {o : Oper} {F : Nat → Option AV} {H : Nat → Option Bk}
theorem up0 {d : Nat} (hg : o.guard = none) (hd : o.dst = some d) (hlt : Nat.ble (d + 1) cx.nt = true) : Up cx ops F o := ⟨.inl hg, dlt hd (Nat.le_of_ble_eq_true hlt)⟩
theorem upN (hg : o.guard = none) (hd : o.dst = none) : Up cx ops F o := ⟨.inl hg, dno hd⟩
theorem up1 {d j t : Nat} {want : Bool} {oj : Oper} (hg : o.guard = some (j, want)) (hj : ops[j]? = some oj) (hjd : oj.dst = some t) (ht : F t = some (.one (.b want))) (hd : o.dst = some d) (hlt : Nat.ble (d + 1) cx.nt = true) : Up cx ops F o := ⟨.inr ⟨j, want, oj, t, hg, hj, hjd, ht⟩, dlt hd (Nat.le_of_ble_eq_true hlt)⟩
theorem upN1 {j t : Nat} {want : Bool} {oj : Oper} (hg : o.guard = some (j, want)) (hj : ops[j]? = some oj) (hjd : oj.dst = some t) (ht : F t = some (.one (.b want))) (hd : o.dst = none) : Up cx ops F o := ⟨.inr ⟨j, want, oj, t, hg, hj, hjd, ht⟩, dno hd⟩
end

/-- How long what is made of lists is. -/
theorem lens : (∀ (k : IntKind) (xs : List Nat), (Cs.ints k xs).len = xs.length) ∧ (∀ (k : IntKind) (xs : List Nat) (o n : Nat), (Cs.ints k xs).sub o n = .ints k ((xs.drop o).take n)) ∧ (∀ (xs : List Nat) (i v : Nat), (xs.set i v).length = xs.length) ∧
    (∀ (xs : List Nat) (n : Nat), (xs.take n).length = min n xs.length) ∧ (∀ (xs : List Nat) (n : Nat), (xs.drop n).length = xs.length - n) ∧ (∀ (xs ys : List Nat), (xs ++ ys).length = xs.length + ys.length) ∧ (∀ (n v : Nat), (List.replicate n v).length = n) ∧
    (∀ (x : Nat) (xs : List Nat), (x :: xs).length = xs.length + 1) ∧ (([] : List Nat).length = 0) ∧ (∀ (f : Nat → Nat) (xs : List Nat), (xs.map f).length = xs.length) ∧ (∀ (n : Nat), (List.range n).length = n) :=
  ⟨fun _ _ => rfl, fun _ _ _ _ => rfl, fun _ _ _ => List.length_set, fun _ _ => List.length_take, fun _ _ => List.length_drop, fun _ _ => List.length_append, fun _ _ => List.length_replicate, fun _ _ => rfl, rfl, fun _ _ => List.length_map _, fun _ => List.length_range⟩

/-! ### A region in the text's order -/
def OpsFrom (cx : Cx) (S : Ls) (ops : List Oper) (i : Nat) (rest : List Oper) (Q : Exit → Act → World → Prop) : Prop :=
  ops.drop i = rest → Holds cx S (wpOps cx.P ops.toArray Q (List.range' i rest.length))

section
variable {cx : Cx} {fr : List (Nat × AV)} {hp : List (Nat × Bk)} {ops rest : List Oper} {i d : Nat} {o : Oper} {av : AV} {up : List (Nat × Bk)} {fresh : List Nat} {Q : Exit → Act → World → Prop}
theorem Holds.reg {S : Ls} {id : Nat} {l : List Oper} (h : OpsFrom cx S l 0 l Q) : Holds cx S ((Code.region id l.toArray false).wp cx.P Q) := by
  refine Holds.region ?_
  rw [List.range_eq_range']
  exact h rfl
theorem OpsFrom.nil {S : Ls} (h : Holds cx S (Q .normal)) : OpsFrom cx S ops i [] Q := fun _ => Holds.ops_nil h
theorem OpsFrom.gen {S : Ls} {e : Ent} (hd : Doing cx ops.toArray o S.F S.H e) (hf : e.fresh.all (S.nomB cx.E) = true) (k : OpsFrom cx (S.eff o.dst e) ops (i + 1) rest Q) : OpsFrom cx S ops i (o :: rest) Q := by
  intro hr
  have ho : ops[i]? = some o := by
    have := congrArg (·[0]?) hr
    simpa using this
  have hr' : ops.drop (i + 1) = rest := by
    have := congrArg (List.drop 1) hr
    rw [List.drop_drop] at this
    simpa using this
  exact Holds.op (by simpa using ho) hd hf (k hr')
/-- A value for a slot. -/
theorem OpsFrom.v (hd : Doing cx ops.toArray o (Ls.F ⟨fr, hp⟩) (Ls.H ⟨fr, hp⟩) ⟨av, [], []⟩) (hdst : o.dst = some d) (k : OpsFrom cx ⟨(d, av) :: fr, hp⟩ ops (i + 1) rest Q) : OpsFrom cx ⟨fr, hp⟩ ops i (o :: rest) Q :=
  OpsFrom.gen hd rfl (by simpa only [Ls.eff, hdst, List.nil_append] using k)
/-- Nothing for a slot. -/
theorem OpsFrom.n (hd : Doing cx ops.toArray o (Ls.F ⟨fr, hp⟩) (Ls.H ⟨fr, hp⟩) ⟨av, up, []⟩) (hdst : o.dst = none) {hp' : List (Nat × Bk)} (he : up ++ hp = hp') (k : OpsFrom cx ⟨fr, hp'⟩ ops (i + 1) rest Q) : OpsFrom cx ⟨fr, hp⟩ ops i (o :: rest) Q :=
  OpsFrom.gen hd rfl (by subst he; simpa only [Ls.eff, hdst] using k)
/-- A value, and blocks. -/
theorem OpsFrom.u (hd : Doing cx ops.toArray o (Ls.F ⟨fr, hp⟩) (Ls.H ⟨fr, hp⟩) ⟨av, up, fresh⟩) (hdst : o.dst = some d) (hf : fresh.all (Ls.nomB ⟨fr, hp⟩ cx.E) = true) {hp' : List (Nat × Bk)} (he : up ++ hp = hp') (k : OpsFrom cx ⟨(d, av) :: fr, hp'⟩ ops (i + 1) rest Q) : OpsFrom cx ⟨fr, hp⟩ ops i (o :: rest) Q :=
  OpsFrom.gen hd hf (by subst he; simpa only [Ls.eff, hdst] using k)

/-! ### A region that draws -/
def CertK (cx : Cx) (ops : List Oper) (k : Nat) (S : Ls) (rest : List Oper) (info : List (List Nat × List Nat)) (G : Act → World → Prop) : Prop :=
  ops.drop k = rest → k ≤ ops.length → ∃ es, es.map (·.2) = info ∧ Cert cx ops.toArray k S es ∧ Holds cx (effAll ops.toArray k S es) G

theorem Holds.dr {S : Ls} {id : Nat} {l : List Oper} (hm : cx.P.follows .mixedOrders = true) (info : List (List Nat × List Nat)) (hchk : chkB l (befL l) info = true)
    (h : CertK cx l 0 S l info (Q .normal)) : Holds cx S ((Code.region id l.toArray true).wp cx.P Q) := by
  obtain ⟨es, h1, h2, h3⟩ := h rfl (Nat.zero_le _)
  exact Holds.draw hm es (befL l) info h1 hchk h2 h3

theorem Ls.del_nil (S : Ls) : S.del [] = S := by
  have e : ∀ {α : Type} (l : List (Nat × α)), l.filter (fun x => !([] : List Nat).contains x.1) = l := fun l => by simp
  cases S
  simp only [Ls.del, e]

section
variable {ks ds : List Nat} {info : List (List Nat × List Nat)} {G : Act → World → Prop}
theorem CertK.nil {S : Ls} (h : Holds cx S G) : CertK cx ops i S [] [] G := by
  intro hr hl
  have : i = ops.length := by
    have := congrArg List.length hr
    simp at this; omega
  exact ⟨[], rfl, by simp [Cert, this], h⟩
theorem CertK.gen {S : Ls} {e : Ent} (hd : Doing cx ops.toArray o (S.del ds).F (S.del ds).H e) (hf : e.fresh.all (S.nomB cx.E) = true)
    (h2 : ((match o.dst with | some d => ks.contains d | none => true) && e.fresh.all ks.contains && e.up.all (fun x => ks.contains x.1)) = true)
    (h3 : (ds.all (fun d => !e.av.ids.contains d && e.up.all (fun x => x.1 != d && !x.2.ids.contains d)) && (match o.dst with | some d => !ds.contains d | none => true)) = true)
    (k : CertK cx ops (i + 1) (S.eff o.dst e) rest info G) : CertK cx ops i S (o :: rest) ((ks, ds) :: info) G := by
  intro hr hl
  have ho : ops[i]? = some o := by
    have := congrArg (·[0]?) hr
    simpa using this
  have hr' : ops.drop (i + 1) = rest := by
    have := congrArg (List.drop 1) hr
    rw [List.drop_drop] at this
    simpa using this
  have hlt : i < ops.length := by
    rcases Nat.lt_or_ge i ops.length with h | h
    · exact h
    · simp [List.getElem?_eq_none h] at ho
  obtain ⟨es, g1, g2, g3⟩ := k hr' hlt
  refine ⟨(e, ks, ds) :: es, by simp [g1], ⟨o, by simpa using ho, hd, ⟨hf, h2, h3⟩, g2⟩, ?_⟩
  have : (ops.toArray[i]?).bind (·.dst) = o.dst := by simp [ho]
  simp only [effAll, this]
  exact g3
/-- A value, in order with all. -/
theorem CertK.v (hd : Doing cx ops.toArray o (Ls.F ⟨fr, hp⟩) (Ls.H ⟨fr, hp⟩) ⟨av, [], []⟩) (hdst : o.dst = some d) (k : CertK cx ops (i + 1) ⟨(d, av) :: fr, hp⟩ rest info G) : CertK cx ops i ⟨fr, hp⟩ (o :: rest) (([d], []) :: info) G :=
  CertK.gen (e := ⟨av, [], []⟩) (by rw [Ls.del_nil]; exact hd) rfl (by simp [hdst]) (by simp [hdst]) (by simpa only [Ls.eff, hdst, List.nil_append] using k)
/-- A value that knows nothing of the slots and blocks 'ds'. -/
theorem CertK.vd (hd : Doing cx ops.toArray o (Ls.F (Ls.del ⟨fr, hp⟩ ds)) (Ls.H (Ls.del ⟨fr, hp⟩ ds)) ⟨av, [], []⟩) (hdst : o.dst = some d) (h3 : (ds.all (fun d => !av.ids.contains d) && !ds.contains d) = true) (k : CertK cx ops (i + 1) ⟨(d, av) :: fr, hp⟩ rest info G) : CertK cx ops i ⟨fr, hp⟩ (o :: rest) (([d], ds) :: info) G :=
  CertK.gen (e := ⟨av, [], []⟩) hd rfl (by simp [hdst]) (by simpa [hdst] using h3) (by simpa only [Ls.eff, hdst, List.nil_append] using k)
theorem CertK.n (hd : Doing cx ops.toArray o (Ls.F (Ls.del ⟨fr, hp⟩ ds)) (Ls.H (Ls.del ⟨fr, hp⟩ ds)) ⟨av, up, []⟩) (hdst : o.dst = none) (h2 : (up.all fun x => ks.contains x.1) = true) (h3 : (ds.all fun d => !av.ids.contains d && up.all (fun x => x.1 != d && !x.2.ids.contains d)) = true) {hp' : List (Nat × Bk)} (he : up ++ hp = hp')
    (k : CertK cx ops (i + 1) ⟨fr, hp'⟩ rest info G) : CertK cx ops i ⟨fr, hp⟩ (o :: rest) ((ks, ds) :: info) G :=
  CertK.gen (e := ⟨av, up, []⟩) hd rfl (by simpa [hdst] using h2) (by simpa [hdst] using h3) (by subst he; simpa only [Ls.eff, hdst] using k)
theorem CertK.u (hd : Doing cx ops.toArray o (Ls.F (Ls.del ⟨fr, hp⟩ ds)) (Ls.H (Ls.del ⟨fr, hp⟩ ds)) ⟨av, up, fresh⟩) (hdst : o.dst = some d) (hf : fresh.all (Ls.nomB ⟨fr, hp⟩ cx.E) = true) (h2 : (ks.contains d && fresh.all ks.contains && up.all fun x => ks.contains x.1) = true)
    (h3 : (ds.all (fun d => !av.ids.contains d && up.all (fun x => x.1 != d && !x.2.ids.contains d)) && !ds.contains d) = true) {hp' : List (Nat × Bk)} (he : up ++ hp = hp')
    (k : CertK cx ops (i + 1) ⟨(d, av) :: fr, hp'⟩ rest info G) : CertK cx ops i ⟨fr, hp⟩ (o :: rest) ((ks, ds) :: info) G :=
  CertK.gen (e := ⟨av, up, fresh⟩) hd hf (by simpa only [hdst] using h2) (by simpa only [hdst] using h3) (by subst he; simpa only [Ls.eff, hdst] using k)
end

/-! ### Tests -/
theorem Holds.condD {S : Ls} {t : Nat} {x y : Code} {p : Prop} [Decidable p] (hc : lk t S.fr = some (.one (.b (decide p)))) (ht : p → Holds cx S (x.wp cx.P Q)) (hf : ¬ p → Holds cx S (y.wp cx.P Q)) : Holds cx S ((Code.cond (.tmp t) x y).wp cx.P Q) :=
  Holds.cond _ hc (fun h => ht (of_decide_eq_true h)) (fun h => hf (of_decide_eq_false h))
end

section
variable {cx : Cx} {S : Ls} {Q : Exit → Act → World → Prop}
theorem Holds.condDT {t : Nat} {x y : Code} {b : Bool} (hc : lk t S.fr = some (.one (.b b))) (hb : b = true) (h : Holds cx S (x.wp cx.P Q)) : Holds cx S ((Code.cond (.tmp t) x y).wp cx.P Q) := by
  subst hb; exact Holds.condT hc h
theorem Holds.condDF {t : Nat} {x y : Code} {b : Bool} (hc : lk t S.fr = some (.one (.b b))) (hb : b = false) (h : Holds cx S (y.wp cx.P Q)) : Holds cx S ((Code.cond (.tmp t) x y).wp cx.P Q) := by
  subst hb; exact Holds.condF hc h
end

section
variable {cx : Cx} {ops : Array Oper} {o : Oper} {F : Nat → Option AV} {H : Nat → Option Bk}
theorem Doing.cast {e e' : Ent} (h : e = e') (hd : Doing cx ops o F H e) : Doing cx ops o F H e' := h ▸ hd
theorem Doing.isB {b c : Bool} (h : b = c) (hd : Doing cx ops o F H ⟨.one (.b b), [], []⟩) : Doing cx ops o F H ⟨.one (.b c), [], []⟩ := h ▸ hd
theorem Y.pickT {c x y : Operand} {v : AV} (hu : Up cx ops F o) (ho : o.op = .pick c x y) (hc : evF F c = some (.one (.b true))) (hx : evF F x = some v) : Doing cx ops o F H ⟨v, [], []⟩ :=
  Y.pick (u := v) true hu ho hc (fun _ => hx) (fun h => nomatch h)
theorem Y.pickF {c x y : Operand} {v : AV} (hu : Up cx ops F o) (ho : o.op = .pick c x y) (hc : evF F c = some (.one (.b false))) (hy : evF F y = some v) : Doing cx ops o F H ⟨v, [], []⟩ :=
  Y.pick (u := v) false hu ho hc (fun h => nomatch h) (fun _ => hy)
theorem Y.pickB {c x y : Operand} {b p q : Bool} (hu : Up cx ops F o) (ho : o.op = .pick c x y) (hc : evF F c = some (.one (.b b))) (hx : evF F x = some (.one (.b p))) (hy : evF F y = some (.one (.b q))) : Doing cx ops o F H ⟨.one (.b (bif b then p else q)), [], []⟩ := by
  cases b
  · exact Y.pickF hu ho hc hy
  · exact Y.pickT hu ho hc hx
theorem ownL1 {id n : Nat} {c : Cs} (h : H id = some (.own c)) (hl : c.len = n) (hn : n ≠ 0) : OwnL H [(id, c)] := by
  intro x hx
  simp only [List.mem_singleton] at hx
  subst hx
  exact ⟨h, hl ▸ hn⟩
theorem Y.stM {T _n by' id off : Nat} {d : TypeDesc} {z : Cs} {l : List SV} {x y : Operand} {s : SV} (hT : TyI cx.P T d 1 by' z) (hu : Up cx ops F o) (ho : o.op = .store T x y) (hx : evF F x = some (.one (.p id off))) (hy : evF F y = some (.one s)) (hv : s.cell = true) (hb : H id = some (.own (.mix l))) (hl : off < l.length) :
    Doing cx ops o F H ⟨.one .u, [(id, .own (.mix (l.set off s)))], []⟩ := Y.st hT hu ho hx hy hv rfl hb (Spl.m hl) (by decide)
end

theorem ResIs.rowN {P : Program} {S : Ls} {t T id n by' : Nat} {c : Cs} {d : TypeDesc} {z : Cs} (h1 : lk t S.fr = some (.one (.p id 0))) (h2 : lk id S.hp = some (.own c)) (hT : TyI P T d n by' z) (hd : TypeDesc.isAgg d = true) (hl : c.len = n) (hn : n ≠ 0) : ResIs P S (.cell t T) (.row c) := by
  subst hl; exact ResIs.row t T id c d by' z h1 h2 hT hd hn

theorem iter0 {α : Type} (f : Nat → α → α) (a : α) : iter f 0 a = a := rfl
theorem iterS {α : Type} (f : Nat → α → α) (n : Nat) (a : α) : iter f (n + 1) a = f n (iter f n a) := rfl
theorem hEq {k : IntKind} {xs ys : List Nat} (h : xs = ys) {τ : List (Nat × Nat)} : some (Bk.own (.ints k xs)) = some (Bk.ren τ (.own (.ints k ys))) := by rw [h]; rfl
theorem nEq {k : IntKind} {x y : Nat} (h : x = y) {τ : List (Nat × Nat)} : some (AV.one (.n k x)) = some (AV.ren τ (.one (.n k y))) := by rw [h]; rfl
theorem rEq {k : IntKind} {xs ys : List Nat} (h : xs = ys) {τ : List (Nat × Nat)} : some (AV.row (.ints k xs)) = some (AV.ren τ (.row (.ints k ys))) := by rw [h]; rfl

theorem iter_len {α : Type} {f : Nat → List α → List α} {a : List α} (h : ∀ i l, (f i l).length = l.length) : ∀ n, (iter f n a).length = a.length
  | 0 => rfl
  | n + 1 => by rw [iter, h, iter_len h n]

/-- The caller's block may bear any number. -/
theorem UC.ren1 {P : Program} {f : Nat} {args : List AV} {res : AV} {c c' : Cs} (h : UC P f args [(1000, c)] res [(1000, c')]) (hc : c.ids = []) (hc' : c'.ids = []) (hres : res.pure = true) (id : Nat) :
    UC P f (args.map (AV.ren [(1000, id)])) [(id, c)] res [(id, c')] := by
  intro ρ O w vs hO hE hsep hr
  have hrn : rn [(1000, id)] 1000 = id := rfl
  have noid : ∀ {c : Cs} {j : Nat}, c.ids = [] → j < c.len → ∀ i ∈ (c.at j).ids, ρ i = ρ (rn [(1000, id)] i) := by
    intro c j h hj i hi
    have := Cs.ids_at hj hi
    rw [h] at this; cases this
  have hA : ∀ b, (O b ∨ ∃ x ∈ [(1000, c)], (ρ (rn [(1000, id)] x.1)).blk = b) ↔ (O b ∨ ∃ x ∈ [(id, c)], (ρ x.1).blk = b) := by
    intro b; simp [hrn]
  have hl : RelL (fun i => ρ (rn [(1000, id)] i)) (fun b => O b ∨ ∃ x ∈ [(1000, c)], (ρ (rn [(1000, id)] x.1)).blk = b) w args vs := by
    have key : ∀ (as : List AV) (vs : List Value), RelL ρ (fun b => O b ∨ ∃ x ∈ [(id, c)], (ρ x.1).blk = b) w (as.map (AV.ren [(1000, id)])) vs → RelL (fun i => ρ (rn [(1000, id)] i)) (fun b => O b ∨ ∃ x ∈ [(1000, c)], (ρ (rn [(1000, id)] x.1)).blk = b) w as vs := by
      intro as
      induction as with
      | nil => intro vs h; cases vs <;> exact h
      | cons a as ih =>
        intro vs h
        cases vs with
        | nil => exact h.elim
        | cons v vs => exact ⟨(AV.ren_rel' h.1).mono (fun _ _ => rfl) (fun _ _ _ => rfl) (Nat.le_refl _) (fun b _ hb => (hA b).1 hb), ih vs h.2⟩
    exact key args vs hr
  refine (h (fun i => ρ (rn [(1000, id)] i)) O w vs hO ?_ ?_ hl).mono ?_
  · intro x hx
    simp only [List.mem_singleton] at hx
    subst hx
    obtain ⟨h1, h2, h3, h4, cs, T, fz, h5, h6, h7, h8⟩ := hE (id, c) (by simp)
    refine ⟨h1, h2, h3, h4, cs, T, fz, h5, h6, h7, fun j hj => ?_⟩
    obtain ⟨u, hu, hr⟩ := h8 j hj
    exact ⟨u, hu, hr.mono (fun i hi => (noid hc hj i hi).symm) (fun _ _ _ => rfl) (Nat.le_refl _) (fun b _ hb => (hA b).1 hb)⟩
  · intro x hx y hy hne
    simp only [List.mem_singleton] at hx hy
    subst hx; subst hy; exact absurd rfl hne
  · rintro e w' ⟨r, he, hr, hf, hE'⟩
    refine ⟨r, he, AV.pure_rel hres hr, ⟨hf.os, hf.tape, hf.output, hf.size, fun b hb hM => hf.block b hb fun ⟨x, hx, hx'⟩ => hM ?_⟩, fun x hx => ?_⟩
    · simp only [List.mem_singleton] at hx
      subst hx
      exact ⟨(id, c), by simp, hx'⟩
    · simp only [List.mem_singleton] at hx
      subst hx
      obtain ⟨cs, T, fz, h1, h2, h3, h4, h5⟩ := hE' (1000, c') (by simp)
      refine ⟨cs, T, fz, h1, h2, h3, h4, fun j hj => ?_⟩
      obtain ⟨u, hu, hr⟩ := h5 j hj
      exact ⟨u, hu, hr.mono (fun i hi => noid hc' hj i hi) (fun _ _ _ => rfl) (Nat.le_refl _) (fun b _ hb => (hA b).2 hb)⟩

/-- A LABEL that is jumped back to, by what stands behind it. -/
theorem Holds.scopeL {cx : Cx} {S : Ls} {Q : Exit → Act → World → Prop} {c rest : Code} {α : Type} (l : Nat) (I : α → Ls) (Ok : α → Prop) (μ : α → Nat) (hf : findLabel c l = some (.seq .skip rest))
    (pass : ∀ x, Ok x → Holds cx (I x) (rest.wp cx.P (Exit.jump l (fun a w => ∃ y, (Ok y ∧ Rep cx (I y) a w) ∧ μ y < μ x) Q)))
    (first : (∀ (S' : Ls) (x : α) (τ : List (Nat × Nat)), Ok x → Sub cx τ S' (I x) → Holds cx S' (rest.wp cx.P (Exit.jump l (fun a w => ∃ x, Ok x ∧ Rep cx (I x) a w) Q))) →
      Holds cx S (c.wp cx.P (Exit.jump l (fun a w => ∃ x, Ok x ∧ Rep cx (I x) a w) Q))) : Holds cx S ((Code.scope c).wp cx.P Q) := by
  refine Holds.scope l I Ok μ hf (fun x h => Holds.seq (Holds.skip (pass x h))) fun _ => first ?_
  intro S' x τ hok hsub ρ' A' a' w' hs'
  obtain ⟨ρ2, A2, hs2⟩ := hsub.rep ⟨ρ', A', hs'⟩
  refine wp_mono (pass x hok ρ2 A2 a' w' hs2) ?_
  intro e a w hq
  cases e with
  | goto l' => obtain ⟨h1, y, h2, _⟩ := hq; exact ⟨h1, y, h2⟩
  | _ => exact hq
/-- A number may be taken for one that could be below 0. -/
theorem Holds.toZ {cx : Cx} {S : Ls} {G : Act → World → Prop} (t : Nat) {x : Nat} (ht : lk t S.fr = some (.one (.n .i64 x))) (z : Int) (hz : (x : Int) = z) (h : Holds cx ⟨(t, .one (.z z)) :: S.fr, S.hp⟩ G) : Holds cx S G := by
  intro ρ A a w hs
  refine h ρ A a w ⟨hs.df, hs.sz, ?_, hs.hp, hs.sep, hs.A1, hs.O, hs.fm, hs.E⟩
  intro s v hv
  simp only [Ls.F, lk] at hv
  split at hv
  · rename_i he
    subst he
    cases hv
    have := hs.fr s _ ht
    simp only [AV.Rel, SV.Rel] at this ⊢
    rw [this.1, hz]
  · exact hs.fr s v hv

/-! ### Begin -/
theorem VC.go {P : Program} {f nt : Nat} {fn : Func} {c : Code} {args : List AV} {res : AV} {fr : List (Nat × AV)} (hf : P.funcs[f]? = some fn) (hb : fn.body = some c) (hnt : fn.ntmps = nt) (hn : Nat.ble args.length nt = true) (hfr : argsFr 0 args = fr)
    (h : ∀ (O : Nat → Prop) (w : World), Holds (cxV P nt w O) ⟨fr, []⟩ (c.wp P (bodyPost P fn fun e w' => ∃ r, e = .returned r ∧ res.Rel ρz O w' r ∧ Below w.heap.size w w'))) : VC P f args res := by
  subst hnt; subst hfr
  exact VC.enter hf hb (Nat.le_of_ble_eq_true hn) h
theorem VF.go {P : Program} {f nt : Nat} {fn : Func} {c : Code} {args : List AV} {res : AV} {k : IntKind} {xs : List Nat} {fr : List (Nat × AV)} (hf : P.funcs[f]? = some fn) (hb : fn.body = some c) (hnt : fn.ntmps = nt) (hn : Nat.ble args.length nt = true) (hfr : argsFr 0 args = fr)
    (h : ∀ (O : Nat → Prop) (w : World), Holds (cxV P nt w O) ⟨fr, []⟩ (c.wp P (bodyPost P fn fun e w' => ∃ r l, e = .returned r ∧ res.Rel (fun _ => l) O w' r ∧ Below w.heap.size w w' ∧ FreshB w.heap.size w' l k xs))) : VF P f args res k xs := by
  subst hnt; subst hfr
  exact VF.enter hf hb (Nat.le_of_ble_eq_true hn) h
theorem UC.go {P : Program} {f nt : Nat} {fn : Func} {c : Code} {args : List AV} {res : AV} {E E' : List (Nat × Cs)} {fr : List (Nat × AV)} {hp : List (Nat × Bk)} (hf : P.funcs[f]? = some fn) (hb : fn.body = some c) (hnt : fn.ntmps = nt) (hn : Nat.ble args.length nt = true) (hfr : argsFr 0 args = fr) (hhp : (E.map fun x => (x.1, Bk.own x.2)) = hp)
    (h : ∀ (ρ : Nat → Loc) (O : Nat → Prop) (w : World), Holds (cxU P nt w O ρ E) ⟨fr, hp⟩ (c.wp P (bodyPost P fn fun e w' => ∃ r, e = .returned r ∧
      res.Rel ρ (fun b => O b ∨ ∃ x ∈ E, (ρ x.1).blk = b) w' r ∧ FrameOK (fun b => ∃ x ∈ E, (ρ x.1).blk = b) w w' ∧
      (∀ x ∈ E', ∃ cs T fz, w'.heap[(ρ x.1).blk]? = some (.cells cs T fz) ∧ (ρ x.1).off + (ρ x.1).size ≤ cs.size ∧ Unfrozen fz cs.size ∧ x.2.len ≤ (ρ x.1).size ∧
        ∀ j, j < x.2.len → ∃ u, cs[(ρ x.1).off + j]? = some u ∧ (x.2.at j).Rel ρ (fun b => O b ∨ ∃ y ∈ E, (ρ y.1).blk = b) w' u)))) : UC P f args E res E' := by
  subst hnt; subst hfr; subst hhp
  exact UC.enter hf hb (Nat.le_of_ble_eq_true hn) h

/-! ### Reading and writing rows of integers -/
section
variable {cx : Cx} {ops : Array Oper} {o : Oper} {F : Nat → Option AV} {H : Nat → Option Bk}
variable {T E : TypeId} {x y : Operand} {N n by' bz i id off : Nat} {d : TypeDesc} {z zz : Cs} {k ki : IntKind} {xs : List Nat}
theorem Y.idxI (hT : TyI cx.P T (.array N E) n by' z) (hE : TyI cx.P E d 1 bz zz) (hd : TypeDesc.isAgg d = false) (hu : Up cx ops F o) (ho : o.op = .index T x y) (hx : evF F x = some (.row (.ints k xs))) (hy : evF F y = some (.one (.n ki i))) (hi : i < N) (hl : i < xs.length) :
    Doing cx ops o F H ⟨.one (.n k (xs.getD i 0)), [], []⟩ := Y.idx hT hE hd hu ho hx hy hi hl
theorem Y.ldI (hT : TyI cx.P T d n by' z) (hd : TypeDesc.isAgg d = false) (hu : Up cx ops F o) (ho : o.op = .load T x) (hx : evF F x = some (.one (.p id off))) (hb : H id = some (.own (.ints k xs))) (hl : off < xs.length) :
    Doing cx ops o F H ⟨.one (.n k (xs.getD off 0)), [], []⟩ := Y.ld hT hd hu ho hx hb hl
theorem Y.ldRI (hT : TyI cx.P T d n by' z) (hd : TypeDesc.isAgg d = true) (hu : Up cx ops F o) (ho : o.op = .load T x) (hx : evF F x = some (.one (.p id 0))) (hb : H id = some (.own (.ints k xs))) (hl : xs.length = n) (hn : n ≠ 0) :
    Doing cx ops o F H ⟨.row (.ints k xs), [], []⟩ := Y.ldAll hT hd hu ho hx hb hl hn
theorem Y.stI {v : Nat} (hT : TyI cx.P T d 1 by' z) (hu : Up cx ops F o) (ho : o.op = .store T x y) (hx : evF F x = some (.one (.p id off))) (hy : evF F y = some (.one (.n k v))) (hb : H id = some (.own (.ints k xs))) (hl : off < xs.length) :
    Doing cx ops o F H ⟨.one .u, [(id, .own (.ints k (xs.set off v)))], []⟩ := Y.st hT hu ho hx hy rfl rfl hb (Spl.n hl) (by decide)
/-- A whole row is put in another's place. -/
theorem Y.stR {c c' : Cs} (hT : TyI cx.P T d n by' z) (hu : Up cx ops F o) (ho : o.op = .store T x y) (hx : evF F x = some (.one (.p id 0))) (hy : evF F y = some (.row c')) (hc : (AV.row c').cells? = true) (hb : H id = some (.own c)) (hl : c'.len = n) (hl' : c.len = n) (hn : n ≠ 0) :
    Doing cx ops o F H ⟨.one .u, [(id, .own c')], []⟩ := Y.st hT hu ho hx hy hc hl hb (Spl.all (by rw [hl, hl'])) hn
theorem Y.ia0 (hT : TyI cx.P T (.array N E) n by' z) (hE : TyI cx.P E d 1 bz zz) (hu : Up cx ops F o) (ho : o.op = .indexAddr T x y) (hx : evF F x = some (.one (.p id 0))) (hy : evF F y = some (.one (.n k i))) (hi : i < N) :
    Doing cx ops o F H ⟨.one (.p id i), [], []⟩ := by
  have := Y.ia (H := H) hT hE hu ho hx hy hi
  rwa [Nat.zero_add] at this
theorem Y.iaN0 {sz : Nat} (hT : TyI cx.P T (.array N E) n by' z) (hE : TyI cx.P E d sz bz zz) (hu : Up cx ops F o) (ho : o.op = .indexAddr T x y) (hx : evF F x = some (.one (.p id 0))) (hy : evF F y = some (.one (.n k i))) (hi : i < N) :
    Doing cx ops o F H ⟨.one (.p id (i * sz)), [], []⟩ := by
  have := Y.iaN (H := H) hT hE hu ho hx hy hi
  rwa [Nat.zero_add] at this
theorem Y.iaSg0 {len : Nat} (hT : TyI cx.P T (.slice E) n by' z) (hE : TyI cx.P E d 1 bz zz) (hu : Up cx ops F o) (ho : o.op = .indexAddr T x y) (hx : evF F x = some (.one (.sg id 0 len))) (hy : evF F y = some (.one (.n k i))) (hi : i < len) :
    Doing cx ops o F H ⟨.one (.p id i), [], []⟩ := by
  have := Y.iaSg (H := H) hT hE hu ho hx hy hi
  rwa [Nat.zero_add] at this
theorem Y.slArr0 {lo hi : Option Operand} {l h : Nat} {c : Cs} (hT : TyI cx.P T (.array N E) n by' z) (hE : TyI cx.P E d 1 bz zz) (hu : Up cx ops F o) (ho : o.op = .slice T x lo hi none) (hx : evF F x = some (.one (.p id 0))) (hb : H id = some (.own c)) (hc : N ≤ c.len)
    (hlo : Bnd F lo 0 l) (hhi : Bnd F hi N h) (h1 : l ≤ h) (h2 : h ≤ N) : Doing cx ops o F H ⟨.one (.sg id l (h - l)), [], []⟩ := by
  have := Y.slArr (H := H) hT hE hu ho hx hb (by omega) hlo hhi h1 h2
  rwa [Nat.zero_add] at this
theorem Y.slSg0 {lo hi : Option Operand} {l h len : Nat} (hT : TyI cx.P T (.slice E) n by' z) (hE : TyI cx.P E d 1 bz zz) (hu : Up cx ops F o) (ho : o.op = .slice T x lo hi none) (hx : evF F x = some (.one (.sg id 0 len)))
    (hlo : Bnd F lo 0 l) (hhi : Bnd F hi len h) (h1 : l ≤ h) (h2 : h ≤ len) : Doing cx ops o F H ⟨.one (.sg id l (h - l)), [], []⟩ := by
  have := Y.slSg (H := H) hT hE hu ho hx hlo hhi h1 h2
  rwa [Nat.zero_add] at this
theorem Cs.sub_all (c : Cs) : c.sub 0 c.len = c := by cases c <;> simp [Cs.sub, Cs.len]
theorem Base.all {H : Nat → Option Bk} {id len : Nat} {c : Cs} (hb : H id = some (.own c)) (hl : len = c.len) : Base H (.one (.sg id 0 len)) c (some id) := by
  subst hl; exact Base.sg id 0 _ c c hb (by omega) (Cs.sub_all c).symm
theorem Src.all {H : Nat → Option Bk} {id len : Nat} {c : Cs} (hb : H id = some (.own c)) (hl : len = c.len) : Src H (.one (.sg id 0 len)) c := by
  subst hl; exact Src.sg id 0 _ (.own c) c c hb (.inl rfl) (by omega) (Cs.sub_all c).symm
theorem View.all {H : Nat → Option Bk} {id len : Nat} {k : IntKind} {xs : List Nat} (hb : H id = some (.own (.ints k xs))) (hl : len = xs.length) : View H (.one (.sg id 0 len)) (.one (.bs false k xs)) := by
  subst hl
  have := View.sg (H := H) id 0 xs.length (.own (.ints k xs)) k xs hb rfl (by omega)
  simpa using this
end
end Go.Fx

/- FxT: plain facts on lists, for the laws' plain halves and the loops' invariants. -/
namespace Go.Fx

theorem map_range_succ {α : Type} (g : Nat → α) (i : Nat) : (List.range i).map g ++ [g i] = (List.range (i + 1)).map g := by
  simp [List.range_succ]
theorem set_fill {α : Type} (g : Nat → α) (z : α) (n i : Nat) (h : i < n) : ((List.range i).map g ++ List.replicate (n - i) z).set i (g i) = (List.range (i + 1)).map g ++ List.replicate (n - (i + 1)) z := by
  rw [List.set_append_right _ _ (by simp)]
  simp only [List.length_map, List.length_range, Nat.sub_self]
  rw [show n - i = (n - (i + 1)) + 1 by omega, List.replicate_succ, List.set_cons_zero, ← map_range_succ]
  simp
theorem fill_len {α : Type} (g : Nat → α) (z : α) (n i : Nat) (h : i ≤ n) : ((List.range i).map g ++ List.replicate (n - i) z).length = n := by simp; omega
theorem fill_all {α : Type} (g : Nat → α) (z : α) (n : Nat) : (List.range n).map g ++ List.replicate (n - n) z = (List.range n).map g := by simp
theorem sgEq {id off len len' : Nat} {τ : List (Nat × Nat)} {id' : Nat} (h : len = len') (hid : rn τ id' = id) : some (AV.one (.sg id off len)) = some (AV.ren τ (.one (.sg id' off len'))) := by subst hid; rw [h]; rfl
theorem zEq {x y : Int} {τ : List (Nat × Nat)} (h : x = y) : some (AV.one (.z x)) = some (AV.ren τ (.one (.z y))) := by rw [h]; rfl
theorem getD_ge {xs : List Nat} {i : Nat} (h : xs.length ≤ i) : xs.getD i 0 = 0 := by simp [List.getD_eq_getElem?_getD, List.getElem?_eq_none h]
theorem getD_map_range {g : Nat → Nat} {n i : Nat} (h : i < n) : ((List.range n).map g).getD i 0 = g i := by simp [List.getD_eq_getElem?_getD, h]
theorem ext_getD {xs ys : List Nat} (hl : xs.length = ys.length) (h : ∀ i, i < xs.length → xs.getD i 0 = ys.getD i 0) : xs = ys := by
  apply List.ext_getElem hl
  intro i h1 h2
  have := h i h1
  simpa [List.getD_eq_getElem?_getD, h1, h2] using this
theorem getD_append_l {xs ys : List Nat} {i : Nat} (h : i < xs.length) : (xs ++ ys).getD i 0 = xs.getD i 0 := by
  simp [List.getD_eq_getElem?_getD, List.getElem?_append_left h]
theorem getD_append_r {xs ys : List Nat} {i : Nat} (h : xs.length ≤ i) : (xs ++ ys).getD i 0 = ys.getD (i - xs.length) 0 := by
  simp [List.getD_eq_getElem?_getD, List.getElem?_append_right h]
theorem getD_set_eq {xs : List Nat} {i v : Nat} (h : i < xs.length) : (xs.set i v).getD i 0 = v := by simp [List.getD_eq_getElem?_getD, h]
theorem getD_set_ne {xs : List Nat} {i j v : Nat} (h : i ≠ j) : (xs.set i v).getD j 0 = xs.getD j 0 := by simp [List.getD_eq_getElem?_getD, List.getElem?_set_ne h]
theorem getD_take {xs : List Nat} {n i : Nat} (h : i < n) : (xs.take n).getD i 0 = xs.getD i 0 := by simp [List.getD_eq_getElem?_getD, h]
theorem getD_drop {xs : List Nat} {n i : Nat} : (xs.drop n).getD i 0 = xs.getD (n + i) 0 := by simp [List.getD_eq_getElem?_getD]
theorem getD_replicate {n v i : Nat} (h : i < n) : (List.replicate n v).getD i 0 = v := by simp [List.getD_eq_getElem?_getD, h]
theorem iter_ext {α : Type} {f g : Nat → α → α} {a : α} : ∀ n, (∀ i, i < n → ∀ x, x = iter f i a → f i x = g i x) → iter f n a = iter g n a
  | 0, _ => rfl
  | n + 1, h => by
    have ih := iter_ext (f := f) (g := g) (a := a) n fun i hi x hx => h i (by omega) x hx
    simp only [iter]
    rw [h n (by omega) _ rfl, ih]
theorem iter_inv {α : Type} {f : Nat → α → α} {a : α} (p : α → Prop) (h0 : p a) (h : ∀ i x, p x → p (f i x)) : ∀ n, p (iter f n a)
  | 0 => h0
  | n + 1 => h n _ (iter_inv p h0 h n)
/-- All below M. -/
def Lt (M : Nat) (xs : List Nat) : Prop := ∀ i, xs.getD i 0 < M
theorem Lt.set {M : Nat} {xs : List Nat} (h : Lt M xs) {i v : Nat} (hv : v < M) : Lt M (xs.set i v) := by
  intro j
  by_cases hij : i = j
  · subst hij
    by_cases hl : i < xs.length
    · rw [getD_set_eq hl]; exact hv
    · rw [List.set_eq_of_length_le (by omega)]; exact h i
  · rw [getD_set_ne hij]; exact h j
theorem Lt.append {M : Nat} {xs ys : List Nat} (h : Lt M xs) (h' : Lt M ys) : Lt M (xs ++ ys) := by
  intro j
  by_cases hl : j < xs.length
  · rw [getD_append_l hl]; exact h j
  · rw [getD_append_r (by omega)]; exact h' _
theorem Lt.take {M : Nat} {xs : List Nat} (h : Lt M xs) (n : Nat) : Lt M (xs.take n) := by
  intro j
  by_cases hl : j < n
  · rw [getD_take hl]; exact h j
  · rw [getD_ge (by simp; omega)]; exact Nat.lt_of_le_of_lt (Nat.zero_le _) (h 0)
theorem Lt.drop {M : Nat} {xs : List Nat} (h : Lt M xs) (n : Nat) : Lt M (xs.drop n) := fun j => by rw [getD_drop]; exact h _
theorem Lt.replicate {M n v : Nat} (h : v < M) : Lt M (List.replicate n v) := by
  intro j
  by_cases hl : j < n
  · rw [getD_replicate hl]; exact h
  · rw [getD_ge (by simp; omega)]; omega
theorem Lt.map_range {M : Nat} {g : Nat → Nat} {n : Nat} (hM : 0 < M) (h : ∀ i, i < n → g i < M) : Lt M ((List.range n).map g) := by
  intro j
  by_cases hl : j < n
  · rw [getD_map_range hl]; exact h j hl
  · rw [getD_ge (by simp; omega)]; exact hM
theorem Lt.mem {M : Nat} {xs : List Nat} (h : Lt M xs) : ∀ x ∈ xs, x < M := by
  intro x hx
  obtain ⟨i, hi, rfl⟩ := List.getElem_of_mem hx
  have := h i
  simpa [List.getD_eq_getElem?_getD, hi] using this
theorem Lt.of_mem {M : Nat} {xs : List Nat} (hM : 0 < M) (h : ∀ x ∈ xs, x < M) : Lt M xs := by
  intro i
  by_cases hi : i < xs.length
  · have := h _ (List.getElem_mem hi)
    simpa [List.getD_eq_getElem?_getD, hi] using this
  · rw [getD_ge (by omega)]; exact hM
theorem Lt.mono {M M' : Nat} {xs : List Nat} (h : Lt M xs) (hM : M ≤ M') : Lt M' xs := fun i => Nat.lt_of_lt_of_le (h i) hM

end Go.Fx
