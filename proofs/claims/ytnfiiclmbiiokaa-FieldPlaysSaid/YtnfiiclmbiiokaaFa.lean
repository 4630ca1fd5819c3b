/-
  The own layer: abstract values, frames and heaps (part Fa).
-/
import Derived.Calls
import Derived.Orders
import Derived.Below
import Derived.Carry
import Derived.KernelRfl
import Derived.ScopeJumps
import Derived.Laws.Sem
import Derived.Laws.Cells
import Derived.Deep.MidRow
import Derived.ChangeKeysEq
import Derived.Laws.BytesArg
/- FxA: abstract values, frames and heaps over the kit's worlds; the relation between them; what keeps it. -/
namespace Go.Fx
set_option linter.unusedVariables false
set_option linter.unusedSimpArgs false
open Go.RowKit (Below)

/-- Where an abstract block lies: the first cell of its window, how many real cells may be used from there on, and whether nobody else holds it. -/
structure Loc where
  blk : Nat
  off : Nat
  size : Nat
  own : Bool

/-- A value of one cell. -/
inductive SV where
  | b (x : Bool)
  | n (k : IntKind) (x : Nat)
  | z (x : Int)
  | str (xs : List Nat)
  | nil
  | p (id off : Nat)
  | sg (id off len : Nat)
  | bs (ex : Bool) (k : IntKind) (xs : List Nat)
  | bss (ex : Bool) (xss : List (List Nat))
  | pc (k : IntKind) (x : Nat)
  | pcb (xs : List Nat)
  | fn (f : Nat) (caps : List Nat)
  | u
  | ss (xs : List (Int × Nat × Nat × Nat))
  | sp (x : Int × Nat × Nat × Nat)
  | pz (x : Int)

def SV.ids : SV → List Nat
  | .p id _ => [id]
  | .sg id _ _ => [id]
  | .fn _ caps => caps
  | _ => []

/-- A row of cells. -/
inductive Cs where
  | ints (k : IntKind) (xs : List Nat)
  | mix (l : List SV)

def Cs.len : Cs → Nat
  | .ints _ xs => xs.length
  | .mix l => l.length
def Cs.at : Cs → Nat → SV
  | .ints k xs, i => .n k (xs.getD i 0)
  | .mix l, i => l.getD i .u
def Cs.ids : Cs → List Nat
  | .ints _ _ => []
  | .mix l => l.flatMap SV.ids

inductive AV where
  | one (s : SV)
  | row (c : Cs)
  | two (a b : AV)

def AV.ids : AV → List Nat
  | .one s => s.ids
  | .row c => c.ids
  | .two a b => a.ids ++ b.ids

inductive Bk where
  | own (c : Cs)
  | grw (c : Cs)
  | dead

def Bk.ids : Bk → List Nat
  | .own c => c.ids
  | .grw c => c.ids
  | .dead => []

/-- An unsigned number is of its kind. -/
def fits (k : IntKind) (x : Nat) : Prop := k.signed = true ∨ x < 2 ^ k.bits
instance (k : IntKind) (x : Nat) : Decidable (fits k x) := by unfold fits; infer_instance

/-- The bytes' string. -/
def strOf (xs : List Nat) : ByteArray := ⟨(xs.map UInt8.ofNat).toArray⟩

/-- A slice whose cells nobody writes: n of them, each as 'cell' says, in a block that is none of A. -/
def Imm (A : Nat → Prop) (w : World) (n : Nat) (ex : Bool) (cell : Nat → Value → Prop) (v : Value) : Prop :=
  ∃ a cap, v = .slice a n cap ∧ n ≤ cap ∧ (ex = true → cap = n) ∧
    (cap = 0 ∨ ∃ b o, a = some ⟨b, o, none⟩ ∧ ¬ A b ∧ b < w.heap.size ∧ ∀ i, i < n → ∃ u, w.cell? ⟨b, o + i, none⟩ = some u ∧ cell i u)

def ImmB (A : Nat → Prop) (w : World) (ex : Bool) (k : IntKind) (xs : List Nat) (v : Value) : Prop :=
  Imm A w xs.length ex (fun i u => u = .int k (xs.getD i 0) ∧ fits k (xs.getD i 0)) v

/-- Four cells: a whole number and three bytes. -/
def TC (w : World) (b o : Nat) (x : Int × Nat × Nat × Nat) : Prop :=
  w.cell? ⟨b, o, none⟩ = some (.int .i64 x.1) ∧ (w.cell? ⟨b, o + 1, none⟩ = some (.int .u8 x.2.1) ∧ fits .u8 x.2.1) ∧ (w.cell? ⟨b, o + 2, none⟩ = some (.int .u8 x.2.2.1) ∧ fits .u8 x.2.2.1) ∧ (w.cell? ⟨b, o + 3, none⟩ = some (.int .u8 x.2.2.2) ∧ fits .u8 x.2.2.2)
/-- A slice of such, whose cells nobody writes. -/
def ImmT (A : Nat → Prop) (w : World) (xs : List (Int × Nat × Nat × Nat)) (v : Value) : Prop :=
  ∃ a cap, v = .slice a xs.length cap ∧ xs.length ≤ cap ∧ (cap = 0 ∨ ∃ b o, a = some ⟨b, o, none⟩ ∧ ¬ A b ∧ b < w.heap.size ∧ ∀ i, i < xs.length → TC w b (o + i * 4) (xs.getD i (0, 0, 0, 0)))

def SV.Rel (ρ : Nat → Loc) (A : Nat → Prop) (w : World) : SV → Value → Prop
  | .b x, v => v = .bool x
  | .n k x, v => v = .int k x ∧ fits k x
  | .z x, v => v = .int .i64 x
  | .str xs, v => v = .string (strOf xs) ∧ ∀ x ∈ xs, x < 256
  | .nil, v => ∃ a, v = .slice a 0 0
  | .p id off, v => v = .pointer (some ⟨(ρ id).blk, (ρ id).off + off, none⟩)
  | .sg id off len, v => ∃ a cap, v = .slice a len cap ∧ len ≤ cap ∧ (cap = 0 ∨ (a = some ⟨(ρ id).blk, (ρ id).off + off, none⟩ ∧ off + cap ≤ (ρ id).size))
  | .bs ex k xs, v => ImmB A w ex k xs v
  | .bss ex xss, v => Imm A w xss.length ex (fun i u => ImmB A w false .u8 (xss.getD i []) u) v
  | .pc k x, v => ∃ b o, v = .pointer (some ⟨b, o, none⟩) ∧ ¬ A b ∧ w.cell? ⟨b, o, none⟩ = some (.int k x) ∧ fits k x
  | .pcb xs, v => ∃ b o u, v = .pointer (some ⟨b, o, none⟩) ∧ ¬ A b ∧ w.cell? ⟨b, o, none⟩ = some u ∧ ImmB A w false .u8 xs u
  | .fn f caps, v => v = .func (.func f) #[] (caps.map fun id => Value.pointer (some ⟨(ρ id).blk, (ρ id).off, none⟩)).toArray
  | .u, v => v = undef
  | .ss xs, v => ImmT A w xs v
  | .sp x, v => ∃ b o, v = .pointer (some ⟨b, o, none⟩) ∧ ¬ A b ∧ TC w b o x
  | .pz x, v => ∃ b o, v = .pointer (some ⟨b, o, none⟩) ∧ ¬ A b ∧ w.cell? ⟨b, o, none⟩ = some (.int .i64 x)

def AV.Rel (ρ : Nat → Loc) (A : Nat → Prop) (w : World) : AV → Value → Prop
  | .one s, v => s.Rel ρ A w v
  | .row c, v => ∃ cs : Array Value, v = .agg cs ∧ cs.size = c.len ∧ ∀ j, j < c.len → ∃ u, cs[j]? = some u ∧ (c.at j).Rel ρ A w u
  | .two a b, v => ∃ x y, v = .tuple #[x, y] ∧ a.Rel ρ A w x ∧ b.Rel ρ A w y

/-- The frame and the heap as lists (the first entry of a key counts). -/
structure Ls where
  fr : List (Nat × AV)
  hp : List (Nat × Bk)

def lk {α : Type} (t : Nat) : List (Nat × α) → Option α
  | [] => none
  | (s, v) :: r => if t = s then some v else lk t r

theorem lk_nil {α : Type} (t : Nat) : lk t ([] : List (Nat × α)) = none := rfl
theorem lk_same {α : Type} (t : Nat) (v : α) (r : List (Nat × α)) : lk t ((t, v) :: r) = some v := by simp [lk]
theorem lk_ne {α : Type} {t s : Nat} (h : t ≠ s) (v : α) (r : List (Nat × α)) : lk t ((s, v) :: r) = lk t r := by simp [lk, h]

/-- What a call is told at its begin: the program, how many slots, the world, which blocks may not be looked through (O), which may be written (M), and the entry blocks. -/
structure Cx where
  P : Program
  nt : Nat
  w0 : World
  O : Nat → Prop
  M : Nat → Prop
  E : List Nat
  ρ0 : Nat → Loc

structure FrameOK (M : Nat → Prop) (w0 w : World) : Prop where
  os : w.os = w0.os
  tape : w.tape = w0.tape
  output : w.output = w0.output
  size : w0.heap.size ≤ w.heap.size
  block : ∀ b, b < w0.heap.size → ¬ M b → w.heap[b]? = w0.heap[b]?

def Unfrozen (fz : Nat × Nat) (n : Nat) : Prop := fz.1 = fz.2 ∨ n ≤ fz.1
theorem Unfrozen.at {fz : Nat × Nat} {n : Nat} (h : Unfrozen fz n) (i : Nat) (hi : i < n) : (decide (fz.1 ≤ i) && decide (i < fz.2)) = false := by
  rcases h with h | h
  · rw [h]; by_cases h2 : fz.2 ≤ i <;> simp [h2]
  · have h2 : ¬ fz.1 ≤ i := by omega
    simp [h2]

/-- The cells of a block of the call's own. -/
def OwnB (cx : Cx) (ρ : Nat → Loc) (A : Nat → Prop) (w : World) (l : Loc) (c : Cs) : Prop :=
  c.len ≤ l.size ∧ (l.size = 0 ∨ (l.own = true ∧ A l.blk ∧ ¬ cx.O l.blk ∧ (cx.w0.heap.size ≤ l.blk ∨ cx.M l.blk) ∧
    ∃ cs T fz, w.heap[l.blk]? = some (.cells cs T fz) ∧ l.off + l.size ≤ cs.size ∧ Unfrozen fz cs.size ∧
      ∀ j, j < c.len → ∃ u, cs[l.off + j]? = some u ∧ (c.at j).Rel ρ A w u))

def Bk.Rel (cx : Cx) (ρ : Nat → Loc) (A : Nat → Prop) (w : World) (l : Loc) : Bk → Prop
  | .own c => OwnB cx ρ A w l c
  | .grw c => OwnB cx ρ A w l c ∨ (l.own = false ∧ l.size = c.len ∧ (l.size = 0 ∨ (¬ A l.blk ∧ l.blk < w.heap.size ∧
      ∀ j, j < c.len → ∃ u, w.cell? ⟨l.blk, l.off + j, none⟩ = some u ∧ (c.at j).Rel ρ A w u)))
  | .dead => True

def Bk.live : Bk → Prop
  | .dead => False
  | _ => True

structure StRel (cx : Cx) (F : Nat → Option AV) (H : Nat → Option Bk) (a : Act) (w : World) (ρ : Nat → Loc) (A : Nat → Prop) : Prop where
  df : a.defers = []
  sz : a.tmps.size = cx.nt
  fr : ∀ t v, F t = some v → v.Rel ρ A w (a.tmps.getD t undef)
  hp : ∀ id b, H id = some b → b.Rel cx ρ A w (ρ id)
  sep : ∀ i j bi bj, H i = some bi → H j = some bj → bi.live → bj.live → i ≠ j → (ρ i).own = true → (ρ j).own = true → (ρ i).size ≠ 0 → (ρ j).size ≠ 0 → (ρ i).blk ≠ (ρ j).blk
  A1 : ∀ b, A b → b < w.heap.size
  O : ∀ b, cx.O b → A b
  fm : FrameOK cx.M cx.w0 w
  E : ∀ id ∈ cx.E, ρ id = cx.ρ0 id

def Ls.F (S : Ls) : Nat → Option AV := fun t => lk t S.fr
def Ls.H (S : Ls) : Nat → Option Bk := fun i => lk i S.hp

/-! ### What keeps a value's relation -/
theorem Imm.mono {A A' : Nat → Prop} {w w' : World} {n : Nat} {ex : Bool} {cell cell' : Nat → Value → Prop} {v : Value} (h : Imm A w n ex cell v)
    (hw : ∀ b, b < w.heap.size → ¬ A b → w'.heap[b]? = w.heap[b]?) (hs : w.heap.size ≤ w'.heap.size) (hA : ∀ b, b < w.heap.size → A' b → A b)
    (hc : ∀ i u, i < n → cell i u → cell' i u) : Imm A' w' n ex cell' v := by
  obtain ⟨a, cap, hv, hn, he, h0⟩ := h
  refine ⟨a, cap, hv, hn, he, h0.imp id ?_⟩
  rintro ⟨b, o, ha, hb, hlt, hcs⟩
  refine ⟨b, o, ha, fun h' => hb (hA b hlt h'), Nat.lt_of_lt_of_le hlt hs, fun i hi => ?_⟩
  obtain ⟨u, hu, hcu⟩ := hcs i hi
  refine ⟨u, ?_, hc i u hi hcu⟩
  rw [← hu]
  unfold World.cell?
  simp only [hw b hlt hb]

theorem ImmB.mono {A A' : Nat → Prop} {w w' : World} {ex : Bool} {k : IntKind} {xs : List Nat} {v : Value} (h : ImmB A w ex k xs v)
    (hw : ∀ b, b < w.heap.size → ¬ A b → w'.heap[b]? = w.heap[b]?) (hs : w.heap.size ≤ w'.heap.size) (hA : ∀ b, b < w.heap.size → A' b → A b) : ImmB A' w' ex k xs v :=
  Imm.mono h hw hs hA fun _ _ _ h => h

theorem cell_keep {A : Nat → Prop} {w w' : World} {b o : Nat} {u : Value} (hb : ¬ A b) (h : w.cell? ⟨b, o, none⟩ = some u)
    (hw : ∀ b, b < w.heap.size → ¬ A b → w'.heap[b]? = w.heap[b]?) : w'.cell? ⟨b, o, none⟩ = some u ∧ b < w.heap.size := by
  have hlt := World.block_lt_of_cell? _ _ h
  refine ⟨?_, hlt⟩
  rw [← h]
  unfold World.cell?
  simp only [hw b hlt hb]

theorem TC.keep {A : Nat → Prop} {w w' : World} {b o : Nat} {x : Int × Nat × Nat × Nat} (hb : ¬ A b) (h : TC w b o x) (hw : ∀ b, b < w.heap.size → ¬ A b → w'.heap[b]? = w.heap[b]?) : TC w' b o x ∧ b < w.heap.size := by
  obtain ⟨h1, ⟨h2, f2⟩, ⟨h3, f3⟩, ⟨h4, f4⟩⟩ := h
  obtain ⟨k1, hlt⟩ := cell_keep hb h1 hw
  exact ⟨⟨k1, ⟨(cell_keep hb h2 hw).1, f2⟩, ⟨(cell_keep hb h3 hw).1, f3⟩, ⟨(cell_keep hb h4 hw).1, f4⟩⟩, hlt⟩
theorem SV.Rel.mono {ρ ρ' : Nat → Loc} {A A' : Nat → Prop} {w w' : World} {s : SV} {v : Value} (h : s.Rel ρ A w v) (hρ : ∀ id ∈ s.ids, ρ' id = ρ id)
    (hw : ∀ b, b < w.heap.size → ¬ A b → w'.heap[b]? = w.heap[b]?) (hs : w.heap.size ≤ w'.heap.size) (hA : ∀ b, b < w.heap.size → A' b → A b) : s.Rel ρ' A' w' v := by
  cases s with
  | b x => exact h
  | n k x => exact h
  | z x => exact h
  | str xs => exact h
  | nil => exact h
  | p id off => simp only [SV.Rel, hρ id (by simp [SV.ids])] at h ⊢; exact h
  | sg id off len => simp only [SV.Rel, hρ id (by simp [SV.ids])] at h ⊢; exact h
  | bs ex k xs => exact ImmB.mono h hw hs hA
  | bss ex xss => exact Imm.mono h hw hs hA fun _ _ _ h => ImmB.mono h hw hs hA
  | pc k x =>
    obtain ⟨b, o, hv, hb, hc, hft⟩ := h
    obtain ⟨hc', hlt⟩ := cell_keep hb hc hw
    exact ⟨b, o, hv, fun h' => hb (hA b hlt h'), hc', hft⟩
  | pcb xs =>
    obtain ⟨b, o, u, hv, hb, hc, hi⟩ := h
    obtain ⟨hc', hlt⟩ := cell_keep hb hc hw
    exact ⟨b, o, u, hv, fun h' => hb (hA b hlt h'), hc', ImmB.mono hi hw hs hA⟩
  | fn f caps =>
    simp only [SV.Rel] at h ⊢
    rw [h]
    congr 2
    exact List.map_congr_left fun id hid => by rw [hρ id hid]
  | u => exact h
  | ss xs =>
    obtain ⟨a, cap, hv, hl, h0⟩ := h
    refine ⟨a, cap, hv, hl, h0.imp id ?_⟩
    rintro ⟨b, o, ha, hb, hlt, hc⟩
    exact ⟨b, o, ha, fun h' => hb (hA b hlt h'), Nat.lt_of_lt_of_le hlt hs, fun i hi => (TC.keep hb (hc i hi) hw).1⟩
  | sp x =>
    obtain ⟨b, o, hv, hb, hc⟩ := h
    obtain ⟨hc', hlt⟩ := TC.keep hb hc hw
    exact ⟨b, o, hv, fun h' => hb (hA b hlt h'), hc'⟩
  | pz x =>
    obtain ⟨b, o, hv, hb, hc⟩ := h
    obtain ⟨hc', hlt⟩ := cell_keep hb hc hw
    exact ⟨b, o, hv, fun h' => hb (hA b hlt h'), hc'⟩

theorem Cs.ids_at {c : Cs} {j : Nat} (h : j < c.len) {id : Nat} (hid : id ∈ (c.at j).ids) : id ∈ c.ids := by
  cases c with
  | ints k xs => simp [Cs.at, SV.ids] at hid
  | mix l =>
    simp only [Cs.at, Cs.len] at *
    simp only [Cs.ids, List.mem_flatMap]
    refine ⟨l[j], List.getElem_mem h, ?_⟩
    simpa [List.getD_eq_getElem?_getD, h] using hid

theorem AV.Rel.mono {ρ ρ' : Nat → Loc} {A A' : Nat → Prop} {w w' : World} {x : AV} : ∀ {v : Value}, x.Rel ρ A w v → (∀ id ∈ x.ids, ρ' id = ρ id) →
    (∀ b, b < w.heap.size → ¬ A b → w'.heap[b]? = w.heap[b]?) → w.heap.size ≤ w'.heap.size → (∀ b, b < w.heap.size → A' b → A b) → x.Rel ρ' A' w' v := by
  induction x with
  | one s => intro v h hρ hw hs hA; exact SV.Rel.mono h hρ hw hs hA
  | row c =>
    intro v h hρ hw hs hA
    obtain ⟨cs, hv, hl, hc⟩ := h
    refine ⟨cs, hv, hl, fun j hj => ?_⟩
    obtain ⟨u, hu, hr⟩ := hc j hj
    exact ⟨u, hu, hr.mono (fun id hid => hρ id (Cs.ids_at hj hid)) hw hs hA⟩
  | two a b iha ihb =>
    intro v h hρ hw hs hA
    obtain ⟨x, y, hv, hx, hy⟩ := h
    exact ⟨x, y, hv, iha hx (fun id hid => hρ id (by simp [AV.ids, hid])) hw hs hA, ihb hy (fun id hid => hρ id (by simp [AV.ids, hid])) hw hs hA⟩

theorem OwnB.mono {cx : Cx} {ρ ρ' : Nat → Loc} {A A' : Nat → Prop} {w w' : World} {l : Loc} {c : Cs} (h : OwnB cx ρ A w l c) (hρ : ∀ id ∈ c.ids, ρ' id = ρ id)
    (hw : ∀ b, b < w.heap.size → ¬ A b → w'.heap[b]? = w.heap[b]?) (hs : w.heap.size ≤ w'.heap.size) (hA : ∀ b, b < w.heap.size → A' b → A b)
    (hb : l.size ≠ 0 → w'.heap[l.blk]? = w.heap[l.blk]?) (hA' : l.size ≠ 0 → A' l.blk) : OwnB cx ρ' A' w' l c := by
  obtain ⟨h1, h2⟩ := h
  refine ⟨h1, ?_⟩
  rcases h2 with h2 | ⟨ho, ha, hO, hm, cs, T, fz, hh, hoff, hfz, hc⟩
  · exact .inl h2
  · by_cases hz : l.size = 0
    · exact .inl hz
    refine .inr ⟨ho, hA' hz, hO, hm, cs, T, fz, by rw [hb hz]; exact hh, hoff, hfz, fun j hj => ?_⟩
    obtain ⟨u, hu, hr⟩ := hc j hj
    exact ⟨u, hu, hr.mono (fun id hid => hρ id (Cs.ids_at hj hid)) hw hs hA⟩

theorem Bk.Rel.mono {cx : Cx} {ρ ρ' : Nat → Loc} {A A' : Nat → Prop} {w w' : World} {l : Loc} {b : Bk} (h : b.Rel cx ρ A w l) (hρ : ∀ id ∈ b.ids, ρ' id = ρ id)
    (hw : ∀ b, b < w.heap.size → ¬ A b → w'.heap[b]? = w.heap[b]?) (hs : w.heap.size ≤ w'.heap.size) (hA : ∀ b, b < w.heap.size → A' b → A b)
    (hb : b.live → l.own = true → l.size ≠ 0 → w'.heap[l.blk]? = w.heap[l.blk]?) (hA' : b.live → l.own = true → l.size ≠ 0 → A' l.blk) : b.Rel cx ρ' A' w' l := by
  have own : ∀ c, Bk.ids b = c.ids → b.live → OwnB cx ρ A w l c → OwnB cx ρ' A' w' l c := by
    intro c hc hl h
    by_cases hz : l.size = 0
    · exact ⟨h.1, .inl hz⟩
    · have ho : l.own = true := by
        rcases h.2 with h2 | h2
        · exact absurd h2 hz
        · exact h2.1
      exact h.mono (fun id hid => hρ id (by rw [hc]; exact hid)) hw hs hA (fun hz => hb hl ho hz) (fun hz => hA' hl ho hz)
  cases b with
  | own c => exact own c rfl trivial h
  | grw c =>
    rcases h with h | ⟨ho, hsz, h2⟩
    · exact .inl (own c rfl trivial h)
    · refine .inr ⟨ho, hsz, h2.imp id ?_⟩
      rintro ⟨ha, hlt, hc⟩
      refine ⟨fun h' => ha (hA _ hlt h'), Nat.lt_of_lt_of_le hlt hs, fun j hj => ?_⟩
      obtain ⟨u, hu, hr⟩ := hc j hj
      exact ⟨u, (cell_keep ha hu hw).1, hr.mono (fun id hid => hρ id (Cs.ids_at hj hid)) hw hs hA⟩
  | dead => trivial

/-- Behind anything that only makes new blocks. -/
theorem StRel.below {cx : Cx} {F : Nat → Option AV} {H : Nat → Option Bk} {a : Act} {w w' : World} {ρ : Nat → Loc} {A : Nat → Prop} (h : StRel cx F H a w ρ A) (hb : Below w.heap.size w w') : StRel cx F H a w' ρ A where
  df := h.df
  sz := h.sz
  fr := fun t v hv => (h.fr t v hv).mono (fun _ _ => rfl) (fun b hlt _ => hb.block b hlt) hb.size (fun _ _ h => h)
  hp := fun id b hv => by
    refine (h.hp id b hv).mono (fun _ _ => rfl) (fun b hlt _ => hb.block b hlt) hb.size (fun _ _ h => h) ?_ ?_
    · intro hl ho hz
      refine hb.block _ (h.A1 _ ?_)
      have := h.hp id b hv
      cases b with
      | own c => rcases this.2 with h2 | h2; exact absurd h2 hz; exact h2.2.1
      | grw c =>
        rcases this with this | ⟨ho', _⟩
        · rcases this.2 with h2 | h2; exact absurd h2 hz; exact h2.2.1
        · rw [ho] at ho'; cases ho'
      | dead => exact hl.elim
    · intro hl ho hz
      have := h.hp id b hv
      cases b with
      | own c => rcases this.2 with h2 | h2; exact absurd h2 hz; exact h2.2.1
      | grw c =>
        rcases this with this | ⟨ho', _⟩
        · rcases this.2 with h2 | h2; exact absurd h2 hz; exact h2.2.1
        · rw [ho] at ho'; cases ho'
      | dead => exact hl.elim
  sep := h.sep
  A1 := fun b hb' => Nat.lt_of_lt_of_le (h.A1 b hb') hb.size
  O := h.O
  fm := ⟨hb.os.trans h.fm.os, hb.tape.trans h.fm.tape, hb.output.trans h.fm.output, Nat.le_trans h.fm.size hb.size,
    fun b hlt hm => (hb.block b (Nat.lt_of_lt_of_le hlt h.fm.size)).trans (h.fm.block b hlt hm)⟩
  E := h.E

/-- A live block of the call's own lies in A. -/
theorem StRel.liveA {cx : Cx} {F : Nat → Option AV} {H : Nat → Option Bk} {a : Act} {w : World} {ρ : Nat → Loc} {A : Nat → Prop} (h : StRel cx F H a w ρ A) {id : Nat} {b : Bk} (hb : H id = some b)
    (hl : b.live) (ho : (ρ id).own = true) (hz : (ρ id).size ≠ 0) : A (ρ id).blk := by
  have := h.hp id b hb
  cases b with
  | own c => rcases this.2 with h2 | h2; exact absurd h2 hz; exact h2.2.1
  | grw c =>
    rcases this with this | ⟨ho', _⟩
    · rcases this.2 with h2 | h2; exact absurd h2 hz; exact h2.2.1
    · rw [ho] at ho'; cases ho'
  | dead => exact hl.elim

def upd {α : Type} (f : Nat → Option α) (d : Nat) (v : α) : Nat → Option α := fun t => if t = d then some v else f t
def upd' (f : Nat → Loc) (d : Nat) (v : Loc) : Nat → Loc := fun t => if t = d then v else f t
def updO {α : Type} (f : Nat → Option α) (d : Option Nat) (v : α) : Nat → Option α := match d with | some d => upd f d v | none => f

theorem Act.getD_put_same {a : Act} {d : Nat} {v : Value} (h : d < a.tmps.size) : (a.put (some d) v).tmps.getD d undef = v := by
  simp [Act.put, Array.getD, h]
theorem Act.getD_put_ne {a : Act} {d t : Nat} {v : Value} (h : t ≠ d) : (a.put (some d) v).tmps.getD t undef = a.tmps.getD t undef := by
  simp only [Act.put, Array.getD_eq_getD_getElem?]
  rw [Array.getElem?_setIfInBounds_ne (by omega)]

/-- A slot is given a value. -/
theorem StRel.put {cx : Cx} {F : Nat → Option AV} {H : Nat → Option Bk} {a : Act} {w : World} {ρ : Nat → Loc} {A : Nat → Prop} (h : StRel cx F H a w ρ A) {d : Option Nat} {v : AV} {u : Value}
    (hd : ∀ t, d = some t → t < cx.nt) (hv : v.Rel ρ A w u) : StRel cx (updO F d v) H (a.put d u) w ρ A := by
  cases d with
  | none => exact h
  | some d =>
    have hd' : d < a.tmps.size := by rw [h.sz]; exact hd d rfl
    refine ⟨h.df, by simp [Act.put, h.sz], ?_, h.hp, h.sep, h.A1, h.O, h.fm, h.E⟩
    intro t x hx
    simp only [updO, upd] at hx
    split at hx
    · rename_i he
      subst he
      cases hx
      rw [Act.getD_put_same hd']
      exact hv
    · rename_i hne
      rw [Act.getD_put_ne hne]
      exact h.fr t x hx

/-- Less is known. -/
theorem StRel.sub {cx : Cx} {F F' : Nat → Option AV} {H H' : Nat → Option Bk} {a : Act} {w : World} {ρ : Nat → Loc} {A : Nat → Prop} (h : StRel cx F H a w ρ A)
    (hF : ∀ t v, F' t = some v → F t = some v) (hH : ∀ i b, H' i = some b → H i = some b) : StRel cx F' H' a w ρ A :=
  ⟨h.df, h.sz, fun t v hv => h.fr t v (hF t v hv), fun i b hb => h.hp i b (hH i b hb), fun i j bi bj hi hj => h.sep i j bi bj (hH _ _ hi) (hH _ _ hj), h.A1, h.O, h.fm, h.E⟩

end Go.Fx

/- FxB: what one operation does to an abstract state ('Doing'); regions in text order, and regions that draw their order. -/
namespace Go.Fx
open Go.RowKit (Below)

/-- What an operation leaves: its value, blocks that are new or turned (the first entry of a key counts), and the keys that must be fresh. -/
structure Ent where
  av : AV
  up : List (Nat × Bk)
  fresh : List Nat

def ovr (up : List (Nat × Bk)) (H : Nat → Option Bk) : Nat → Option Bk := fun i => match lk i up with | some b => some b | none => H i

structure Nom (cx : Cx) (d : Nat) (F : Nat → Option AV) (H : Nat → Option Bk) : Prop where
  e : d ∉ cx.E
  h : H d = none
  f : ∀ t v, F t = some v → d ∉ v.ids
  g : ∀ i b, H i = some b → d ∉ b.ids

def StepOp (P : Program) (ops : Array Oper) (o : Oper) (a : Act) (w : World) (K : Act → World → Prop) (Q : Exit → Act → World → Prop) : Prop :=
  if Region.wanted o (yielded ops a.tmps) = true then o.wp P a w K Q else K (a.put o.dst undef) w

def Doing (cx : Cx) (ops : Array Oper) (o : Oper) (F : Nat → Option AV) (H : Nat → Option Bk) (e : Ent) : Prop :=
  ∀ F' H', (∀ t v, F t = some v → F' t = some v) → (∀ i b, H i = some b → H' i = some b) → (∀ d ∈ e.fresh, Nom cx d F' H') →
    ∀ ρ A a w, StRel cx F' H' a w ρ A → ∀ (K : Act → World → Prop) (Q : Exit → Act → World → Prop),
      (∀ v w' ρ' A', StRel cx (updO F' o.dst e.av) (ovr e.up H') (a.put o.dst v) w' ρ' A' → K (a.put o.dst v) w') → StepOp cx.P ops o a w K Q

def Ls.eff (S : Ls) (d : Option Nat) (e : Ent) : Ls :=
  ⟨match d with | some d => (d, e.av) :: S.fr | none => S.fr, e.up ++ S.hp⟩
def Ls.del (S : Ls) (ds : List Nat) : Ls :=
  ⟨S.fr.filter fun x => !ds.contains x.1, S.hp.filter fun x => !ds.contains x.1⟩

theorem Ls.F_eff (S : Ls) (d : Option Nat) (e : Ent) : (S.eff d e).F = updO S.F d e.av := by
  cases d with
  | none => rfl
  | some d => funext t; simp only [Ls.F, Ls.eff, updO, upd, lk]
theorem lk_append {α : Type} (t : Nat) (l r : List (Nat × α)) : lk t (l ++ r) = match lk t l with | some b => some b | none => lk t r := by
  induction l with
  | nil => rfl
  | cons x l ih =>
    obtain ⟨s, v⟩ := x
    simp only [List.cons_append, lk]
    split
    · rfl
    · exact ih
theorem Ls.H_eff (S : Ls) (d : Option Nat) (e : Ent) : (S.eff d e).H = ovr e.up S.H := by
  funext i; simp only [Ls.H, Ls.eff, ovr, lk_append]; cases lk i e.up <;> rfl
theorem lk_filter {α : Type} {t : Nat} {ds : List Nat} {v : α} : ∀ {l : List (Nat × α)}, lk t (l.filter fun x => !ds.contains x.1) = some v → lk t l = some v ∧ t ∉ ds
  | [], h => by simp [lk] at h
  | (s, x) :: l, h => by
    by_cases hs : ds.contains s = true
    · rw [List.filter_cons_of_neg (by simpa using hs)] at h
      obtain ⟨h1, h2⟩ := lk_filter h
      have : t ≠ s := fun he => h2 (by subst he; simpa using hs)
      exact ⟨by simp only [lk]; rw [if_neg this]; exact h1, h2⟩
    · rw [List.filter_cons_of_pos (by simpa using hs)] at h
      simp only [lk] at h ⊢
      split at h
      · rename_i he
        refine ⟨by simpa [he] using h, by subst he; simpa using hs⟩
      · rename_i he
        obtain ⟨h1, h2⟩ := lk_filter h
        exact ⟨by rw [if_neg he]; exact h1, h2⟩
theorem lk_mem {α : Type} {t : Nat} {v : α} : ∀ {l : List (Nat × α)}, lk t l = some v → (t, v) ∈ l
  | [], h => by simp [lk] at h
  | (s, x) :: l, h => by
    simp only [lk] at h
    split at h
    · rename_i he; cases h; subst he; exact List.mem_cons_self
    · exact List.mem_cons_of_mem _ (lk_mem h)

/-- Is d mentioned nowhere (in any entry)? -/
def Ls.nomB (S : Ls) (E : List Nat) (d : Nat) : Bool :=
  !E.contains d && S.fr.all (fun x => !x.2.ids.contains d) && S.hp.all (fun x => x.1 != d && !x.2.ids.contains d)

theorem Ls.nomB_spec {S : Ls} {cx : Cx} {d : Nat} (h : S.nomB cx.E d = true) : Nom cx d S.F S.H := by
  simp only [Ls.nomB, Bool.and_eq_true, Bool.not_eq_true', List.all_eq_true, List.contains_eq_mem, decide_eq_false_iff_not, bne_iff_ne, ne_eq] at h
  obtain ⟨⟨h1, h2⟩, h3⟩ := h
  refine ⟨h1, ?_, fun t v hv => h2 _ (lk_mem hv), fun i b hb => (h3 _ (lk_mem hb)).2⟩
  cases hh : S.H d with
  | none => rfl
  | some b => exact absurd rfl (h3 _ (lk_mem hh)).1

/-- Whatever a state stands for: there G holds. -/
def Holds (cx : Cx) (S : Ls) (G : Act → World → Prop) : Prop := ∀ ρ A a w, StRel cx S.F S.H a w ρ A → G a w

theorem StepOp.wpOp {P : Program} {ops : Array Oper} {Q : Exit → Act → World → Prop} {i : Nat} {o : Oper} {K : Act → World → Prop} {a : Act} {w : World} (ho : ops[i]? = some o)
    (h : StepOp P ops o a w K Q) : Go.wpOp P ops Q i K a w := by
  unfold Go.wpOp
  rw [ho]
  unfold StepOp at h
  show if Region.wanted o (yielded ops a.tmps) = true then _ else _
  split
  · rename_i hw; rw [if_pos hw] at h; exact .inl h
  · rename_i hw; rw [if_neg hw] at h; exact h

/-- ONE OPERATION, in the text's order. -/
theorem Holds.op {cx : Cx} {S : Ls} {ops : Array Oper} {Q : Exit → Act → World → Prop} {i : Nat} {l : List Nat} {o : Oper} {e : Ent} (ho : ops[i]? = some o)
    (hd : Doing cx ops o S.F S.H e) (hf : e.fresh.all (S.nomB cx.E) = true) (hk : Holds cx (S.eff o.dst e) (wpOps cx.P ops Q l)) : Holds cx S (wpOps cx.P ops Q (i :: l)) := by
  intro ρ A a w hs
  rw [wpOps_cons]
  refine StepOp.wpOp ho (hd S.F S.H (fun _ _ h => h) (fun _ _ h => h) (fun d hd' => Ls.nomB_spec (List.all_eq_true.1 hf d hd')) ρ A a w hs _ _ ?_)
  intro v w' ρ' A' hs'
  refine hk ρ' A' _ _ ?_
  rw [Ls.F_eff, Ls.H_eff]
  exact hs'

theorem Holds.ops_nil {cx : Cx} {S : Ls} {ops : Array Oper} {Q : Exit → Act → World → Prop} (h : Holds cx S (Q .normal)) : Holds cx S (wpOps cx.P ops Q []) :=
  fun ρ A a w hs => h ρ A a w hs

/-! ### A region that draws its order -/
section draw
variable (cx : Cx) (ops : Array Oper)

/-- The certificate: operation by operation, in the text's order; 'ks': what each may touch (its slot, its blocks), 'ds': what stands in no order to it. -/
def Cert : Nat → Ls → List (Ent × List Nat × List Nat) → Prop
  | k, _, [] => k = ops.size
  | k, S, (e, ks, ds) :: r => ∃ o, ops[k]? = some o ∧ Doing cx ops o (S.del ds).F (S.del ds).H e ∧
      (e.fresh.all (S.nomB cx.E) = true ∧ ((match o.dst with | some d => ks.contains d | none => true) && e.fresh.all ks.contains && e.up.all (fun x => ks.contains x.1)) = true ∧
        (ds.all (fun d => !e.av.ids.contains d && e.up.all (fun x => x.1 != d && !x.2.ids.contains d)) && (match o.dst with | some d => !ds.contains d | none => true)) = true) ∧
      Cert (k + 1) (S.eff o.dst e) r

def effAll : Nat → Ls → List (Ent × List Nat × List Nat) → Ls
  | _, S, [] => S
  | k, S, (e, _, _) :: r => effAll (k + 1) (S.eff ((ops[k]?).bind (·.dst)) e) r

/-- What stands ahead of each operation, as lists. -/
def befL (l : List Oper) : List (List Nat) :=
  l.foldl (init := []) fun acc o =>
    acc ++ [o.after.toList.foldl (init := []) fun s e => if Region.binds .any e then (e.on :: acc.getD e.on []).foldl (fun s j => if s.contains j then s else j :: s) s else s]

def befOK (l : List Oper) (bs : List (List Nat)) : Bool :=
  (List.range l.length).all fun i => ((l[i]?).map fun o => o.after.all fun e => !Region.binds .any e || decide (e.on < i)).getD false && (bs.getD i []).all fun j =>
    decide (j < i) && ((l[i]?).map fun o => o.after.any fun e => Region.binds .any e && (e.on == j || (decide (e.on < i) && (bs.getD e.on []).contains j))).getD false

def chkB (l : List Oper) (bs : List (List Nat)) (info : List (List Nat × List Nat)) : Bool :=
  befOK l bs && (List.range l.length).all fun i => (List.range l.length).all fun j =>
    i == j || (bs.getD i []).contains j || (bs.getD j []).contains i || ((info.getD j ([], [])).1).all ((info.getD i ([], [])).2).contains

end draw

/-- D holds with each operation what stands ahead of it. -/
theorem bef_in {l : List Oper} {bs : List (List Nat)} (h : befOK l bs = true) {D : Nat → Bool}
    (hD : ∀ i o, D i = true → l[i]? = some o → ∀ e ∈ o.after, Region.binds .any e = true → D e.on = true) :
    ∀ i, (∀ o, l[i]? = some o → ∀ e ∈ o.after, Region.binds .any e = true → D e.on = true) → i < l.length → ∀ j ∈ bs.getD i [], D j = true := by
  intro i
  induction i using Nat.strongRecOn with
  | _ i ih =>
    intro hi hlt j hj
    have h0 := List.all_eq_true.1 h i (by simpa using hlt)
    rw [Bool.and_eq_true] at h0
    have h1 := List.all_eq_true.1 h0.2 j hj
    rw [Bool.and_eq_true] at h1
    replace h1 := h1.2
    obtain ⟨o, ho⟩ : ∃ o, l[i]? = some o := ⟨l[i], by simp [hlt]⟩
    simp only [ho, Option.map_some, Option.getD_some, Array.any_eq_true', Bool.and_eq_true, Bool.or_eq_true, beq_iff_eq, decide_eq_true_eq, List.contains_eq_mem] at h1
    obtain ⟨e, he, hb, h2⟩ := h1
    have hDe := hi o ho e he hb
    rcases h2 with rfl | ⟨hlt', hj'⟩
    · exact hDe
    · exact ih e.on hlt' (fun o' ho' => hD e.on o' hDe ho') (by omega) j (by simpa using hj')

section fold
variable (ops : List Oper) (es : List (Ent × List Nat × List Nat))
def dstAt (k : Nat) : Option Nat := (ops[k]?).bind (·.dst)
def avAt (k : Nat) : AV := ((es[k]?).map (·.1.av)).getD (.one .u)
def upAt (k : Nat) : List (Nat × Bk) := ((es[k]?).map (·.1.up)).getD []
def EF (D : Nat → Bool) (F : Nat → Option AV) : Nat → Nat → Option AV
  | 0 => F
  | k + 1 => if D k then updO (EF D F k) (dstAt ops k) (avAt es k) else EF D F k
def EH (D : Nat → Bool) (H : Nat → Option Bk) : Nat → Nat → Option Bk
  | 0 => H
  | k + 1 => if D k then ovr (upAt es k) (EH D H k) else EH D H k
variable {ops es}
theorem updO_ne {α : Type} {f : Nat → Option α} {d : Option Nat} {v : α} {t : Nat} (h : d ≠ some t) : updO f d v t = f t := by
  cases d with
  | none => rfl
  | some d => simp only [updO, upd]; rw [if_neg fun he => h (by rw [he])]
theorem ovr_ne {up : List (Nat × Bk)} {H : Nat → Option Bk} {i : Nat} (h : ∀ x ∈ up, x.1 ≠ i) : ovr up H i = H i := by
  unfold ovr
  cases hh : lk i up with
  | none => rfl
  | some b => exact absurd rfl (h _ (lk_mem hh))
theorem EF_same {D D' : Nat → Bool} {F : Nat → Option AV} {t : Nat} : ∀ k, (∀ j, j < k → D j ≠ D' j → dstAt ops j ≠ some t) → EF ops es D F k t = EF ops es D' F k t
  | 0, _ => rfl
  | k + 1, h => by
    have ih := EF_same (F := F) k fun j hj => h j (by omega)
    simp only [EF]
    by_cases hd : dstAt ops k = some t
    · have : D k = D' k := by
        cases h1 : D k <;> cases h2 : D' k <;> first | rfl | exact absurd hd (h k (by omega) (by simp [h1, h2]))
      rw [this]
      split
      · rw [hd]; simp [updO, upd]
      · exact ih
    · have e1 : ∀ (c : Bool) (f : Nat → Option AV), (if c then updO f (dstAt ops k) (avAt es k) else f) t = f t := by
        intro c f; cases c
        · rfl
        · exact updO_ne hd
      rw [e1, e1]; exact ih
theorem EH_same {D D' : Nat → Bool} {H : Nat → Option Bk} {i : Nat} : ∀ k, (∀ j, j < k → D j ≠ D' j → ∀ x ∈ upAt es j, x.1 ≠ i) → EH es D H k i = EH es D' H k i
  | 0, _ => rfl
  | k + 1, h => by
    have ih := EH_same (H := H) k fun j hj => h j (by omega)
    simp only [EH]
    by_cases hd : D k = D' k
    · rw [hd]
      split
      · unfold ovr; rw [ih]
      · exact ih
    · have hx := h k (by omega) hd
      have e1 : ∀ (c : Bool) (f : Nat → Option Bk), (if c then ovr (upAt es k) f else f) i = f i := by
        intro c f; cases c
        · rfl
        · exact ovr_ne hx
      rw [e1, e1]; exact ih
theorem EF_stop {D : Nat → Bool} {F : Nat → Option AV} {i : Nat} (hD : ∀ j, i ≤ j → D j = false) : ∀ m, EF ops es D F (i + m) = EF ops es D F i
  | 0 => rfl
  | m + 1 => by
    rw [← Nat.add_assoc]
    simp only [EF]
    rw [hD _ (by omega)]
    exact EF_stop hD m
theorem EH_stop {D : Nat → Bool} {H : Nat → Option Bk} {i : Nat} (hD : ∀ j, i ≤ j → D j = false) : ∀ m, EH es D H (i + m) = EH es D H i
  | 0 => rfl
  | m + 1 => by
    rw [← Nat.add_assoc]
    simp only [EH]
    rw [hD _ (by omega)]
    exact EH_stop hD m
/-- One more, whose slot no later one of D has. -/
theorem EF_add {D : Nat → Bool} {F : Nat → Option AV} {i : Nat} (hi : D i = false) {n : Nat} (hn : i < n) (hl : ∀ j, i < j → j < n → D j = true → ∀ t, dstAt ops i = some t → dstAt ops j ≠ some t) :
    EF ops es (fun j => j == i || D j) F n = updO (EF ops es D F n) (dstAt ops i) (avAt es i) := by
  funext t
  by_cases hd : dstAt ops i = some t
  · have key : ∀ m, i + 1 + m ≤ n → EF ops es (fun j => j == i || D j) F (i + 1 + m) t = some (avAt es i) := by
      intro m
      induction m with
      | zero =>
        intro _
        simp only [EF, beq_self_eq_true, Bool.true_or, if_true]
        rw [hd]; simp [updO, upd]
      | succ m ih =>
        intro hm
        rw [← Nat.add_assoc]
        simp only [EF]
        split
        · rename_i hj
          have hne : (i + 1 + m == i) = false := by simp; omega
          rw [hne, Bool.false_or] at hj
          rw [updO_ne (hl _ (by omega) (by omega) hj t hd)]
          exact ih (by omega)
        · exact ih (by omega)
    have := key (n - (i + 1)) (by omega)
    rw [show i + 1 + (n - (i + 1)) = n from by omega] at this
    rw [this, hd]; simp [updO, upd]
  · rw [updO_ne hd]
    refine EF_same n fun j _ hne => ?_
    by_cases hji : j = i
    · subst hji; exact hd
    · exact absurd (by simp [hji]) hne
theorem EH_add {D : Nat → Bool} {H : Nat → Option Bk} {i : Nat} (hi : D i = false) {n : Nat} (hn : i < n) (hl : ∀ j, i < j → j < n → D j = true → ∀ x ∈ upAt es i, ∀ y ∈ upAt es j, y.1 ≠ x.1) :
    EH es (fun j => j == i || D j) H n = ovr (upAt es i) (EH es D H n) := by
  funext t
  cases hu : lk t (upAt es i) with
  | some b =>
    have hmem := lk_mem hu
    have key : ∀ m, i + 1 + m ≤ n → EH es (fun j => j == i || D j) H (i + 1 + m) t = some b := by
      intro m
      induction m with
      | zero =>
        intro _
        simp only [EH, beq_self_eq_true, Bool.true_or, if_true]
        simp [ovr, hu]
      | succ m ih =>
        intro hm
        rw [← Nat.add_assoc]
        simp only [EH]
        split
        · rename_i hj
          have hne : (i + 1 + m == i) = false := by simp; omega
          rw [hne, Bool.false_or] at hj
          rw [ovr_ne fun y hy => hl _ (by omega) (by omega) hj _ hmem y hy]
          exact ih (by omega)
        · exact ih (by omega)
    have := key (n - (i + 1)) (by omega)
    rw [show i + 1 + (n - (i + 1)) = n from by omega] at this
    rw [this]; simp [ovr, hu]
  | none =>
    have hx : ∀ x ∈ upAt es i, x.1 ≠ t := by
      intro x hx he
      subst he
      have : ∀ (l : List (Nat × Bk)), x ∈ l → lk x.1 l ≠ none := by
        intro l
        induction l with
        | nil => intro h; cases h
        | cons y l ih =>
          intro h
          obtain ⟨s, v⟩ := y
          simp only [lk]
          split
          · simp
          · rename_i hne
            rcases List.mem_cons.1 h with h | h
            · subst h; exact absurd rfl hne
            · exact ih h
      exact this _ hx hu
    have e0 : ovr (upAt es i) (EH es D H n) t = EH es D H n t := ovr_ne hx
    rw [e0]
    refine EH_same n fun j _ hne => ?_
    by_cases hji : j = i
    · subst hji; exact hx
    · exact absurd (by simp [hji]) hne
end fold

/-- What the certificate says of its k-th operation. -/
theorem Cert.at {cx : Cx} {ops : Array Oper} : ∀ (es : List (Ent × List Nat × List Nat)) (k : Nat) (S : Ls), Cert cx ops k S es → k + es.length = ops.size ∧
    ∀ j e ks ds, es[j]? = some (e, ks, ds) → ∃ o, ops[k + j]? = some o ∧
      Doing cx ops o ((effAll ops k S (es.take j)).del ds).F ((effAll ops k S (es.take j)).del ds).H e ∧
      (e.fresh.all ((effAll ops k S (es.take j)).nomB cx.E) = true ∧ ((match o.dst with | some d => ks.contains d | none => true) && e.fresh.all ks.contains && e.up.all (fun x => ks.contains x.1)) = true ∧
        (ds.all (fun d => !e.av.ids.contains d && e.up.all (fun x => x.1 != d && !x.2.ids.contains d)) && (match o.dst with | some d => !ds.contains d | none => true)) = true)
  | [], k, S, h => ⟨by simpa [Cert] using h, fun j e ks ds hj => by simp at hj⟩
  | (e, ks, ds) :: r, k, S, h => by
    obtain ⟨o, ho, hd, hc, hr⟩ := h
    obtain ⟨h1, h2⟩ := Cert.at r (k + 1) _ hr
    refine ⟨by simp only [List.length_cons]; omega, ?_⟩
    intro j e' ks' ds' hj
    cases j with
    | zero =>
      simp only [List.getElem?_cons_zero, Option.some.injEq, Prod.mk.injEq] at hj
      obtain ⟨rfl, rfl, rfl⟩ := hj
      exact ⟨o, ho, hd, hc⟩
    | succ j =>
      simp only [List.getElem?_cons_succ] at hj
      obtain ⟨o', ho', hh⟩ := h2 j e' ks' ds' hj
      refine ⟨o', by rw [← ho']; congr 1; omega, ?_⟩
      simpa only [List.take_succ_cons, effAll, ho, Option.bind_some] using hh

theorem effAll_FH {ops : Array Oper} : ∀ (es : List (Ent × List Nat × List Nat)) (k : Nat) (S : Ls),
    (∀ j, j < es.length → True) → ((effAll ops k S es).F = EF (ops.toList.drop k) es (fun _ => true) S.F es.length ∧ (effAll ops k S es).H = EH es (fun _ => true) S.H es.length) := by
  -- by snoc: effAll over es ++ [x]
  have snoc : ∀ (es : List (Ent × List Nat × List Nat)) (x : Ent × List Nat × List Nat) (k : Nat) (S : Ls),
      effAll ops k S (es ++ [x]) = (effAll ops k S es).eff ((ops[k + es.length]?).bind (·.dst)) x.1 := by
    intro es
    induction es with
    | nil => intro x k S; obtain ⟨e, ks, ds⟩ := x; rfl
    | cons y es ih =>
      intro x k S
      obtain ⟨e, ks, ds⟩ := y
      simp only [List.cons_append, effAll, List.length_cons]
      rw [ih]
      rw [show k + 1 + es.length = k + (es.length + 1) from by omega]
  have congrF : ∀ (l : List Oper) (es es' : List (Ent × List Nat × List Nat)) (F : Nat → Option AV) (n : Nat), (∀ j, j < n → es[j]? = es'[j]?) → EF l es (fun _ => true) F n = EF l es' (fun _ => true) F n := by
    intro l es es' F n
    induction n with
    | zero => intro _; rfl
    | succ n ih =>
      intro h
      simp only [EF, if_true]
      rw [ih fun j hj => h j (by omega)]
      simp only [avAt, h n (by omega)]
  have congrH : ∀ (es es' : List (Ent × List Nat × List Nat)) (H : Nat → Option Bk) (n : Nat), (∀ j, j < n → es[j]? = es'[j]?) → EH es (fun _ => true) H n = EH es' (fun _ => true) H n := by
    intro es es' H n
    induction n with
    | zero => intro _; rfl
    | succ n ih =>
      intro h
      simp only [EH, if_true]
      rw [ih fun j hj => h j (by omega)]
      simp only [upAt, h n (by omega)]
  suffices H : ∀ (n : Nat) (es : List (Ent × List Nat × List Nat)), es.length = n → ∀ (k : Nat) (S : Ls), ((effAll ops k S es).F = EF (ops.toList.drop k) es (fun _ => true) S.F es.length ∧ (effAll ops k S es).H = EH es (fun _ => true) S.H es.length) from
    fun es k S _ => H es.length es rfl k S
  intro n
  induction n with
  | zero => intro es hes k S; obtain rfl : es = [] := List.length_eq_zero_iff.1 hes; exact ⟨rfl, rfl⟩
  | succ n ih =>
    intro es hes k S
    obtain ⟨es', x, rfl⟩ : ∃ es' x, es = es' ++ [x] := ⟨es.dropLast, es.getLast (by intro h; simp [h] at hes), (List.dropLast_concat_getLast _).symm⟩
    have hl : es'.length = n := by simpa using hes
    obtain ⟨h1, h2⟩ := ih es' hl k S
    rw [snoc, Ls.F_eff, Ls.H_eff, h1, h2]
    have hx : (es' ++ [x])[es'.length]? = some x := by simp
    constructor
    · simp only [List.length_append, List.length_singleton, EF, if_true]
      rw [congrF _ es' (es' ++ [x]) _ _ fun j hj => (List.getElem?_append_left hj).symm]
      congr 1
      · simp [dstAt]
      · simp [avAt]
    · simp only [List.length_append, List.length_singleton, EH, if_true]
      rw [congrH es' (es' ++ [x]) _ _ fun j hj => (List.getElem?_append_left hj).symm]
      simp [upAt]

theorem befOK_of_chk {l : List Oper} {bs : List (List Nat)} {info : List (List Nat × List Nat)} (h : chkB l bs info = true) : befOK l bs = true ∧
    ∀ i j, i < l.length → j < l.length → i ≠ j → j ∉ bs.getD i [] → i ∉ bs.getD j [] → ∀ x ∈ (info.getD j ([], [])).1, x ∈ (info.getD i ([], [])).2 := by
  simp only [chkB, Bool.and_eq_true] at h
  refine ⟨h.1, fun i j hi hj hne h1 h2 x hx => ?_⟩
  have h3 := List.all_eq_true.1 (List.all_eq_true.1 h.2 i (by simpa using hi)) j (by simpa using hj)
  simp only [Bool.or_eq_true, beq_iff_eq, List.contains_eq_mem, decide_eq_true_eq] at h3
  rcases h3 with ((h3 | h3) | h3) | h3
  · exact absurd h3 hne
  · exact absurd h3 h1
  · exact absurd h3 h2
  · simpa using List.all_eq_true.1 h3 x hx

theorem bef_lt {l : List Oper} {bs : List (List Nat)} (h : befOK l bs = true) {i j : Nat} (hi : i < l.length) (hj : j ∈ bs.getD i []) : j < i := by
  have h0 := List.all_eq_true.1 h i (by simpa using hi)
  rw [Bool.and_eq_true] at h0
  have h1 := List.all_eq_true.1 h0.2 j hj
  rw [Bool.and_eq_true] at h1
  simpa using h1.1

theorem edge_lt {l : List Oper} {bs : List (List Nat)} (h : befOK l bs = true) {i : Nat} {o : Oper} (ho : l[i]? = some o) : ∀ e ∈ o.after, Region.binds .any e = true → e.on < i := by
  have hi : i < l.length := by
    rcases Nat.lt_or_ge i l.length with h | h
    · exact h
    · simp [List.getElem?_eq_none h] at ho
  have h0 := List.all_eq_true.1 h i (by simpa using hi)
  rw [Bool.and_eq_true] at h0
  have h1 := h0.1
  simp only [ho, Option.map_some, Option.getD_some, Array.all_eq_true'] at h1
  intro e he hb
  have := h1 e he
  simpa [hb] using this

theorem effAll_mem {ops : Array Oper} : ∀ (es : List (Ent × List Nat × List Nat)) (k : Nat) (S : Ls), (∀ x ∈ S.fr, x ∈ (effAll ops k S es).fr) ∧ (∀ x ∈ S.hp, x ∈ (effAll ops k S es).hp) ∧
    ∀ j e ks ds, es[j]? = some (e, ks, ds) → (∀ t, (ops[k + j]?).bind (·.dst) = some t → (t, e.av) ∈ (effAll ops k S es).fr) ∧ (∀ x ∈ e.up, x ∈ (effAll ops k S es).hp)
  | [], k, S => ⟨fun _ h => h, fun _ h => h, fun j e ks ds h => by simp at h⟩
  | (e, ks, ds) :: r, k, S => by
    obtain ⟨h1, h2, h3⟩ := effAll_mem (ops := ops) r (k + 1) (S.eff ((ops[k]?).bind (·.dst)) e)
    refine ⟨fun x hx => h1 x ?_, fun x hx => h2 x (List.mem_append_right _ hx), ?_⟩
    · simp only [Ls.eff]; split
      · exact List.mem_cons_of_mem _ hx
      · exact hx
    · intro j e' ks' ds' hj
      cases j with
      | zero =>
        simp only [List.getElem?_cons_zero, Option.some.injEq, Prod.mk.injEq] at hj
        obtain ⟨rfl, rfl, rfl⟩ := hj
        refine ⟨fun t ht => h1 _ ?_, fun x hx => h2 _ (List.mem_append_left _ hx)⟩
        rw [Nat.add_zero] at ht
        rw [ht]; exact List.mem_cons_self
      | succ j =>
        simp only [List.getElem?_cons_succ] at hj
        have := h3 j e' ks' ds' hj
        rw [show k + 1 + j = k + (j + 1) by omega] at this
        exact this

theorem EF_cases {ops : List Oper} {es : List (Ent × List Nat × List Nat)} {D : Nat → Bool} {F : Nat → Option AV} {t : Nat} {v : AV} : ∀ n, EF ops es D F n t = some v → F t = some v ∨ ∃ j, j < n ∧ D j = true ∧ dstAt ops j = some t ∧ v = avAt es j
  | 0, h => .inl h
  | n + 1, h => by
    simp only [EF] at h
    split at h
    · rename_i hd
      by_cases ht : dstAt ops n = some t
      · rw [ht] at h
        simp [updO, upd] at h
        exact .inr ⟨n, by omega, hd, ht, h.symm⟩
      · rw [updO_ne ht] at h
        rcases EF_cases n h with h | ⟨j, hj, h⟩
        · exact .inl h
        · exact .inr ⟨j, by omega, h⟩
    · rcases EF_cases n h with h | ⟨j, hj, h⟩
      · exact .inl h
      · exact .inr ⟨j, by omega, h⟩
theorem EH_cases {es : List (Ent × List Nat × List Nat)} {D : Nat → Bool} {H : Nat → Option Bk} {t : Nat} {v : Bk} : ∀ n, EH es D H n t = some v → H t = some v ∨ ∃ j, j < n ∧ D j = true ∧ (t, v) ∈ upAt es j
  | 0, h => .inl h
  | n + 1, h => by
    simp only [EH] at h
    split at h
    · rename_i hd
      unfold ovr at h
      split at h
      · rename_i b hb
        cases h
        exact .inr ⟨n, by omega, hd, lk_mem hb⟩
      · rcases EH_cases n h with h | ⟨j, hj, h⟩
        · exact .inl h
        · exact .inr ⟨j, by omega, h⟩
    · rcases EH_cases n h with h | ⟨j, hj, h⟩
      · exact .inl h
      · exact .inr ⟨j, by omega, h⟩

theorem filter_less {D D' : Nat → Bool} {i : Nat} (h : ∀ j, D' j = (j == i || D j)) (hi : D i = false) : ∀ (r : List Nat), i ∈ r → r.Nodup → (r.filter fun j => !D' j).length < (r.filter fun j => !D j).length := by
  have le : ∀ (r : List Nat), (r.filter fun j => !D' j).length ≤ (r.filter fun j => !D j).length := by
    intro r
    induction r with
    | nil => exact Nat.le_refl _
    | cons y r ihy =>
      have hy := h y
      by_cases hyi : y = i
      · subst hyi
        rw [List.filter_cons_of_neg (by rw [hy]; simp), List.filter_cons_of_pos (by rw [hi]; rfl)]
        simp only [List.length_cons]; omega
      · cases hDy : D y with
        | true => rw [List.filter_cons_of_neg (by rw [hy, hDy]; simp), List.filter_cons_of_neg (by rw [hDy]; simp)]; exact ihy
        | false => rw [List.filter_cons_of_pos (by rw [hy, hDy]; simp [hyi]), List.filter_cons_of_pos (by rw [hDy]; simp)]; simp only [List.length_cons]; omega
  intro r
  induction r with
  | nil => intro h; cases h
  | cons x r ihr =>
    intro hm hnd
    rw [List.nodup_cons] at hnd
    have hx := h x
    by_cases hxi : x = i
    · subst hxi
      rw [List.filter_cons_of_neg (by rw [hx]; simp), List.filter_cons_of_pos (by rw [hi]; rfl)]
      have := le r
      simp only [List.length_cons]; omega
    · have hm' : i ∈ r := by
        rcases List.mem_cons.1 hm with h | h
        · exact absurd h.symm hxi
        · exact h
      have := ihr hm' hnd.2
      cases hDx : D x with
      | true => rw [List.filter_cons_of_neg (by rw [hx, hDx]; simp), List.filter_cons_of_neg (by rw [hDx]; simp)]; exact this
      | false => rw [List.filter_cons_of_pos (by rw [hx, hDx]; simp [hxi]), List.filter_cons_of_pos (by rw [hDx]; simp)]; simp only [List.length_cons]; omega

theorem EF_none {ops : List Oper} {es : List (Ent × List Nat × List Nat)} {D : Nat → Bool} {F : Nat → Option AV} (h : ∀ i, D i = false) : ∀ n, EF ops es D F n = F
  | 0 => rfl
  | n + 1 => by simp only [EF, h, Bool.false_eq_true, if_false]; exact EF_none h n
theorem EH_none {es : List (Ent × List Nat × List Nat)} {D : Nat → Bool} {H : Nat → Option Bk} (h : ∀ i, D i = false) : ∀ n, EH es D H n = H
  | 0 => rfl
  | n + 1 => by simp only [EH, h, Bool.false_eq_true, if_false]; exact EH_none h n

theorem wpAny_cert {ops : Array Oper} (cx : Cx) {Q : Exit → Act → World → Prop} {S : Ls} {es : List (Ent × List Nat × List Nat)} {l : List Oper} (hl : ops.toList = l) (bs : List (List Nat))
    (hC : Cert cx ops 0 S es) (hchk : chkB l bs (es.map (·.2)) = true) (hQ : Holds cx (effAll ops 0 S es) (Q .normal)) :
    ∀ (fuel : Nat) (listed : Array Bool), listed.size = ops.size →
      (∀ i o, listed.getD i false = true → l[i]? = some o → ∀ e ∈ o.after, Region.binds .any e = true → listed.getD e.on false = true) →
      ((List.range ops.size).filter fun i => !listed.getD i false).length ≤ fuel →
      ∀ ρ A a w, StRel cx (EF l es (fun i => listed.getD i false) S.F ops.size) (EH es (fun i => listed.getD i false) S.H ops.size) a w ρ A →
        wpAny cx.P .any ops Q fuel listed a w := by
  obtain ⟨hlen, hat⟩ := Cert.at es 0 S hC
  rw [Nat.zero_add] at hlen
  obtain ⟨hbef, hun⟩ := befOK_of_chk hchk
  have hll : l.length = ops.size := by rw [← hl]; simp
  have hFH := effAll_FH (ops := ops) es 0 S (fun _ _ => trivial)
  rw [List.drop_zero, hl, hlen] at hFH
  -- when all are listed
  have fin : ∀ listed : Array Bool, (∀ i, i < ops.size → listed.getD i false = true) → ∀ ρ A a w,
      StRel cx (EF l es (fun i => listed.getD i false) S.F ops.size) (EH es (fun i => listed.getD i false) S.H ops.size) a w ρ A → Q .normal a w := by
    intro listed hall ρ A a w hs
    refine hQ ρ A a w ?_
    rw [hFH.1, hFH.2]
    have e1 : EF l es (fun i => listed.getD i false) S.F ops.size = EF l es (fun _ => true) S.F ops.size := by
      funext t; exact EF_same _ fun j hj hne => absurd (hall j hj) hne
    have e2 : EH es (fun i => listed.getD i false) S.H ops.size = EH es (fun _ => true) S.H ops.size := by
      funext t; exact EH_same _ fun j hj hne => absurd (hall j hj) hne
    rw [← e1, ← e2]; exact hs
  -- one that is ready
  have one : ∀ (listed : Array Bool), listed.size = ops.size →
      (∀ i o, listed.getD i false = true → l[i]? = some o → ∀ e ∈ o.after, Region.binds .any e = true → listed.getD e.on false = true) →
      ∀ i ∈ Region.ready .any ops listed, ∀ ρ A a w, StRel cx (EF l es (fun i => listed.getD i false) S.F ops.size) (EH es (fun i => listed.getD i false) S.H ops.size) a w ρ A →
      ∀ K : Act → World → Prop, (∀ ρ A a w, StRel cx (EF l es (fun j => j == i || listed.getD j false) S.F ops.size) (EH es (fun j => j == i || listed.getD j false) S.H ops.size) a w ρ A → K a w) →
      wpOp cx.P ops Q i K a w := by
    intro listed hsz hclosed i hi ρ A a w hs K hK
    obtain ⟨hnot, o, ho, hall⟩ := mem_ready.1 hi
    have hilt : i < ops.size := by
      rcases Nat.lt_or_ge i ops.size with h | h
      · exact h
      · simp [Array.getElem?_eq_none h] at ho
    have hDi : listed.getD i false = false := by
      have : i < listed.size := by omega
      simp only [Array.getD, this, ↓reduceDIte] at hnot ⊢
      exact hnot
    have hol : l[i]? = some o := by rw [← hl]; simpa using ho
    have hbi := bef_in hbef (D := fun i => listed.getD i false) hclosed i (fun o' ho' e he hb => by
      rw [hol] at ho'; cases ho'; exact hall e he hb) (by omega)
    have hbj : ∀ j, j < ops.size → listed.getD j false = true → i ∉ bs.getD j [] := fun j hj hDj hmem => by
      have := bef_in hbef (D := fun i => listed.getD i false) hclosed j (fun o' ho' e he hb => hclosed j o' hDj ho' e he hb) (by omega) i hmem
      simp only [hDi] at this; cases this
    obtain ⟨⟨e, ks, ds⟩, hei⟩ : ∃ x, es[i]? = some x := ⟨es[i]'(by omega), by simp [show i < es.length by omega]⟩
    obtain ⟨o', ho', hdo, hfr, hks, hds⟩ := hat i e ks ds hei
    rw [Nat.zero_add, ho] at ho'
    cases ho'
    have hinfo : ∀ j, (es.map (·.2)).getD j ([], []) = ((es[j]?).map (·.2)).getD ([], []) := fun j => by simp [List.getD_eq_getElem?_getD]
    have un : ∀ j, j < ops.size → (j < i ∧ listed.getD j false = false ∨ i < j ∧ listed.getD j false = true) → ∀ e' ks' ds', es[j]? = some (e', ks', ds') → (∀ x ∈ ks', x ∈ ds) ∧ (∀ x ∈ ks, x ∈ ds') := by
      intro j hj hcase e' ks' ds' hej
      have hne : i ≠ j := by rcases hcase with h | h <;> omega
      have h1 : j ∉ bs.getD i [] := fun hmem => by
        have h2 := hbi j hmem
        rcases hcase with ⟨_, hD⟩ | ⟨hlt, hD⟩
        · simp only [hD] at h2; cases h2
        · have := bef_lt hbef (by omega) hmem; omega
      have h2 : i ∉ bs.getD j [] := fun hmem => by
        rcases hcase with ⟨hlt, hD⟩ | ⟨hlt, hD⟩
        · have := bef_lt hbef (by omega) hmem; omega
        · exact hbj j hj hD hmem
      have h3 := hun i j (by omega) (by omega) hne h1 h2
      have h4 := hun j i (by omega) (by omega) hne.symm h2 h1
      simp only [hinfo, hei, hej, Option.map_some, Option.getD_some] at h3 h4
      exact ⟨h3, h4⟩
    -- what the j-th holds
    have keys : ∀ j, j < ops.size → ∃ e' ks' ds' oj, es[j]? = some (e', ks', ds') ∧ ops[j]? = some oj ∧ (∀ t, dstAt l j = some t → t ∈ ks') ∧ (∀ x ∈ upAt es j, x.1 ∈ ks') ∧
        (∀ d ∈ ds', d ∉ (avAt es j).ids ∧ (∀ x ∈ upAt es j, x.1 ≠ d ∧ d ∉ x.2.ids) ∧ dstAt l j ≠ some d) := by
      intro j hj
      obtain ⟨⟨e', ks', ds'⟩, hej⟩ : ∃ x, es[j]? = some x := ⟨es[j]'(by omega), by simp [show j < es.length by omega]⟩
      obtain ⟨oj, hoj, _, _, hks', hds'⟩ := hat j e' ks' ds' hej
      rw [Nat.zero_add] at hoj
      have holj : l[j]? = some oj := by rw [← hl]; simpa using hoj
      simp only [Bool.and_eq_true, List.all_eq_true, List.contains_eq_mem, decide_eq_true_eq] at hks' hds'
      refine ⟨e', ks', ds', oj, hej, hoj, ?_, ?_, ?_⟩
      · intro t ht
        simp only [dstAt, holj, Option.bind_some] at ht
        have := hks'.1.1
        rw [ht] at this
        simpa using this
      · intro x hx
        simp only [upAt, hej, Option.map_some, Option.getD_some] at hx
        simpa using hks'.2 x hx
      · intro d hd
        have h1 := hds'.1 d hd
        simp only [Bool.not_eq_true', decide_eq_false_iff_not, bne_iff_ne, ne_eq] at h1
        refine ⟨by simp only [avAt, hej, Option.map_some, Option.getD_some]; exact h1.1, ?_, ?_⟩
        · intro x hx
          simp only [upAt, hej, Option.map_some, Option.getD_some] at hx
          exact h1.2 x hx
        · intro ht
          simp only [dstAt, holj, Option.bind_some] at ht
          have := hds'.2
          rw [ht] at this
          simp [hd] at this
    obtain ⟨e₀, ks₀, ds₀, o₀, he₀, ho₀, hkd, hku, hsep⟩ := keys i hilt
    rw [hei] at he₀
    simp only [Option.some.injEq, Prod.mk.injEq] at he₀
    obtain ⟨rfl, rfl, rfl⟩ := he₀
    -- the text's state ahead of i, as folds
    have hT := effAll_FH (ops := ops) (es.take i) 0 S (fun _ _ => trivial)
    rw [List.drop_zero, hl, List.length_take, Nat.min_eq_left (by omega)] at hT
    have hTF : EF l (es.take i) (fun _ => true) S.F i = EF l es (fun j => decide (j < i)) S.F ops.size := by
      have c1 : ∀ n, n ≤ i → EF l (es.take i) (fun _ => true) S.F n = EF l es (fun j => decide (j < i)) S.F n := by
        intro n
        induction n with
        | zero => intro _; rfl
        | succ n ih =>
          intro hn
          simp only [EF, if_true]
          rw [ih (by omega), if_pos (by simp; omega)]
          congr 1
          simp [avAt, show n < i by omega]
      rw [c1 i (Nat.le_refl _)]
      have := EF_stop (ops := l) (es := es) (D := fun j => decide (j < i)) (F := S.F) (i := i) (fun j hj => by simp; omega) (ops.size - i)
      rw [show i + (ops.size - i) = ops.size by omega] at this
      exact this.symm
    have hTH : EH (es.take i) (fun _ => true) S.H i = EH es (fun j => decide (j < i)) S.H ops.size := by
      have c1 : ∀ n, n ≤ i → EH (es.take i) (fun _ => true) S.H n = EH es (fun j => decide (j < i)) S.H n := by
        intro n
        induction n with
        | zero => intro _; rfl
        | succ n ih =>
          intro hn
          simp only [EH, if_true]
          rw [ih (by omega), if_pos (by simp; omega)]
          congr 1
          simp [upAt, show n < i by omega]
      rw [c1 i (Nat.le_refl _)]
      have := EH_stop (es := es) (D := fun j => decide (j < i)) (H := S.H) (i := i) (fun j hj => by simp; omega) (ops.size - i)
      rw [show i + (ops.size - i) = ops.size by omega] at this
      exact this.symm
    -- the two states agree off ds
    have part : ∀ j, j < ops.size → (decide (j < i) : Bool) ≠ listed.getD j false → j ≠ i → (j < i ∧ listed.getD j false = false ∨ i < j ∧ listed.getD j false = true) := by
      intro j _ hne hji
      cases hD : listed.getD j false
      · refine .inl ⟨?_, rfl⟩
        rw [hD] at hne
        simpa using hne
      · refine .inr ⟨?_, rfl⟩
        rw [hD] at hne
        simp at hne; omega
    have agF : ∀ t v, ((effAll ops 0 S (es.take i)).del ds).F t = some v → EF l es (fun i => listed.getD i false) S.F ops.size t = some v := by
      intro t v hv
      obtain ⟨hv', hnd⟩ := lk_filter (α := AV) hv
      have hv2 : (effAll ops 0 S (es.take i)).F t = some v := hv'
      rw [hT.1, hTF] at hv2
      rw [← hv2]
      refine EF_same _ fun j hj hne ht => ?_
      by_cases hji : j = i
      · subst hji; simp [hDi] at hne
      obtain ⟨e', ks', ds', oj, hej, _, hd1, _, _⟩ := keys j hj
      exact hnd ((un j hj (part j hj (Ne.symm hne) hji) e' ks' ds' hej).1 t (hd1 t ht))
    have agH : ∀ t v, ((effAll ops 0 S (es.take i)).del ds).H t = some v → EH es (fun i => listed.getD i false) S.H ops.size t = some v := by
      intro t v hv
      obtain ⟨hv', hnd⟩ := lk_filter (α := Bk) hv
      have hv2 : (effAll ops 0 S (es.take i)).H t = some v := hv'
      rw [hT.2, hTH] at hv2
      rw [← hv2]
      refine EH_same _ fun j hj hne x hx hxt => ?_
      by_cases hji : j = i
      · subst hji; simp [hDi] at hne
      obtain ⟨e', ks', ds', oj, hej, _, _, hd2, _⟩ := keys j hj
      exact hnd ((un j hj (part j hj (Ne.symm hne) hji) e' ks' ds' hej).1 t (hxt ▸ hd2 x hx))
    refine StepOp.wpOp ho (hdo _ _ agF agH ?_ ρ A a w hs K Q ?_)
    · -- what must be fresh is fresh
      intro d hd
      have hn := Ls.nomB_spec (List.all_eq_true.1 hfr d hd)
      have hdk : d ∈ ks := by
        simp only [Bool.and_eq_true, List.all_eq_true, List.contains_eq_mem, decide_eq_true_eq] at hks
        exact hks.1.2 d hd
      have hB := List.all_eq_true.1 hfr d hd
      simp only [Ls.nomB, Bool.and_eq_true, Bool.not_eq_true', List.all_eq_true, List.contains_eq_mem, decide_eq_false_iff_not, bne_iff_ne, ne_eq] at hB
      obtain ⟨⟨_, hBf⟩, hBh⟩ := hB
      obtain ⟨m1, m2, m3⟩ := effAll_mem (ops := ops) (es.take i) 0 S
      -- of what has come up
      have ent : ∀ j, j < ops.size → listed.getD j false = true → (∀ t, dstAt l j = some t → d ∉ (avAt es j).ids) ∧ ∀ x ∈ upAt es j, x.1 ≠ d ∧ d ∉ x.2.ids := by
        intro j hj hDj
        obtain ⟨e', ks', ds', oj, hej, hoj, hd1, hd2, hs3⟩ := keys j hj
        rcases Nat.lt_trichotomy j i with hlt | rfl | hgt
        · have := m3 j e' ks' ds' (by rw [List.getElem?_take]; simp [hlt, hej])
          rw [Nat.zero_add] at this
          refine ⟨fun t ht => ?_, fun x hx => ?_⟩
          · have h1 := hBf _ (this.1 t (by rw [← hl] at ht; simpa [dstAt] using ht))
            simpa [avAt, hej] using h1
          · simp only [upAt, hej, Option.map_some, Option.getD_some] at hx
            exact hBh _ (this.2 x hx)
        · rw [hDi] at hDj; cases hDj
        · have := hs3 d ((un j hj (.inr ⟨hgt, hDj⟩) e' ks' ds' hej).2 d hdk)
          exact ⟨fun _ _ => this.1, this.2.1⟩
      refine ⟨hn.e, ?_, ?_, ?_⟩
      · cases hh : EH es (fun i => listed.getD i false) S.H ops.size d with
        | none => rfl
        | some b =>
          rcases EH_cases _ hh with h | ⟨j, hj, hDj, hm⟩
          · exact absurd rfl (hBh _ (m2 _ (lk_mem h))).1
          · exact absurd rfl ((ent j hj hDj).2 _ hm).1
      · intro t v hv
        rcases EF_cases _ hv with h | ⟨j, hj, hDj, hdt, rfl⟩
        · exact hBf _ (m1 _ (lk_mem h))
        · exact (ent j hj hDj).1 t hdt
      · intro t b hb
        rcases EH_cases _ hb with h | ⟨j, hj, hDj, hm⟩
        · exact (hBh _ (m2 _ (lk_mem h))).2
        · exact ((ent j hj hDj).2 _ hm).2
    · intro v w' ρ' A' hs'
      refine hK ρ' A' _ _ ?_
      have e1 := EF_add (ops := l) (es := es) (D := fun j => listed.getD j false) (F := S.F) (i := i) hDi hilt (by
        intro j hij hj hDj t ht ht'
        obtain ⟨e', ks', ds', oj, hej, _, hd1, _, hs3⟩ := keys j hj
        exact (hs3 t ((un j hj (.inr ⟨hij, hDj⟩) e' ks' ds' hej).2 t (hkd t ht))).2.2 ht')
      have e2 := EH_add (es := es) (D := fun j => listed.getD j false) (H := S.H) (i := i) hDi hilt (by
        intro j hij hj hDj x hx y hy
        obtain ⟨e', ks', ds', oj, hej, _, hd1, _, hs3⟩ := keys j hj
        exact ((hs3 x.1 ((un j hj (.inr ⟨hij, hDj⟩) e' ks' ds' hej).2 x.1 (hku x hx))).2.1 y hy).1)
      rw [e1, e2]
      have a1 : dstAt l i = o.dst := by simp [dstAt, hol]
      have a2 : avAt es i = e.av := by simp [avAt, hei]
      have a3 : upAt es i = e.up := by simp [upAt, hei]
      rw [a1, a2, a3]
      exact hs'
  -- if none is ready all are listed
  have done : ∀ listed : Array Bool, listed.size = ops.size → Region.ready .any ops listed = [] → ∀ i, i < ops.size → listed.getD i false = true := by
    intro listed hsz hr i
    induction i using Nat.strongRecOn with
    | _ i ih =>
      intro hi
      cases hD : listed.getD i false with
      | true => rfl
      | false =>
        exfalso
        have hol : l[i]? = some ops[i] := by rw [← hl]; simp [hi]
        have : i ∈ Region.ready .any ops listed := mem_ready.2 ⟨by
            have : i < listed.size := by omega
            simp only [Array.getD, this, ↓reduceDIte] at hD ⊢; exact hD, ops[i], by simp [hi], fun e he hb => by
            have hlt := edge_lt hbef hol e he hb
            exact ih e.on hlt (by omega)⟩
        rw [hr] at this; cases this
  intro fuel
  induction fuel with
  | zero =>
    intro listed hsz hclosed hcount ρ A a w hs
    have hall : ∀ i, i < ops.size → listed.getD i false = true := by
      intro i hi
      cases hD : listed.getD i false with
      | true => rfl
      | false =>
        have h0 := List.eq_nil_of_length_eq_zero (Nat.le_zero.1 hcount)
        have : i ∈ (List.range ops.size).filter fun i => !listed.getD i false := List.mem_filter.2 ⟨by simpa using hi, by rw [hD]; rfl⟩
        rw [h0] at this; cases this
    refine ⟨?_, fin listed hall ρ A a w hs⟩
    cases hr : Region.ready .any ops listed with
    | nil => rfl
    | cons i r =>
      have hi : i ∈ Region.ready .any ops listed := by rw [hr]; exact List.mem_cons_self
      obtain ⟨hnot, o, ho, _⟩ := mem_ready.1 hi
      have hilt : i < ops.size := by
        rcases Nat.lt_or_ge i ops.size with h | h
        · exact h
        · simp [Array.getElem?_eq_none h] at ho
      have := hall i hilt
      have hl' : i < listed.size := by omega
      simp only [Array.getD, hl', ↓reduceDIte] at hnot this
      rw [hnot] at this; cases this
  | succ fuel ih =>
    intro listed hsz hclosed hcount ρ A a w hs
    refine ⟨fun hr => fin listed (done listed hsz hr) ρ A a w hs, fun i hi => ?_⟩
    have hi' := hi
    obtain ⟨hnot, o, ho, hall⟩ := mem_ready.1 hi'
    have hilt : i < ops.size := by
      rcases Nat.lt_or_ge i ops.size with h | h
      · exact h
      · simp [Array.getElem?_eq_none h] at ho
    have hget : ∀ j, (listed.setIfInBounds i true).getD j false = (j == i || listed.getD j false) := by
      intro j
      by_cases hji : j = i
      · subst hji
        simp [Array.getD, show j < listed.size by omega]
      · simp only [Array.getD_eq_getD_getElem?]
        rw [Array.getElem?_setIfInBounds_ne (Ne.symm hji)]
        simp [hji]
    refine one listed hsz hclosed i hi ρ A a w hs _ fun ρ' A' a' w' hs' => ?_
    refine ih (listed.setIfInBounds i true) (by simpa using hsz) ?_ ?_ ρ' A' a' w' ?_
    · intro k ok hk hok e he hb
      rw [hget] at hk ⊢
      by_cases hki : k = i
      · subst hki
        have : l[k]? = some o := by rw [← hl]; simpa using ho
        rw [this] at hok; cases hok
        simp [hall e he hb]
      · have := hclosed k ok (by simpa [hki] using hk) hok e he hb
        simp [this]
    · have hDi : listed.getD i false = false := by
        have : i < listed.size := by omega
        simp only [Array.getD, this, ↓reduceDIte] at hnot ⊢
        exact hnot
      have : ((List.range ops.size).filter fun j => !(listed.setIfInBounds i true).getD j false).length < ((List.range ops.size).filter fun j => !listed.getD j false).length := by
        exact filter_less hget hDi _ (by simpa using hilt) List.nodup_range
      omega
    · have e1 : (fun j => (listed.setIfInBounds i true).getD j false) = fun j => j == i || listed.getD j false := funext hget
      rw [e1]; exact hs'

/-- A REGION THAT DRAWS ITS ORDER, by its certificate. -/
theorem Holds.draw {cx : Cx} {S : Ls} {id : Nat} {l : List Oper} {Q : Exit → Act → World → Prop} (hm : cx.P.follows .mixedOrders = true) (es : List (Ent × List Nat × List Nat)) (bs : List (List Nat))
    (info : List (List Nat × List Nat)) (hi : es.map (·.2) = info) (hchk : chkB l bs info = true)
    (hC : Cert cx l.toArray 0 S es) (hQ : Holds cx (effAll l.toArray 0 S es) (Q .normal)) : Holds cx S ((Code.region id l.toArray true).wp cx.P Q) := by
  intro ρ A a w hs
  refine wp_region_any hm ?_
  have hs0 : StRel cx S.F S.H a { w with drawn := w.drawn + 1 } ρ A := hs.below (Below.drew (Below.refl _ _))
  subst hi
  refine wpAny_cert (ops := l.toArray) (l := l) cx (by simp) bs hC hchk hQ l.toArray.size (Array.replicate l.toArray.size false) (by simp) ?_ ?_ ρ A a _ ?_
  · intro i o h
    exfalso
    revert h
    simp only [Array.getD_eq_getD_getElem?, Array.getElem?_replicate]
    split <;> simp
  · exact Nat.le_trans (List.length_filter_le _ _) (by simp)
  · have f0 : ∀ i, (Array.replicate l.toArray.size false).getD i false = false := by
      intro i
      simp only [Array.getD_eq_getD_getElem?, Array.getElem?_replicate]
      split <;> rfl
    rw [EF_none f0, EH_none f0]; exact hs0

end Go.Fx

/- FxC: the rules for code (sequence, test, block, loop, label), forgetting, entry and return, and calls by contract. -/
namespace Go.Fx
open Go.RowKit (Below)

def Rep (cx : Cx) (S : Ls) (a : Act) (w : World) : Prop := ∃ ρ A, StRel cx S.F S.H a w ρ A

section rules
variable {cx : Cx} {S : Ls} {Q : Exit → Act → World → Prop}
theorem Holds.seq {x y : Code} (h : Holds cx S (x.wp cx.P (Exit.then (y.wp cx.P Q) Q))) : Holds cx S ((Code.seq x y).wp cx.P Q) :=
  fun ρ A a w hs => wp_seq (h ρ A a w hs)
theorem Holds.skip (h : Holds cx S (Q .normal)) : Holds cx S (Code.skip.wp cx.P Q) := fun ρ A a w hs => wp_skip (h ρ A a w hs)
theorem Holds.label {l : Nat} (h : Holds cx S (Q .normal)) : Holds cx S ((Code.label l).wp cx.P Q) := fun ρ A a w hs => wp_label (h ρ A a w hs)
theorem Holds.exit {id : Nat} (h : Holds cx S (Q (.exit id))) : Holds cx S ((Code.exit id).wp cx.P Q) := fun ρ A a w hs => wp_exit (h ρ A a w hs)
theorem Holds.goto {l : Nat} (h : Holds cx S (Q (.goto l))) : Holds cx S ((Code.goto l).wp cx.P Q) := fun ρ A a w hs => wp_goto (h ρ A a w hs)
theorem Holds.ret (h : Holds cx S (Q .ret)) : Holds cx S (Code.ret.wp cx.P Q) := fun ρ A a w hs => wp_ret (h ρ A a w hs)
theorem Holds.block {id : Nat} {c : Code} (h : Holds cx S (c.wp cx.P (Exit.inBlock id Q))) : Holds cx S ((Code.block id c).wp cx.P Q) :=
  fun ρ A a w hs => wp_block (h ρ A a w hs)
theorem Holds.scope0 {c : Code} (h : Holds cx S (c.wp cx.P (Exit.noGoto Q))) : Holds cx S ((Code.scope c).wp cx.P Q) :=
  fun ρ A a w hs => wp_scope_straight (h ρ A a w hs)
theorem Holds.region {id : Nat} {l : List Oper} (h : Holds cx S (wpOps cx.P l.toArray Q (List.range l.length))) : Holds cx S ((Code.region id l.toArray false).wp cx.P Q) :=
  fun ρ A a w hs => wp_region (by simpa using h ρ A a w hs)
theorem Holds.cond {t : Nat} {x y : Code} (b : Bool) (hc : lk t S.fr = some (.one (.b b))) (ht : b = true → Holds cx S (x.wp cx.P Q)) (hf : b = false → Holds cx S (y.wp cx.P Q)) :
    Holds cx S ((Code.cond (.tmp t) x y).wp cx.P Q) :=
  fun ρ A a w hs => wp_cond_split (t := b) (hs.fr t _ hc) (fun h => ht h ρ A a w hs) (fun h => hf h ρ A a w hs)
theorem Holds.condT {t : Nat} {x y : Code} (hc : lk t S.fr = some (.one (.b true))) (h : Holds cx S (x.wp cx.P Q)) : Holds cx S ((Code.cond (.tmp t) x y).wp cx.P Q) :=
  Holds.cond true hc (fun _ => h) (fun h => by cases h)
theorem Holds.condF {t : Nat} {x y : Code} (hc : lk t S.fr = some (.one (.b false))) (h : Holds cx S (y.wp cx.P Q)) : Holds cx S ((Code.cond (.tmp t) x y).wp cx.P Q) :=
  Holds.cond false hc (fun h => by cases h) (fun _ => h)
end rules

/-! ### Loops, by an index -/
section ix
variable {P : Program} {a : Act} {w : World} {Q : Exit → Act → World → Prop} {α : Type}
theorem wp_loop_ix {c : Code} (R : α → Act → World → Prop) (μ : α → Nat) (x : α) (h₀ : R x a w)
    (round : ∀ x a w, R x a w → c.wp P (Exit.then (fun a' w' => ∃ y, R y a' w' ∧ μ y < μ x) Q) a w) : (Code.loop c).wp P Q a w := by
  intro b k cs
  have key : ∀ n x a w, μ x = n → R x a w →
      ∃ e a' w', Q e a' w' ∧ Arrives P (lone (b.at a (.code c :: .inLoop c :: k)) cs w) b k cs e a' w' := by
    intro n
    induction n using Nat.strongRecOn with
    | _ n ih =>
      intro x a w hn hI
      obtain ⟨e, a₁, w₁, hq, harr⟩ := round x a w hI b (.inLoop c :: k) cs
      cases e with
      | normal =>
        obtain ⟨y, hI₁, hlt⟩ := hq
        obtain ⟨e₂, a₂, w₂, hq₂, harr₂⟩ := ih (μ y) (hn ▸ hlt) y a₁ w₁ rfl hI₁
        exact ⟨e₂, a₂, w₂, hq₂, .of_steps (Steps.trans harr (.one step_inLoop)) harr₂⟩
      | exit id => exact ⟨_, a₁, w₁, hq, .pass (x := .inLoop c) rfl (fun _ _ => .inl (by simp)) harr⟩
      | goto l => exact ⟨_, a₁, w₁, hq, .pass (x := .inLoop c) rfl (fun _ _ => .inl (by simp)) harr⟩
      | ret => exact ⟨_, a₁, w₁, hq, .pass (x := .inLoop c) rfl (fun _ _ => .inl (by simp)) harr⟩
      | panic ch => exact ⟨_, a₁, w₁, hq, .pass (x := .inLoop c) rfl (fun _ _ => .inl (by simp)) harr⟩
      | outgrown => exact ⟨_, a₁, w₁, hq, .pass (x := .inLoop c) rfl (fun _ _ => .inl (by simp)) harr⟩
  obtain ⟨e, a', w', hq, harr⟩ := key _ x a w rfl h₀
  exact ⟨e, a', w', hq, .of_steps (.one step_loop) harr⟩

theorem wp_scope_ix {c rest : Code} (l : Nat) (R : α → Act → World → Prop) (μ : α → Nat) (hf : findLabel c l = some rest)
    (first : c.wp P (Exit.jump l (fun a w => ∃ x, R x a w) Q) a w)
    (pass : ∀ x a w, R x a w → rest.wp P (Exit.jump l (fun a' w' => ∃ y, R y a' w' ∧ μ y < μ x) Q) a w) : (Code.scope c).wp P Q a w := by
  intro b k cs
  have hg : gotoIn l (.inScope c :: k) = some (.code rest :: .inScope c :: k) := by simp [gotoIn, hf]
  have key : ∀ n x a w, μ x = n → R x a w → ∃ e a' w', Q e a' w' ∧ Arrives P (lone (b.at a (.code rest :: .inScope c :: k)) cs w) b k cs e a' w' := by
    intro n
    induction n using Nat.strongRecOn with
    | _ n ih =>
      intro x a w hn hJ
      obtain ⟨e, a₁, w₁, hq, harr⟩ := pass x a w hJ b (.inScope c :: k) cs
      cases e with
      | normal => exact ⟨.normal, a₁, w₁, hq, Steps.trans harr (.one step_inScope)⟩
      | exit id => exact ⟨.exit id, a₁, w₁, hq, fun k' hk => harr k' (by simp [exitTo, hk])⟩
      | goto l' =>
        obtain ⟨rfl, y, hJ', hlt⟩ := hq
        obtain ⟨e₂, a₂, w₂, hq₂, harr₂⟩ := ih _ (by omega) y a₁ w₁ rfl hJ'
        exact ⟨e₂, a₂, w₂, hq₂, .of_steps (harr _ hg) harr₂⟩
      | ret => exact ⟨_, a₁, w₁, hq, harr⟩
      | panic ch => exact ⟨_, a₁, w₁, hq, harr⟩
      | outgrown => exact ⟨_, a₁, w₁, hq, harr⟩
  obtain ⟨e, a₁, w₁, hq, harr⟩ := first b (.inScope c :: k) cs
  cases e with
  | normal => exact ⟨.normal, a₁, w₁, hq, .head step_scope (Steps.trans harr (.one step_inScope))⟩
  | exit id => exact ⟨.exit id, a₁, w₁, hq, fun k' hk => .head step_scope (harr k' (by simp [exitTo, hk]))⟩
  | goto l' =>
    obtain ⟨rfl, x, hJ'⟩ := hq
    obtain ⟨e₂, a₂, w₂, hq₂, harr₂⟩ := key _ x a₁ w₁ rfl hJ'
    exact ⟨e₂, a₂, w₂, hq₂, .of_steps (.head step_scope (harr _ hg)) harr₂⟩
  | ret => exact ⟨_, a₁, w₁, hq, .of_steps (.one step_scope) harr⟩
  | panic ch => exact ⟨_, a₁, w₁, hq, .of_steps (.one step_scope) harr⟩
  | outgrown => exact ⟨_, a₁, w₁, hq, .of_steps (.one step_scope) harr⟩
end ix

/-! ### Forgetting, and renaming blocks -/
def rn (τ : List (Nat × Nat)) (id : Nat) : Nat := (lk id τ).getD id

def SV.ren (τ : List (Nat × Nat)) : SV → SV
  | .p id off => .p (rn τ id) off
  | .sg id off len => .sg (rn τ id) off len
  | .fn f caps => .fn f (caps.map (rn τ))
  | s => s
def Cs.ren (τ : List (Nat × Nat)) : Cs → Cs
  | .ints k xs => .ints k xs
  | .mix l => .mix (l.map (SV.ren τ))
def AV.ren (τ : List (Nat × Nat)) : AV → AV
  | .one s => .one (s.ren τ)
  | .row c => .row (c.ren τ)
  | .two a b => .two (a.ren τ) (b.ren τ)
def Bk.ren (τ : List (Nat × Nat)) : Bk → Bk
  | .own c => .own (c.ren τ)
  | .grw c => .grw (c.ren τ)
  | .dead => .dead

theorem SV.rel_ren {τ : List (Nat × Nat)} {ρ : Nat → Loc} {A : Nat → Prop} {w : World} {s : SV} {v : Value} (h : (s.ren τ).Rel ρ A w v) : s.Rel (fun id => ρ (rn τ id)) A w v := by
  cases s with
  | fn f caps =>
    simp only [SV.ren, SV.Rel, List.map_map] at h ⊢
    exact h
  | _ => exact h
theorem Cs.len_ren {τ : List (Nat × Nat)} {c : Cs} : (c.ren τ).len = c.len := by cases c <;> simp [Cs.ren, Cs.len]
theorem Cs.at_ren {τ : List (Nat × Nat)} {c : Cs} {j : Nat} (h : j < c.len) : (c.ren τ).at j = (c.at j).ren τ := by
  cases c with
  | ints k xs => rfl
  | mix l =>
    simp only [Cs.len] at h
    simp [Cs.ren, Cs.at, List.getD_eq_getElem?_getD, h]
theorem AV.rel_ren {τ : List (Nat × Nat)} {ρ : Nat → Loc} {A : Nat → Prop} {w : World} {x : AV} : ∀ {v : Value}, (x.ren τ).Rel ρ A w v → x.Rel (fun id => ρ (rn τ id)) A w v := by
  induction x with
  | one s => intro v h; exact SV.rel_ren h
  | row c =>
    rintro v ⟨cs, hv, hl, hc⟩
    rw [Cs.len_ren] at hl hc
    refine ⟨cs, hv, hl, fun j hj => ?_⟩
    obtain ⟨u, hu, hr⟩ := hc j hj
    rw [Cs.at_ren hj] at hr
    exact ⟨u, hu, SV.rel_ren hr⟩
  | two a b iha ihb =>
    rintro v ⟨x, y, hv, hx, hy⟩
    exact ⟨x, y, hv, iha hx, ihb hy⟩
theorem OwnB.ren {cx : Cx} {τ : List (Nat × Nat)} {ρ : Nat → Loc} {A : Nat → Prop} {w : World} {l : Loc} {c : Cs} (h : OwnB cx ρ A w l (c.ren τ)) : OwnB cx (fun id => ρ (rn τ id)) A w l c := by
  obtain ⟨h1, h2⟩ := h
  rw [Cs.len_ren] at h1 h2
  refine ⟨h1, h2.imp id ?_⟩
  rintro ⟨ho, ha, hO, hm, cs, T, fz, hh, hoff, hfz, hc⟩
  refine ⟨ho, ha, hO, hm, cs, T, fz, hh, hoff, hfz, fun j hj => ?_⟩
  obtain ⟨u, hu, hr⟩ := hc j hj
  rw [Cs.at_ren hj] at hr
  exact ⟨u, hu, SV.rel_ren hr⟩
theorem Bk.rel_ren {cx : Cx} {τ : List (Nat × Nat)} {ρ : Nat → Loc} {A : Nat → Prop} {w : World} {l : Loc} {b : Bk} (h : (b.ren τ).Rel cx ρ A w l) : b.Rel cx (fun id => ρ (rn τ id)) A w l := by
  cases b with
  | own c => exact OwnB.ren h
  | grw c =>
    rcases h with h | ⟨ho, hsz, h2⟩
    · exact .inl h.ren
    · refine .inr ⟨ho, by rw [hsz, Cs.len_ren], h2.imp id ?_⟩
      rintro ⟨ha, hlt, hc⟩
      rw [Cs.len_ren] at hc
      refine ⟨ha, hlt, fun j hj => ?_⟩
      obtain ⟨u, hu, hr⟩ := hc j hj
      rw [Cs.at_ren hj] at hr
      exact ⟨u, hu, SV.rel_ren hr⟩
  | dead => trivial
theorem Bk.live_ren {τ : List (Nat × Nat)} {b : Bk} : (b.ren τ).live = b.live := by cases b <;> rfl

def SubF (τ : List (Nat × Nat)) (S : Ls) : List (Nat × AV) → Prop
  | [] => True
  | (t, v) :: r => lk t S.fr = some (v.ren τ) ∧ SubF τ S r
def SubH (τ : List (Nat × Nat)) (S : Ls) : List (Nat × Bk) → Prop
  | [] => True
  | (i, b) :: r => lk (rn τ i) S.hp = some (b.ren τ) ∧ SubH τ S r
/-- T says no more than S, its block i being S's block 'rn τ i'. -/
structure Sub (cx : Cx) (τ : List (Nat × Nat)) (S T : Ls) : Prop where
  f : SubF τ S T.fr
  h : SubH τ S T.hp
  inj : (T.hp.all fun x => T.hp.all fun y => x.1 == y.1 || rn τ x.1 != rn τ y.1) = true
  e : (cx.E.all fun i => rn τ i == i) = true

theorem SubF.at {τ : List (Nat × Nat)} {S : Ls} : ∀ {l : List (Nat × AV)}, SubF τ S l → ∀ t v, lk t l = some v → lk t S.fr = some (v.ren τ)
  | [], _, t, v, h => by simp [lk] at h
  | (s, x) :: l, hl, t, v, h => by
    simp only [lk] at h
    split at h
    · rename_i he; cases h; subst he; exact hl.1
    · exact SubF.at hl.2 t v h
theorem SubH.at {τ : List (Nat × Nat)} {S : Ls} : ∀ {l : List (Nat × Bk)}, SubH τ S l → ∀ i b, lk i l = some b → lk (rn τ i) S.hp = some (b.ren τ)
  | [], _, t, v, h => by simp [lk] at h
  | (s, x) :: l, hl, t, v, h => by
    simp only [lk] at h
    split at h
    · rename_i he; cases h; subst he; exact hl.1
    · exact SubH.at hl.2 t v h

theorem Sub.rep {cx : Cx} {τ : List (Nat × Nat)} {S T : Ls} (h : Sub cx τ S T) {a : Act} {w : World} (hr : Rep cx S a w) : Rep cx T a w := by
  obtain ⟨ρ, A, hs⟩ := hr
  refine ⟨fun id => ρ (rn τ id), A, hs.df, hs.sz, fun t v hv => AV.rel_ren (hs.fr t _ (h.f.at t v hv)), fun i b hb => Bk.rel_ren (hs.hp _ _ (h.h.at i b hb)), ?_, hs.A1, hs.O, hs.fm, fun i hi => ?_⟩
  · intro i j bi bj hbi hbj li lj hne oi oj zi zj
    refine hs.sep _ _ _ _ (h.h.at i bi hbi) (h.h.at j bj hbj) (by rw [Bk.live_ren]; exact li) (by rw [Bk.live_ren]; exact lj) ?_ oi oj zi zj
    have := List.all_eq_true.1 (List.all_eq_true.1 h.inj _ (lk_mem hbi)) _ (lk_mem hbj)
    simpa [hne] using this
  · have := List.all_eq_true.1 h.e i hi
    have e : rn τ i = i := by simpa using this
    show ρ (rn τ i) = _
    rw [e]; exact hs.E i hi

theorem Holds.forget {cx : Cx} {S T : Ls} {G : Act → World → Prop} (τ : List (Nat × Nat)) (h : Sub cx τ S T) (hG : Holds cx T G) : Holds cx S G := by
  intro ρ A a w hs
  obtain ⟨ρ', A', hs'⟩ := h.rep ⟨ρ, A, hs⟩
  exact hG ρ' A' a w hs'

/-- A LOOP: 'I x' holds at every round's head; 'Ok x' is what is known of x; 'μ' goes down. -/
theorem Holds.loop {cx : Cx} {S : Ls} {Q : Exit → Act → World → Prop} {c : Code} {α : Type} (I : α → Ls) (Ok : α → Prop) (μ : α → Nat) (x : α) (h0 : Ok x) (τ : List (Nat × Nat)) (hs : Sub cx τ S (I x))
    (round : ∀ x, Ok x → Holds cx (I x) (c.wp cx.P (Exit.then (fun a w => ∃ y, (Ok y ∧ Rep cx (I y) a w) ∧ μ y < μ x) Q))) : Holds cx S ((Code.loop c).wp cx.P Q) := by
  intro ρ A a w hr
  refine wp_loop_ix (fun x a w => Ok x ∧ Rep cx (I x) a w) μ x ⟨h0, hs.rep ⟨ρ, A, hr⟩⟩ ?_
  rintro x a w ⟨hok, ρ, A, hr⟩
  exact round x hok ρ A a w hr

/-- The end of a round. -/
theorem Holds.again {cx : Cx} {S : Ls} {α : Type} {I : α → Ls} {Ok : α → Prop} {μ : α → Nat} {x : α} (y : α) (hok : Ok y) (hlt : μ y < μ x) (τ : List (Nat × Nat)) (h : Sub cx τ S (I y)) :
    Holds cx S (fun a w => ∃ y, (Ok y ∧ Rep cx (I y) a w) ∧ μ y < μ x) :=
  fun ρ A _ _ hs => ⟨y, ⟨hok, h.rep ⟨ρ, A, hs⟩⟩, hlt⟩

/-- A LABEL that is jumped back to. -/
theorem Holds.scope {cx : Cx} {S : Ls} {Q : Exit → Act → World → Prop} {c rest : Code} {α : Type} (l : Nat) (I : α → Ls) (Ok : α → Prop) (μ : α → Nat) (hf : findLabel c l = some rest)
    (pass : ∀ x, Ok x → Holds cx (I x) (rest.wp cx.P (Exit.jump l (fun a w => ∃ y, (Ok y ∧ Rep cx (I y) a w) ∧ μ y < μ x) Q)))
    (first : (∀ (S' : Ls) (x : α) (τ : List (Nat × Nat)), Ok x → Sub cx τ S' (I x) → Holds cx S' (rest.wp cx.P (Exit.jump l (fun a w => ∃ x, Ok x ∧ Rep cx (I x) a w) Q))) →
      Holds cx S (c.wp cx.P (Exit.jump l (fun a w => ∃ x, Ok x ∧ Rep cx (I x) a w) Q))) : Holds cx S ((Code.scope c).wp cx.P Q) := by
  intro ρ A a w hr
  refine wp_scope_ix l (fun x a w => Ok x ∧ Rep cx (I x) a w) μ hf ?_ ?_
  · refine first ?_ ρ A a w hr
    intro S' x τ hok hsub ρ' A' a' w' hs'
    obtain ⟨ρ2, A2, hs2⟩ := hsub.rep ⟨ρ', A', hs'⟩
    refine wp_mono (pass x hok ρ2 A2 a' w' hs2) ?_
    intro e a w hq
    cases e with
    | goto l' => obtain ⟨h1, y, h2, _⟩ := hq; exact ⟨h1, y, h2⟩
    | _ => exact hq
  · rintro x a w ⟨hok, ρ, A, hr⟩
    exact pass x hok ρ A a w hr

/-- At the jump. -/
theorem Holds.jump {cx : Cx} {S : Ls} {α : Type} {I : α → Ls} {Ok : α → Prop} {μ : α → Nat} {x : α} {l : Nat} {Q : Exit → Act → World → Prop} (y : α) (hok : Ok y) (hlt : μ y < μ x) (τ : List (Nat × Nat)) (h : Sub cx τ S (I y)) :
    Holds cx S (Exit.jump l (fun a w => ∃ y, (Ok y ∧ Rep cx (I y) a w) ∧ μ y < μ x) Q (.goto l)) :=
  fun ρ A _ _ hs => ⟨rfl, y, ⟨hok, h.rep ⟨ρ, A, hs⟩⟩, hlt⟩

/-! ### Ghosts -/
/-- A nil slice may be taken for one that grows. -/
theorem Holds.grow {cx : Cx} {S : Ls} {G : Act → World → Prop} (t d : Nat) (c : Cs) (hc : c.len = 0) (ht : lk t S.fr = some (.one .nil)) (hn : S.nomB cx.E d = true)
    (h : Holds cx ⟨(t, .one (.sg d 0 0)) :: S.fr, (d, .own c) :: S.hp⟩ G) : Holds cx S G := by
  intro ρ A a w hs
  have hd := Ls.nomB_spec hn
  refine h (fun i => if i = d then ⟨0, 0, 0, false⟩ else ρ i) A a w ⟨hs.df, hs.sz, ?_, ?_, ?_, hs.A1, hs.O, hs.fm, ?_⟩
  · intro s v hv
    simp only [Ls.F, lk] at hv
    split at hv
    · rename_i he
      subst he
      cases hv
      obtain ⟨b, hb⟩ := hs.fr s _ ht
      exact ⟨b, 0, hb, Nat.le_refl _, .inl rfl⟩
    · refine (hs.fr s v hv).mono (fun id hid => ?_) (fun _ _ _ => rfl) (Nat.le_refl _) (fun _ _ h => h)
      rw [if_neg]; rintro rfl; exact hd.f s v hv hid
  · intro i b hb
    simp only [Ls.H, lk] at hb
    split at hb
    · rename_i he
      subst he
      cases hb
      simp only [if_true]
      exact ⟨by simp [hc], .inl rfl⟩
    · rename_i he
      simp only [if_neg he]
      have := hs.hp i b hb
      refine this.mono (fun id hid => ?_) (fun _ _ _ => rfl) (Nat.le_refl _) (fun _ _ h => h) (fun _ _ _ => rfl) (fun hl ho hz => hs.liveA hb hl ho hz)
      rw [if_neg]; rintro rfl; exact hd.g i b hb hid
  · intro i j bi bj hbi hbj li lj hne oi oj zi zj
    by_cases h1 : i = d
    · simp [h1] at zi
    by_cases h2 : j = d
    · simp [h2] at zj
    have hbi' : S.H i = some bi := by simpa only [Ls.H, lk, if_neg h1] using hbi
    have hbj' : S.H j = some bj := by simpa only [Ls.H, lk, if_neg h2] using hbj
    simp only [h1, h2, if_false] at oi oj zi zj ⊢
    exact hs.sep i j bi bj hbi' hbj' li lj hne oi oj zi zj
  · intro i hi
    have : i ≠ d := by rintro rfl; exact hd.e hi
    simp only [this, if_false]
    exact hs.E i hi

/-- A block of integers of the call's own, or one that grows. -/
def Bk.intsOf : Bk → Option (IntKind × List Nat)
  | .own (.ints k xs) => some (k, xs)
  | .grw (.ints k xs) => some (k, xs)
  | _ => none

theorem Bk.live_intsOf {b : Bk} {k : IntKind} {xs : List Nat} (h : b.intsOf = some (k, xs)) : b.live := by
  cases b with
  | dead => simp [Bk.intsOf] at h
  | _ => trivial

/-- What a slice over such a block reads as, in the world as it stands. -/
theorem StRel.view {cx : Cx} {F : Nat → Option AV} {H : Nat → Option Bk} {a : Act} {w : World} {ρ : Nat → Loc} {A : Nat → Prop} (hs : StRel cx F H a w ρ A) {id off len : Nat} {b : Bk} {k : IntKind} {xs : List Nat}
    (hb : H id = some b) (hi : b.intsOf = some (k, xs)) (hl : off + len ≤ xs.length) {v : Value} (hv : (SV.sg id off len).Rel ρ A w v) (A' : Nat → Prop)
    (hA : (ρ id).size ≠ 0 → ¬ A' (ρ id).blk) : ImmB A' w false k ((xs.drop off).take len) v := by
  obtain ⟨ad, cap, hv, hcap, h0⟩ := hv
  have hlen : ((xs.drop off).take len).length = len := by simp; omega
  unfold ImmB Imm
  rw [hlen]
  refine ⟨ad, cap, hv, hcap, (fun h => nomatch h), ?_⟩
  rcases h0 with h0 | ⟨had, hsz⟩
  · exact .inl h0
  by_cases hc0 : cap = 0
  · exact .inl hc0
  refine .inr ?_
  have hz : (ρ id).size ≠ 0 := by omega
  have hcells : (ρ id).blk < w.heap.size ∧ ∀ j, j < xs.length → w.cell? ⟨(ρ id).blk, (ρ id).off + j, none⟩ = some (.int k (xs.getD j 0)) ∧ fits k (xs.getD j 0) := by
    have own : ∀ c : Cs, c = .ints k xs → OwnB cx ρ A w (ρ id) c → (ρ id).blk < w.heap.size ∧ ∀ j, j < xs.length → w.cell? ⟨(ρ id).blk, (ρ id).off + j, none⟩ = some (.int k (xs.getD j 0)) ∧ fits k (xs.getD j 0) := by
      rintro c rfl ⟨_, h2⟩
      rcases h2 with h2 | ⟨_, ha, _, _, cs, T, fz, hh, _, _, hcs⟩
      · exact absurd h2 hz
      · refine ⟨hs.A1 _ ha, fun j hj => ?_⟩
        obtain ⟨u, hu, hr⟩ := hcs j hj
        simp only [Cs.at, SV.Rel] at hr
        obtain ⟨rfl, hft⟩ := hr
        exact ⟨by simp only [World.cell?, hh, hu, Option.isSome_none, Bool.false_eq_true, if_false], hft⟩
    have hrel := hs.hp id b hb
    cases b with
    | own c =>
      cases c with
      | ints k' xs' => simp only [Bk.intsOf, Option.some.injEq, Prod.mk.injEq] at hi; obtain ⟨rfl, rfl⟩ := hi; exact own _ rfl hrel
      | mix l => simp [Bk.intsOf] at hi
    | grw c =>
      cases c with
      | ints k' xs' =>
        simp only [Bk.intsOf, Option.some.injEq, Prod.mk.injEq] at hi; obtain ⟨rfl, rfl⟩ := hi
        rcases hrel with hrel | ⟨_, hsz', h2⟩
        · exact own _ rfl hrel
        · rcases h2 with h2 | ⟨_, hlt, hcs⟩
          · exact absurd h2 hz
          · refine ⟨hlt, fun j hj => ?_⟩
            obtain ⟨u, hu, hr⟩ := hcs j hj
            simp only [Cs.at, SV.Rel] at hr
            rw [hu, hr.1]
            exact ⟨rfl, hr.2⟩
      | mix l => simp [Bk.intsOf] at hi
    | dead => simp [Bk.intsOf] at hi
  refine ⟨(ρ id).blk, (ρ id).off + off, had, hA hz, hcells.1, fun i hi' => ?_⟩
  obtain ⟨hcell, hft⟩ := hcells.2 (off + i) (by omega)
  refine ⟨_, by rw [Nat.add_assoc]; exact hcell, ?_⟩
  simp only [List.getD_eq_getElem?_getD, List.getElem?_take, List.getElem?_drop] at hft ⊢
  rw [if_pos hi']
  exact ⟨rfl, hft⟩

/-- A slice of the call's own is written no more: it is a value from here on. -/
theorem Holds.freeze {cx : Cx} {S : Ls} {G : Act → World → Prop} (t id : Nat) {off len : Nat} {b : Bk} {k : IntKind} {xs : List Nat} (ht : lk t S.fr = some (.one (.sg id off len)))
    (hb : lk id S.hp = some b) (hi : b.intsOf = some (k, xs)) (hl : off + len ≤ xs.length) (_hM : ∀ i, ¬ cx.M i)
    (h : Holds cx ⟨(t, .one (.bs false k ((xs.drop off).take len))) :: S.fr, (id, .dead) :: S.hp⟩ G) : Holds cx S G := by
  intro ρ A a w hs
  by_cases hz : (ρ id).own = true ∧ (ρ id).size ≠ 0
  · refine h ρ (fun i => A i ∧ i ≠ (ρ id).blk) a w ⟨hs.df, hs.sz, ?_, ?_, ?_, fun i hi => hs.A1 i hi.1, ?_, hs.fm, hs.E⟩
    · intro s v hv
      simp only [Ls.F, lk] at hv
      split at hv
      · rename_i he
        subst he
        cases hv
        exact hs.view hb hi hl (hs.fr s _ ht) _ (fun _ h => h.2 rfl)
      · exact (hs.fr s v hv).mono (fun _ _ => rfl) (fun _ _ _ => rfl) (Nat.le_refl _) (fun _ _ h => h.1)
    · intro i b' hb'
      simp only [Ls.H, lk] at hb'
      split at hb'
      · cases hb'; trivial
      · rename_i hne
        refine (hs.hp i b' hb').mono (fun _ _ => rfl) (fun _ _ _ => rfl) (Nat.le_refl _) (fun _ _ h => h.1) (fun _ _ _ => rfl) (fun hl' ho' hz' => ⟨hs.liveA hb' hl' ho' hz', ?_⟩)
        exact hs.sep i id b' b hb' hb hl' (Bk.live_intsOf hi) hne ho' hz.1 hz' hz.2
    · intro i j bi bj hbi hbj li lj hne oi oj zi zj
      have f : ∀ i b, lk i ((id, Bk.dead) :: S.hp) = some b → b.live → S.H i = some b := by
        intro i b hb hl
        simp only [lk] at hb
        split at hb
        · cases hb; exact hl.elim
        · exact hb
      exact hs.sep i j bi bj (f i bi hbi li) (f j bj hbj lj) li lj hne oi oj zi zj
    · intro i hi
      refine ⟨hs.O i hi, ?_⟩
      rintro rfl
      have hrel := hs.hp id b hb
      have own : ∀ c, OwnB cx ρ A w (ρ id) c → False := fun c hc => by
        rcases hc.2 with h2 | h2
        · exact hz.2 h2
        · exact h2.2.2.1 hi
      cases b with
      | own c => exact own c hrel
      | grw c =>
        rcases hrel with hrel | ⟨ho, _⟩
        · exact own c hrel
        · rw [hz.1] at ho; cases ho
      | dead => simp [Bk.intsOf] at hi
  · refine h ρ A a w ⟨hs.df, hs.sz, ?_, ?_, ?_, hs.A1, hs.O, hs.fm, hs.E⟩
    · intro s v hv
      simp only [Ls.F, lk] at hv
      split at hv
      · rename_i he
        subst he
        cases hv
        refine hs.view hb hi hl (hs.fr s _ ht) _ (fun hz' => ?_)
        have ho : (ρ id).own = false := by
          cases ho : (ρ id).own with
          | false => rfl
          | true => exact absurd ⟨ho, hz'⟩ hz
        have hrel := hs.hp id b hb
        have own : ∀ c, OwnB cx ρ A w (ρ id) c → False := fun c hc => by
          rcases hc.2 with h2 | h2
          · exact hz' h2
          · rw [ho] at h2; cases h2.1
        cases b with
        | own c => exact (own c hrel).elim
        | grw c =>
          rcases hrel with hrel | ⟨_, _, h2⟩
          · exact (own c hrel).elim
          · rcases h2 with h2 | h2
            · exact absurd h2 hz'
            · exact h2.1
        | dead => simp [Bk.intsOf] at hi
      · exact hs.fr s v hv
    · intro i b' hb'
      simp only [Ls.H, lk] at hb'
      split at hb'
      · cases hb'; trivial
      · exact hs.hp i b' hb'
    · intro i j bi bj hbi hbj li lj hne oi oj zi zj
      have f : ∀ i b, lk i ((id, Bk.dead) :: S.hp) = some b → b.live → S.H i = some b := by
        intro i b hb hl
        simp only [lk] at hb
        split at hb
        · cases hb; exact hl.elim
        · exact hb
      exact hs.sep i j bi bj (f i bi hbi li) (f j bj hbj lj) li lj hne oi oj zi zj

end Go.Fx

/- FxD: contracts: entry, return, and a call met by a contract. -/
namespace Go.Fx
open Go.RowKit (Below)

def RelL (ρ : Nat → Loc) (A : Nat → Prop) (w : World) : List AV → List Value → Prop
  | [], [] => True
  | x :: xs, v :: vs => x.Rel ρ A w v ∧ RelL ρ A w xs vs
  | _, _ => False

def ρz : Nat → Loc := fun _ => ⟨0, 0, 0, false⟩

/-- A CONTRACT BETWEEN VALUES: whatever the call is told that reads so, it answers this, and only makes new blocks. 'O': blocks that no slice among the arguments lies in (nor then one of the answer). -/
def VC (P : Program) (f : Nat) (args : List AV) (res : AV) : Prop :=
  ∀ (O : Nat → Prop) (w : World) (vs : List Value), (∀ b, O b → b < w.heap.size) → RelL ρz O w args vs →
    Calls P f vs.toArray w fun e w' => ∃ r, e = .returned r ∧ res.Rel ρz O w' r ∧ Below w.heap.size w w'

/-- A new block of integers, as a call leaves it. -/
def FreshB (n : Nat) (w : World) (l : Loc) (k : IntKind) (xs : List Nat) : Prop :=
  xs.length ≤ l.size ∧ (l.size = 0 ∨ (l.own = true ∧ n ≤ l.blk ∧ l.blk < w.heap.size ∧ ∃ cs T fz, w.heap[l.blk]? = some (.cells cs T fz) ∧ l.off + l.size ≤ cs.size ∧ Unfrozen fz cs.size ∧
      ∀ j, j < xs.length → cs[l.off + j]? = some (.int k (xs.getD j 0)) ∧ fits k (xs.getD j 0)))

/-- ... that hands back a slice of its own (the block is block 0 of the answer 'res'). -/
def VF (P : Program) (f : Nat) (args : List AV) (res : AV) (k : IntKind) (xs : List Nat) : Prop :=
  ∀ (O : Nat → Prop) (w : World) (vs : List Value), (∀ b, O b → b < w.heap.size) → RelL ρz O w args vs →
    Calls P f vs.toArray w fun e w' => ∃ r l, e = .returned r ∧ res.Rel (fun _ => l) O w' r ∧ Below w.heap.size w w' ∧ FreshB w.heap.size w' l k xs

/-- ... that writes into blocks of its caller's ('E'; 'E'' what they then hold). -/
def UC (P : Program) (f : Nat) (args : List AV) (E : List (Nat × Cs)) (res : AV) (E' : List (Nat × Cs)) : Prop :=
  ∀ (ρ : Nat → Loc) (O : Nat → Prop) (w : World) (vs : List Value),
    (∀ b, O b → b < w.heap.size) →
    (∀ x ∈ E, (ρ x.1).own = true ∧ (ρ x.1).size ≠ 0 ∧ ¬ O (ρ x.1).blk ∧ x.2.len ≤ (ρ x.1).size ∧ ∃ cs T fz, w.heap[(ρ x.1).blk]? = some (.cells cs T fz) ∧ (ρ x.1).off + (ρ x.1).size ≤ cs.size ∧ Unfrozen fz cs.size ∧
        ∀ j, j < x.2.len → ∃ u, cs[(ρ x.1).off + j]? = some u ∧ (x.2.at j).Rel ρ (fun b => O b ∨ ∃ y ∈ E, (ρ y.1).blk = b) w u) →
    (∀ x ∈ E, ∀ y ∈ E, x.1 ≠ y.1 → (ρ x.1).blk ≠ (ρ y.1).blk) →
    RelL ρ (fun b => O b ∨ ∃ x ∈ E, (ρ x.1).blk = b) w args vs →
    Calls P f vs.toArray w fun e w' => ∃ r, e = .returned r ∧ res.Rel ρ (fun b => O b ∨ ∃ x ∈ E, (ρ x.1).blk = b) w' r ∧
      FrameOK (fun b => ∃ x ∈ E, (ρ x.1).blk = b) w w' ∧
      (∀ x ∈ E', ∃ cs T fz, w'.heap[(ρ x.1).blk]? = some (.cells cs T fz) ∧ (ρ x.1).off + (ρ x.1).size ≤ cs.size ∧ Unfrozen fz cs.size ∧ x.2.len ≤ (ρ x.1).size ∧
        ∀ j, j < x.2.len → ∃ u, cs[(ρ x.1).off + j]? = some u ∧ (x.2.at j).Rel ρ (fun b => O b ∨ ∃ y ∈ E, (ρ y.1).blk = b) w' u)

def argsFr : Nat → List AV → List (Nat × AV)
  | _, [] => []
  | k, a :: as => (k, a) :: argsFr (k + 1) as

theorem argsFr_lt : ∀ (as : List AV) (k t : Nat) (v : AV), lk t (argsFr k as) = some v → k ≤ t ∧ as[t - k]? = some v
  | [], k, t, v, h => by simp [argsFr, lk] at h
  | a :: as, k, t, v, h => by
    simp only [argsFr, lk] at h
    split at h
    · rename_i he; subst he; cases h; simp
    · rename_i he
      obtain ⟨h1, h2⟩ := argsFr_lt as (k + 1) t v h
      refine ⟨by omega, ?_⟩
      rw [show t - k = (t - (k + 1)) + 1 by omega]
      simpa using h2

theorem RelL.len {ρ : Nat → Loc} {A : Nat → Prop} {w : World} : ∀ {as : List AV} {vs : List Value}, RelL ρ A w as vs → as.length = vs.length
  | [], [], _ => rfl
  | _ :: _, _ :: _, h => by simp [RelL.len h.2]
  | [], _ :: _, h => h.elim
  | _ :: _, [], h => h.elim
theorem RelL.at {ρ : Nat → Loc} {A : Nat → Prop} {w : World} : ∀ {as : List AV} {vs : List Value}, RelL ρ A w as vs → ∀ (i : Nat) (a : AV), as[i]? = some a → ∃ v, vs[i]? = some v ∧ a.Rel ρ A w v
  | [], [], _, i, a, h => by simp at h
  | _ :: _, _ :: _, h, 0, a, ha => by simp at ha; subst ha; exact ⟨_, rfl, h.1⟩
  | _ :: _, _ :: _, h, i + 1, a, ha => by simpa using RelL.at h.2 i a (by simpa using ha)
  | [], _ :: _, h, _, _, _ => h.elim
  | _ :: _, [], h, _, _, _ => h.elim

theorem tmps_at {vs : List Value} {n t : Nat} {v : Value} (h : vs[t]? = some v) : (vs.toArray ++ Array.replicate n undef).getD t undef = v := by
  have hlt : t < vs.length := by
    rcases Nat.lt_or_ge t vs.length with h' | h'
    · exact h'
    · simp [List.getElem?_eq_none h'] at h
  rw [Array.getD_eq_getD_getElem?, Array.getElem?_append_left (by simpa using hlt)]
  simp [h]

/-- WHAT A BODY MUST DO to meet a contract between values: here 'cx' knows nothing but O. -/
def cxV (P : Program) (nt : Nat) (w : World) (O : Nat → Prop) : Cx := { P, nt, w0 := w, O, M := fun _ => False, E := [], ρ0 := ρz }

theorem VC.enter {P : Program} {f : Nat} {fn : Func} {c : Code} {args : List AV} {res : AV} (hf : P.funcs[f]? = some fn) (hb : fn.body = some c) (hn : args.length ≤ fn.ntmps)
    (h : ∀ (O : Nat → Prop) (w : World), Holds (cxV P fn.ntmps w O) ⟨argsFr 0 args, []⟩ (c.wp P (bodyPost P fn fun e w' => ∃ r, e = .returned r ∧ res.Rel ρz O w' r ∧ Below w.heap.size w w'))) : VC P f args res := by
  intro O w vs hO hr
  refine calls_of_wp hf hb ?_
  refine h O w ρz O _ w ⟨rfl, ?_, ?_, ?_, ?_, hO, fun _ h => h, ⟨rfl, rfl, rfl, Nat.le_refl _, fun _ _ _ => rfl⟩, fun _ h => by cases h⟩
  · have := hr.len
    simp [cxV]; omega
  · intro t v hv
    obtain ⟨_, h2⟩ := argsFr_lt args 0 t v hv
    obtain ⟨u, hu, hur⟩ := hr.at _ _ h2
    rw [Nat.sub_zero] at hu
    rw [tmps_at hu]; exact hur
  · intro i b hb; simp [Ls.H, lk] at hb
  · intro i j bi bj hbi; simp [Ls.H, lk] at hbi

theorem VF.enter {P : Program} {f : Nat} {fn : Func} {c : Code} {args : List AV} {res : AV} {k : IntKind} {xs : List Nat} (hf : P.funcs[f]? = some fn) (hb : fn.body = some c) (hn : args.length ≤ fn.ntmps)
    (h : ∀ (O : Nat → Prop) (w : World), Holds (cxV P fn.ntmps w O) ⟨argsFr 0 args, []⟩ (c.wp P (bodyPost P fn fun e w' => ∃ r l, e = .returned r ∧ res.Rel (fun _ => l) O w' r ∧ Below w.heap.size w w' ∧ FreshB w.heap.size w' l k xs))) : VF P f args res k xs := by
  intro O w vs hO hr
  refine calls_of_wp hf hb ?_
  refine h O w ρz O _ w ⟨rfl, ?_, ?_, ?_, ?_, hO, fun _ h => h, ⟨rfl, rfl, rfl, Nat.le_refl _, fun _ _ _ => rfl⟩, fun _ h => by cases h⟩
  · have := hr.len
    simp [cxV]; omega
  · intro t v hv
    obtain ⟨_, h2⟩ := argsFr_lt args 0 t v hv
    obtain ⟨u, hu, hur⟩ := hr.at _ _ h2
    rw [Nat.sub_zero] at hu
    rw [tmps_at hu]; exact hur
  · intro i b hb; simp [Ls.H, lk] at hb
  · intro i j bi bj hbi; simp [Ls.H, lk] at hbi

def cxU (P : Program) (nt : Nat) (w : World) (O : Nat → Prop) (ρ : Nat → Loc) (E : List (Nat × Cs)) : Cx :=
  { P, nt, w0 := w, O, M := fun b => ∃ x ∈ E, (ρ x.1).blk = b, E := E.map (·.1), ρ0 := ρ }

theorem lk_map_mem {E : List (Nat × Cs)} {i : Nat} {b : Bk} : lk i (E.map fun x => (x.1, Bk.own x.2)) = some b → ∃ c, (i, c) ∈ E ∧ b = .own c := by
  intro h
  have := lk_mem h
  simp only [List.mem_map, Prod.mk.injEq] at this
  obtain ⟨x, hx, rfl, rfl⟩ := this
  exact ⟨_, hx, rfl⟩

theorem UC.enter {P : Program} {f : Nat} {fn : Func} {c : Code} {args : List AV} {res : AV} {E E' : List (Nat × Cs)} (hf : P.funcs[f]? = some fn) (hb : fn.body = some c) (hn : args.length ≤ fn.ntmps)
    (h : ∀ (ρ : Nat → Loc) (O : Nat → Prop) (w : World), Holds (cxU P fn.ntmps w O ρ E) ⟨argsFr 0 args, E.map fun x => (x.1, Bk.own x.2)⟩ (c.wp P (bodyPost P fn fun e w' => ∃ r, e = .returned r ∧
      res.Rel ρ (fun b => O b ∨ ∃ x ∈ E, (ρ x.1).blk = b) w' r ∧ FrameOK (fun b => ∃ x ∈ E, (ρ x.1).blk = b) w w' ∧
      (∀ x ∈ E', ∃ cs T fz, w'.heap[(ρ x.1).blk]? = some (.cells cs T fz) ∧ (ρ x.1).off + (ρ x.1).size ≤ cs.size ∧ Unfrozen fz cs.size ∧ x.2.len ≤ (ρ x.1).size ∧
        ∀ j, j < x.2.len → ∃ u, cs[(ρ x.1).off + j]? = some u ∧ (x.2.at j).Rel ρ (fun b => O b ∨ ∃ y ∈ E, (ρ y.1).blk = b) w' u)))) : UC P f args E res E' := by
  intro ρ O w vs hO hE hsep hr
  refine calls_of_wp hf hb ?_
  refine h ρ O w ρ (fun b => O b ∨ ∃ x ∈ E, (ρ x.1).blk = b) _ w ⟨rfl, ?_, ?_, ?_, ?_, ?_, fun _ h => .inl h, ⟨rfl, rfl, rfl, Nat.le_refl _, fun _ _ _ => rfl⟩, fun _ _ => rfl⟩
  · have := hr.len
    simp [cxU]; omega
  · intro t v hv
    obtain ⟨_, h2⟩ := argsFr_lt args 0 t v hv
    obtain ⟨u, hu, hur⟩ := hr.at _ _ h2
    rw [Nat.sub_zero] at hu
    rw [tmps_at hu]; exact hur
  · intro i b hb
    obtain ⟨c, hc, rfl⟩ := lk_map_mem hb
    obtain ⟨h1, h2, h3, h4, cs, T, fz, h5, h6, h7, h8⟩ := hE _ hc
    exact ⟨h4, .inr ⟨h1, .inr ⟨_, hc, rfl⟩, h3, .inr ⟨_, hc, rfl⟩, cs, T, fz, h5, h6, h7, h8⟩⟩
  · intro i j bi bj hbi hbj _ _ hne _ _ _ _
    obtain ⟨ci, hci, rfl⟩ := lk_map_mem hbi
    obtain ⟨cj, hcj, rfl⟩ := lk_map_mem hbj
    exact hsep _ hci _ hcj hne
  · rintro b (hb | ⟨x, hx, rfl⟩)
    · exact hO b hb
    · obtain ⟨h1, h2, h3, h4, cs, T, fz, h5, h6, h7, h8⟩ := hE _ hx
      rcases Nat.lt_or_ge (ρ x.1).blk w.heap.size with h | h
      · exact h
      · simp [Array.getElem?_eq_none h] at h5

/-! ### Types -/
/-- The cells of a constant row. -/
def SV.val : SV → Value
  | .n k x => .int k x
  | .b x => .bool x
  | .nil => .slice none 0 0
  | .str xs => .string (strOf xs)
  | _ => undef
def SV.plain : SV → Bool
  | .n k x => decide (fits k x)
  | .b _ | .nil => true
  | .str xs => xs.isEmpty
  | _ => false
def Cs.vals : Cs → List Value
  | .ints k xs => xs.map fun (x : Nat) => Value.int k x
  | .mix l => l.map SV.val
def Cs.plain : Cs → Bool
  | .ints k xs => xs.all fun x => decide (fits k x)
  | .mix l => l.all SV.plain

theorem SV.val_rel {s : SV} (h : s.plain = true) (ρ : Nat → Loc) (A : Nat → Prop) (w : World) : s.Rel ρ A w s.val := by
  cases s <;> first | rfl | exact ⟨none, rfl⟩ | (simp only [SV.plain, List.isEmpty_iff] at h; subst h; exact ⟨rfl, fun _ h => nomatch h⟩) | (simp only [SV.plain, decide_eq_true_eq] at h; exact ⟨rfl, h⟩) | (simp [SV.plain] at h; done)
theorem Cs.vals_at {c : Cs} (h : c.plain = true) (ρ : Nat → Loc) (A : Nat → Prop) (w : World) : c.vals.length = c.len ∧ ∀ j, j < c.len → ∃ u, c.vals[j]? = some u ∧ (c.at j).Rel ρ A w u := by
  cases c with
  | ints k xs =>
    refine ⟨by simp [Cs.vals, Cs.len], fun j hj => ?_⟩
    simp only [Cs.len] at hj
    refine ⟨.int k (xs[j] : Nat), by simp [Cs.vals, hj], ?_⟩
    have := List.all_eq_true.1 h _ (List.getElem_mem hj)
    simp only [decide_eq_true_eq] at this
    have e : xs.getD j 0 = xs[j] := by simp [List.getD_eq_getElem?_getD, hj]
    show Value.int k (xs[j] : Nat) = .int k (xs.getD j 0 : Nat) ∧ fits k (xs.getD j 0)
    rw [e]
    exact ⟨rfl, this⟩
  | mix l =>
    refine ⟨by simp [Cs.vals, Cs.len], fun j hj => ?_⟩
    simp only [Cs.len] at hj
    refine ⟨(l[j]).val, by simp [Cs.vals, hj], ?_⟩
    have : (Cs.mix l).at j = l[j] := by simp [Cs.at, List.getD_eq_getElem?_getD, hj]
    rw [this]
    exact SV.val_rel (List.all_eq_true.1 h _ (List.getElem_mem hj)) ρ A w

/-- What is known of a type: what it is made of, how many cells, how many bytes, and its zero. -/
structure TyI (P : Program) (t : Nat) (d : TypeDesc) (n by' : Nat) (z : Cs) : Prop where
  u : P.underlying t = some d
  i : (P.info? t).map (fun i => (i.size, i.bytes, i.zero.map fun v => v.cells.toList)) = some (n, by', some z.vals)
def TypeDesc.isAgg : TypeDesc → Bool
  | .struct _ => true
  | .array _ _ => true
  | _ => false

section ty
variable {P : Program} {t : Nat} {d : TypeDesc} {n by' : Nat} {z : Cs} (h : TyI P t d n by' z) (w : World)
include h
theorem TyI.info : ∃ i v, P.info? t = some i ∧ i.size = n ∧ i.bytes = by' ∧ i.zero = some v ∧ v.cells.toList = z.vals := by
  have := h.i
  cases hi : P.info? t with
  | none => rw [hi] at this; cases this
  | some i =>
    rw [hi] at this
    simp only [Option.map_some, Option.some.injEq, Prod.mk.injEq] at this
    obtain ⟨h1, h2, h3⟩ := this
    cases hz : i.zero with
    | none => rw [hz] at h3; cases h3
    | some v => rw [hz] at h3; simp only [Option.map_some, Option.some.injEq] at h3; exact ⟨i, v, rfl, h1, h2, hz, h3⟩
theorem TyI.run_und : (underlying t).run P w = .ok d w := run_underlying h.u w
theorem TyI.run_size : (sizeOf t).run P w = .ok n w := by
  obtain ⟨i, v, hi, hs, _⟩ := h.info
  simp [sizeOf, typeInfo, hi, hs]
theorem TyI.run_isAgg : (isAgg t).run P w = .ok (TypeDesc.isAgg d) w := by
  simp only [isAgg, Sem.run_bind, h.run_und w, Result.andThen_ok]
  cases d <;> rfl
theorem TyI.run_zero : ∃ v, (zeroValue t).run P w = .ok v w ∧ v.cells.toList = z.vals := by
  obtain ⟨i, v, hi, _, _, hz, hv⟩ := h.info
  exact ⟨v, by simp [zeroValue, typeInfo, hi, hz], hv⟩
theorem TyI.run_bytes : ∃ i, (typeInfo t).run P w = .ok i w ∧ i.bytes = by' ∧ i.size = n := by
  obtain ⟨i, v, hi, hs, hb, hz, hv⟩ := h.info
  exact ⟨i, by simp [typeInfo, hi], hb, hs⟩
end ty

/-! ### Loading a row -/
theorem addr_add (b o n : Nat) : (⟨b, o, none⟩ : Addr).add n = ⟨b, o + n, none⟩ := by
  unfold Addr.add; split
  · rename_i h; simp [h]
  · rfl

/-- A row of cells read as 'c' says, loaded whole. -/
theorem run_loadCells_rel {P : Program} {w : World} {ρ : Nat → Loc} {A : Nat → Prop} {c : Cs} {b o : Nat} (h : ∀ j, j < c.len → ∃ u, w.cell? ⟨b, o + j, none⟩ = some u ∧ (c.at j).Rel ρ A w u) :
    ∃ cs : Array Value, (loadCells ⟨b, o, none⟩ c.len).run P w = .ok cs w ∧ cs.size = c.len ∧ ∀ j, j < c.len → ∃ u, cs[j]? = some u ∧ (c.at j).Rel ρ A w u := by
  have hc : ∀ j, j < c.len → w.cell? ((⟨b, o, none⟩ : Addr).add j) = some ((w.cell? ⟨b, o + j, none⟩).getD undef) := by
    intro j hj
    obtain ⟨u, hu, _⟩ := h j hj
    rw [addr_add, hu]; rfl
  refine ⟨_, run_loadCells w ⟨b, o, none⟩ c.len (fun j => (w.cell? ⟨b, o + j, none⟩).getD undef) hc, by simp, fun j hj => ?_⟩
  obtain ⟨u, hu, hr⟩ := h j hj
  exact ⟨u, by simp [hj, hu], hr⟩

/-- The cells of a live block of the call's own. -/
theorem OwnB.cells {cx : Cx} {ρ : Nat → Loc} {A : Nat → Prop} {w : World} {l : Loc} {c : Cs} (h : OwnB cx ρ A w l c) (hc : c.len ≠ 0) :
    l.size ≠ 0 ∧ ∀ j, j < c.len → ∃ u, w.cell? ⟨l.blk, l.off + j, none⟩ = some u ∧ (c.at j).Rel ρ A w u := by
  obtain ⟨h1, h2⟩ := h
  rcases h2 with h2 | ⟨_, _, _, _, cs, T, fz, hh, _, _, hcs⟩
  · omega
  · refine ⟨by omega, fun j hj => ?_⟩
    obtain ⟨u, hu, hr⟩ := hcs j hj
    exact ⟨u, by simp only [World.cell?, hh, Option.isSome_none, Bool.false_eq_true, if_false]; exact hu, hr⟩

/-! ### Views: what a value reads as for one that only reads -/
inductive View (H : Nat → Option Bk) : AV → AV → Prop
  | same (x : AV) : View H x x
  | sg (id off len : Nat) (b : Bk) (k : IntKind) (xs : List Nat) : H id = some b → b.intsOf = some (k, xs) → off + len ≤ xs.length → View H (.one (.sg id off len)) (.one (.bs false k ((xs.drop off).take len)))
  | nilB (ex : Bool) (k : IntKind) : View H (.one .nil) (.one (.bs ex k []))
  | nilBB (ex : Bool) : View H (.one .nil) (.one (.bss ex []))
  | ex (k : IntKind) (xs : List Nat) : View H (.one (.bs true k xs)) (.one (.bs false k xs))
  | exx (xss : List (List Nat)) : View H (.one (.bss true xss)) (.one (.bss false xss))
  | sgs (id off len : Nat) (b : Bk) (l : List SV) (xss : List (List Nat)) : H id = some b → (b = .own (.mix l) ∨ b = .grw (.mix l)) → off + len ≤ l.length → xss.length = len →
      (∀ i, i < len → View H (.one (l.getD (off + i) .u)) (.one (.bs false .u8 (xss.getD i [])))) → View H (.one (.sg id off len)) (.one (.bss false xss))
  | two (a b a' b' : AV) : View H a a' → View H b b' → View H (.two a b) (.two a' b')

theorem View.rel {cx : Cx} {F : Nat → Option AV} {H : Nat → Option Bk} {a : Act} {w : World} {ρ : Nat → Loc} {A A' : Nat → Prop} (hs : StRel cx F H a w ρ A) (hA : ∀ b, A' b → A b)
    (hown : ∀ id b, H id = some b → b.live → (ρ id).own = true → (ρ id).size ≠ 0 → ¬ A' (ρ id).blk) {x y : AV} (h : View H x y) : ∀ {v : Value}, x.Rel ρ A w v → y.Rel ρ A' w v := by
  have blk : ∀ id b, H id = some b → b.live → (ρ id).size ≠ 0 → ¬ A' (ρ id).blk := by
    intro id b hb hl hz
    cases ho : (ρ id).own with
    | true => exact hown id b hb hl ho hz
    | false =>
      have hrel := hs.hp id b hb
      have own : ∀ c, OwnB cx ρ A w (ρ id) c → False := fun c hc => by
        rcases hc.2 with h2 | h2
        · exact hz h2
        · rw [ho] at h2; cases h2.1
      cases b with
      | own c => exact (own c hrel).elim
      | grw c =>
        rcases hrel with hrel | ⟨_, _, h2⟩
        · exact (own c hrel).elim
        · rcases h2 with h2 | h2
          · exact absurd h2 hz
          · exact fun h' => h2.1 (hA _ h')
      | dead => exact hl.elim
  induction h with
  | same x => intro v hv; exact hv.mono (fun _ _ => rfl) (fun _ _ _ => rfl) (Nat.le_refl _) (fun b _ h => hA b h)
  | sg id off len b k xs hb hi hl =>
    intro v hv
    exact hs.view hb hi hl hv A' (fun hz => blk id b hb (Bk.live_intsOf hi) hz)
  | nilB ex k =>
    rintro v ⟨ad, rfl⟩
    exact ⟨ad, 0, rfl, Nat.le_refl _, fun _ => rfl, .inl rfl⟩
  | nilBB ex =>
    rintro v ⟨ad, rfl⟩
    exact ⟨ad, 0, rfl, Nat.le_refl _, fun _ => rfl, .inl rfl⟩
  | ex k xs =>
    intro v hv
    obtain ⟨ad, cap, h1, h2, _, h4⟩ := ImmB.mono hv (fun _ _ _ => rfl) (Nat.le_refl _) (fun b _ h => hA b h)
    exact ⟨ad, cap, h1, h2, (fun h => nomatch h), h4⟩
  | exx xss =>
    intro v hv
    have hv' : (AV.one (.bss true xss)).Rel ρ A' w v := AV.Rel.mono hv (fun _ _ => rfl) (fun _ _ _ => rfl) (Nat.le_refl _) (fun b _ h => hA b h)
    obtain ⟨ad, cap, h1, h2, _, h4⟩ := hv'
    exact ⟨ad, cap, h1, h2, (fun h => nomatch h), h4⟩
  | sgs id off len b l xss hb hm hl hlen hel ih =>
    rintro v ⟨ad, cap, hv, hcap, h0⟩
    refine ⟨ad, cap, by rw [hlen]; exact hv, by omega, (fun h => nomatch h), ?_⟩
    rcases h0 with h0 | ⟨had, hsz⟩
    · exact .inl h0
    by_cases hc0 : cap = 0
    · exact .inl hc0
    have hz : (ρ id).size ≠ 0 := by omega
    have hlive : b.live := by rcases hm with rfl | rfl <;> trivial
    have hcells : (ρ id).blk < w.heap.size ∧ ∀ j, j < l.length → ∃ u, w.cell? ⟨(ρ id).blk, (ρ id).off + j, none⟩ = some u ∧ ((Cs.mix l).at j).Rel ρ A w u := by
      have own : OwnB cx ρ A w (ρ id) (.mix l) → (ρ id).blk < w.heap.size ∧ ∀ j, j < l.length → ∃ u, w.cell? ⟨(ρ id).blk, (ρ id).off + j, none⟩ = some u ∧ ((Cs.mix l).at j).Rel ρ A w u := by
        rintro ⟨_, h2⟩
        rcases h2 with h2 | ⟨_, ha, _, _, cs, T, fz, hh, _, _, hcs⟩
        · exact absurd h2 hz
        · refine ⟨hs.A1 _ ha, fun j hj => ?_⟩
          obtain ⟨u, hu, hr⟩ := hcs j hj
          exact ⟨u, by simp only [World.cell?, hh, Option.isSome_none, Bool.false_eq_true, if_false]; exact hu, hr⟩
      have hrel := hs.hp id b hb
      rcases hm with rfl | rfl
      · exact own hrel
      · rcases hrel with hrel | ⟨_, _, h2⟩
        · exact own hrel
        · rcases h2 with h2 | ⟨_, hlt, hcs⟩
          · exact absurd h2 hz
          · exact ⟨hlt, hcs⟩
    refine .inr ⟨(ρ id).blk, (ρ id).off + off, had, blk id b hb hlive hz, hcells.1, fun i hi => ?_⟩
    rw [hlen] at hi
    obtain ⟨u, hu, hr⟩ := hcells.2 (off + i) (by omega)
    refine ⟨u, by rw [Nat.add_assoc]; exact hu, ?_⟩
    exact ih i hi (v := u) hr
  | two a b a' b' _ _ iha ihb =>
    rintro v ⟨x, y, hv, hx, hy⟩
    exact ⟨x, y, hv, iha hx, ihb hy⟩

/-- Neither slices nor pointers. -/
def SV.pure : SV → Bool
  | .b _ | .n _ _ | .z _ | .str _ | .u | .nil => true
  | _ => false
def Cs.pure : Cs → Bool
  | .ints _ _ => true
  | .mix l => l.all SV.pure
def AV.pure : AV → Bool
  | .one s => s.pure
  | .row c => c.pure
  | .two a b => a.pure && b.pure
theorem SV.pure_rel {s : SV} (h : s.pure = true) {ρ ρ' : Nat → Loc} {A A' : Nat → Prop} {w w' : World} {v : Value} (hv : s.Rel ρ A w v) : s.Rel ρ' A' w' v := by
  cases s <;> first | exact hv | (simp [SV.pure] at h; done)
theorem AV.pure_rel {x : AV} : x.pure = true → ∀ {ρ ρ' : Nat → Loc} {A A' : Nat → Prop} {w w' : World} {v : Value}, x.Rel ρ A w v → x.Rel ρ' A' w' v := by
  induction x with
  | one s => intro h _ _ _ _ _ _ _ hv; exact SV.pure_rel h hv
  | row c =>
    rintro h _ _ _ _ _ _ v ⟨cs, hv, hl, hc⟩
    refine ⟨cs, hv, hl, fun j hj => ?_⟩
    obtain ⟨u, hu, hr⟩ := hc j hj
    refine ⟨u, hu, SV.pure_rel ?_ hr⟩
    cases c with
    | ints k xs => rfl
    | mix l =>
      simp only [Cs.len] at hj
      simp only [Cs.at, List.getD_eq_getElem?_getD, hj, List.getElem?_eq_getElem, Option.getD_some]
      exact List.all_eq_true.1 h _ (List.getElem_mem hj)
  | two a b iha ihb =>
    rintro h _ _ _ _ _ _ v ⟨x, y, hv, hx, hy⟩
    simp only [AV.pure, Bool.and_eq_true] at h
    exact ⟨x, y, hv, iha h.1 hx, ihb h.2 hy⟩

/-! ### Return -/
def ResRun (P : Program) (a : Act) (w : World) : ResultVar → Value → Prop
  | .tmp t, v => a.tmps.getD t undef = v
  | .cell t T, v => ∃ ad, asAddr (a.tmps.getD t undef) = Sem.pure ad ∧ (loadVar T ad).run P w = .ok v w

theorem results_one {P : Program} {fn : Func} {a : Act} {w : World} {r : ResultVar} {v : Value} (hr : fn.results = #[r]) (h : ResRun P a w r v) : (results fn a.tmps).run P w = .ok v w := by
  unfold results
  rw [hr]
  cases r with
  | tmp t => simp only [ResRun] at h; subst h; simp
  | cell t T =>
    obtain ⟨ad, h1, h2⟩ := h
    rw [Array.getD_eq_getD_getElem?] at h1
    simp [h1, h2]
theorem results_two {P : Program} {fn : Func} {a : Act} {w : World} {r s : ResultVar} {v u : Value} (hr : fn.results = #[r, s]) (h : ResRun P a w r v) (h' : ResRun P a w s u) :
    (results fn a.tmps).run P w = .ok (.tuple #[v, u]) w := by
  unfold results
  rw [hr]
  cases r with
  | tmp t =>
    simp only [ResRun] at h; subst h
    cases s with
    | tmp t' => simp only [ResRun] at h'; subst h'; simp
    | cell t' T =>
      obtain ⟨ad, h1, h2⟩ := h'
      rw [Array.getD_eq_getD_getElem?] at h1
      simp [h1, h2]
  | cell t T =>
    obtain ⟨ad, h1, h2⟩ := h
    rw [Array.getD_eq_getD_getElem?] at h1
    cases s with
    | tmp t' => simp only [ResRun] at h'; subst h'; simp [h1, h2]
    | cell t' T =>
      obtain ⟨ad', h1', h2'⟩ := h'
      rw [Array.getD_eq_getD_getElem?] at h1'
      simp [h1, h2, h1', h2']
theorem results_none {P : Program} {fn : Func} {a : Act} {w : World} (hr : fn.results = #[]) : (results fn a.tmps).run P w = .ok (.tuple #[]) w := by
  unfold results
  rw [hr]
  simp

/-- A result variable reads so. -/
inductive ResIs (P : Program) (S : Ls) : ResultVar → AV → Prop
  | tmp (t : Nat) (x : AV) : lk t S.fr = some x → ResIs P S (.tmp t) x
  | row (t T id : Nat) (c : Cs) (d : TypeDesc) (by' : Nat) (z : Cs) : lk t S.fr = some (.one (.p id 0)) → lk id S.hp = some (.own c) → TyI P T d c.len by' z → TypeDesc.isAgg d = true → c.len ≠ 0 → ResIs P S (.cell t T) (.row c)
  | cell (t T id : Nat) (c : Cs) (d : TypeDesc) (n by' : Nat) (z : Cs) : lk t S.fr = some (.one (.p id 0)) → lk id S.hp = some (.own c) → TyI P T d n by' z → TypeDesc.isAgg d = false → c.len ≠ 0 → ResIs P S (.cell t T) (.one (c.at 0))

theorem ResIs.run {cx : Cx} {S : Ls} {a : Act} {w : World} {ρ : Nat → Loc} {A : Nat → Prop} (hs : StRel cx S.F S.H a w ρ A) {r : ResultVar} {x : AV} (h : ResIs cx.P S r x) : ∃ v, ResRun cx.P a w r v ∧ x.Rel ρ A w v := by
  cases h with
  | tmp t x ht => exact ⟨_, rfl, hs.fr t x ht⟩
  | row t T id c d by' z ht hid hT hd hc =>
    have hp := hs.fr t _ ht
    simp only [AV.Rel, SV.Rel, Nat.add_zero] at hp
    obtain ⟨_, hcells⟩ := OwnB.cells (hs.hp id _ hid) hc
    obtain ⟨cs, h1, h2, h3⟩ := run_loadCells_rel (P := cx.P) hcells
    refine ⟨.agg cs, ⟨_, by rw [hp]; rfl, ?_⟩, cs, rfl, h2, h3⟩
    unfold loadVar
    simp only [Sem.run_bind, hT.run_isAgg w, hd, Result.andThen_ok, if_true, hT.run_size w, h1, Sem.run_pure]
  | cell t T id c d n by' z ht hid hT hd hc =>
    have hp := hs.fr t _ ht
    simp only [AV.Rel, SV.Rel, Nat.add_zero] at hp
    obtain ⟨_, hcells⟩ := OwnB.cells (hs.hp id _ hid) hc
    obtain ⟨u, hu, hr⟩ := hcells 0 (by omega)
    refine ⟨u, ⟨_, by rw [hp]; rfl, ?_⟩, hr⟩
    unfold loadVar
    rw [Nat.add_zero] at hu
    simp only [Sem.run_bind, hT.run_isAgg w, hd, Result.andThen_ok, Bool.false_eq_true, if_false, run_load, hu]

theorem FrameOK.below {w0 w : World} (h : FrameOK (fun _ => False) w0 w) : Below w0.heap.size w0 w := ⟨h.os, h.tape, h.output, h.size, fun b hb => h.block b hb (fun h => h)⟩

theorem bodyPost_of {P : Program} {fn : Func} {R : Ending → World → Prop} {a : Act} {w : World} {e : Exit} {v : Value} (he : e = .ret ∨ e = .normal) (hd : a.defers = []) (hr : (results fn a.tmps).run P w = .ok v w) (h : R (.returned v) w) : bodyPost P fn R e a w := by
  rcases he with rfl | rfl <;> exact ⟨hd, v, hr, h⟩

section ret
variable {P : Program} {fn : Func} {nt : Nat} {w0 : World} {O : Nat → Prop} {S : Ls} {e : Exit}
theorem retV {x res : AV} (he : e = .ret ∨ e = .normal) (hres : ∀ a w ρ A, StRel (cxV P nt w0 O) S.F S.H a w ρ A → ∃ v, (results fn a.tmps).run P w = .ok v w ∧ x.Rel ρ A w v) (hv : View S.H x res) (hid : res.ids = []) :
    Holds (cxV P nt w0 O) S (bodyPost P fn (fun e w' => ∃ r, e = .returned r ∧ res.Rel ρz O w' r ∧ Below w0.heap.size w0 w') e) := by
  intro ρ A a w hs
  obtain ⟨v, h1, h2⟩ := hres a w ρ A hs
  refine bodyPost_of he hs.df h1 ⟨v, rfl, ?_, hs.fm.below⟩
  have hown : ∀ id b, S.H id = some b → b.live → (ρ id).own = true → (ρ id).size ≠ 0 → ¬ O (ρ id).blk := by
    intro id b hb hl ho hz
    have hrel := hs.hp id b hb
    have own : ∀ c, OwnB (cxV P nt w0 O) ρ A w (ρ id) c → ¬ O (ρ id).blk := fun c hc => by
      rcases hc.2 with h2 | h2
      · exact absurd h2 hz
      · exact h2.2.2.1
    cases b with
    | own c => exact own c hrel
    | grw c =>
      rcases hrel with hrel | ⟨ho', _⟩
      · exact own c hrel
      · rw [ho] at ho'; cases ho'
    | dead => exact hl.elim
  exact (View.rel hs hs.O hown hv h2).mono (fun id hid' => by rw [hid] at hid'; cases hid') (fun _ _ _ => rfl) (Nat.le_refl _) (fun _ _ h => h)

theorem Holds.ret1 {r : ResultVar} {x res : AV} (he : e = .ret ∨ e = .normal) (hf : fn.results = #[r]) (hr : ResIs P S r x) (hv : View S.H x res) (hid : res.ids = []) :
    Holds (cxV P nt w0 O) S (bodyPost P fn (fun e w' => ∃ r, e = .returned r ∧ res.Rel ρz O w' r ∧ Below w0.heap.size w0 w') e) :=
  retV he (fun a w ρ A hs => by
    obtain ⟨v, h1, h2⟩ := ResIs.run hs hr
    exact ⟨v, results_one hf h1, h2⟩) hv hid
theorem Holds.ret2 {r s : ResultVar} {x y res : AV} (he : e = .ret ∨ e = .normal) (hf : fn.results = #[r, s]) (hr : ResIs P S r x) (hr' : ResIs P S s y) (hv : View S.H (.two x y) res) (hid : res.ids = []) :
    Holds (cxV P nt w0 O) S (bodyPost P fn (fun e w' => ∃ r, e = .returned r ∧ res.Rel ρz O w' r ∧ Below w0.heap.size w0 w') e) :=
  retV he (fun a w ρ A hs => by
    obtain ⟨v, h1, h2⟩ := ResIs.run hs hr
    obtain ⟨v', h1', h2'⟩ := ResIs.run hs hr'
    exact ⟨_, results_two hf h1 h1', _, _, rfl, h2, h2'⟩) hv hid
end ret

end Go.Fx

/- FxE: what operations do that only compute, or only read. -/
namespace Go.Fx
open Go.RowKit (Below)

def cst : Value → Option AV
  | .int k (.ofNat n) => if fits k n then some (.one (.n k n)) else none
  | .int .i64 (.negSucc n) => some (.one (.z (.negSucc n)))
  | .bool b => some (.one (.b b))
  | .slice none 0 0 => some (.one .nil)
  | .string s => some (.one (.str (s.data.toList.map UInt8.toNat)))
  | _ => none

def evF (F : Nat → Option AV) : Operand → Option AV
  | .tmp t => F t
  | .const v => cst v
  | .func f => some (.one (.fn f []))
  | .global _ => none

theorem strOf_toNat (s : ByteArray) : strOf (s.data.toList.map UInt8.toNat) = s := by
  unfold strOf
  rw [List.map_map]
  have : (UInt8.ofNat ∘ UInt8.toNat) = id := by funext x; simp
  rw [this, List.map_id]

theorem cst_rel {v : Value} {x : AV} (h : cst v = some x) (ρ : Nat → Loc) (A : Nat → Prop) (w : World) : x.Rel ρ A w v := by
  unfold cst at h
  split at h
  · split at h
    · rename_i hf; cases h; exact ⟨rfl, hf⟩
    · cases h
  · cases h; rfl
  · cases h; rfl
  · cases h; exact ⟨none, rfl⟩
  · cases h
    refine ⟨by rw [strOf_toNat], fun x hx => ?_⟩
    obtain ⟨u, _, rfl⟩ := List.mem_map.1 hx
    exact u.toNat_lt
  · cases h

section
variable {cx : Cx} {ops : Array Oper} {o : Oper} {F : Nat → Option AV} {H : Nat → Option Bk}

theorem ev_rel {a : Act} {w : World} {ρ : Nat → Loc} {A : Nat → Prop} (hs : StRel cx F H a w ρ A) {x : Operand} {v : AV} (h : evF F x = some v) : v.Rel ρ A w (a.eval x) := by
  cases x with
  | tmp t => exact hs.fr t v h
  | const c => exact cst_rel h ρ A w
  | func f => simp only [evF, Option.some.injEq] at h; subst h; rfl
  | global g => cases h

theorem evF_mono {F' : Nat → Option AV} (h : ∀ t v, F t = some v → F' t = some v) {x : Operand} {v : AV} (hx : evF F x = some v) : evF F' x = some v := by
  cases x with
  | tmp t => exact h t v hx
  | const c => exact hx
  | func f => exact hx
  | global g => exact hx

/-- The operation is wanted, and its slot is there. -/
structure Up (cx : Cx) (ops : Array Oper) (F : Nat → Option AV) (o : Oper) : Prop where
  g : o.guard = none ∨ ∃ j want oj t, o.guard = some (j, want) ∧ ops[j]? = some oj ∧ oj.dst = some t ∧ F t = some (.one (.b want))
  d : ∀ t, o.dst = some t → t < cx.nt

theorem dlt {o : Oper} {n t : Nat} (h : o.dst = some t) (hlt : t < n) : ∀ t, o.dst = some t → t < n := by
  intro s hs; rw [h] at hs; cases hs; exact hlt
theorem dno {o : Oper} {n : Nat} (h : o.dst = none) : ∀ t, o.dst = some t → t < n := by
  intro s hs; rw [h] at hs; cases hs

theorem getD_of_bool {tmps : Array Value} {t : Nat} {b : Bool} (h : tmps.getD t undef = .bool b) : tmps[t]? = some (.bool b) := by
  rw [Array.getD_eq_getD_getElem?] at h
  cases ht : tmps[t]? with
  | none => rw [ht] at h; cases h
  | some v => rw [ht] at h; simp only [Option.getD_some] at h; rw [h]

theorem yielded_of {a : Act} {w : World} {ρ : Nat → Loc} {A : Nat → Prop} (hs : StRel cx F H a w ρ A) {j t : Nat} {b : Bool} {oj : Oper} (h1 : ops[j]? = some oj) (h2 : oj.dst = some t) (h3 : F t = some (.one (.b b))) :
    yielded ops a.tmps j = some b := by
  have := getD_of_bool (hs.fr t _ h3)
  simp [yielded, h1, h2, this]

theorem Up.wanted (h : Up cx ops F o) {a : Act} {w : World} {ρ : Nat → Loc} {A : Nat → Prop} (hs : StRel cx F H a w ρ A) : Region.wanted o (yielded ops a.tmps) = true := by
  rcases h.g with h | ⟨j, want, oj, t, h1, h2, h3, h4⟩
  · simp [Region.wanted, h]
  · simp [Region.wanted, h1, yielded_of hs h2 h3 h4]

theorem Up.mono (h : Up cx ops F o) {F' : Nat → Option AV} (hF : ∀ t v, F t = some v → F' t = some v) : Up cx ops F' o :=
  ⟨h.g.imp id fun ⟨j, want, oj, t, h1, h2, h3, h4⟩ => ⟨j, want, oj, t, h1, h2, h3, hF _ _ h4⟩, h.d⟩

/-- One that yields a value and leaves the world alone. -/
theorem Doing.val {av : AV} (hu : Up cx ops F o)
    (h : ∀ ρ A a w, StRel cx F H a w ρ A → ∃ v, (execOp a.eval o).run cx.P w = .ok (.value v) w ∧ av.Rel ρ A w v) : Doing cx ops o F H ⟨av, [], []⟩ := by
  intro F' H' hF hH _ ρ A a w hs K Q hK
  have hs' := hs.sub hF hH
  unfold StepOp
  rw [if_pos (hu.wanted hs')]
  obtain ⟨v, h1, h2⟩ := h ρ A a w hs'
  unfold Oper.wp
  rw [h1]
  exact hK v w ρ A (hs.put hu.d h2)

theorem Doing.skip (j : Nat) (want : Bool) (oj : Oper) (t : Nat) (hg : o.guard = some (j, want)) (h1 : ops[j]? = some oj) (h2 : oj.dst = some t) (h3 : F t = some (.one (.b (!want)))) (hd : ∀ t, o.dst = some t → t < cx.nt) :
    Doing cx ops o F H ⟨.one .u, [], []⟩ := by
  intro F' H' hF hH _ ρ A a w hs K Q hK
  have hs' := hs.sub hF hH
  unfold StepOp
  rw [if_neg (by simp [Region.wanted, hg, yielded_of hs' h1 h2 h3])]
  exact hK undef w ρ A (hs.put hd rfl)

/-! ### Moves -/
theorem Y.move {x : Operand} {v : AV} (hu : Up cx ops F o) (ho : o.op = .move x) (hx : evF F x = some v) : Doing cx ops o F H ⟨v, [], []⟩ :=
  Doing.val hu fun _ _ a w hs => ⟨_, by simp only [execOp, ho]; rfl, ev_rel hs hx⟩
theorem Y.assign {x : Operand} {v : AV} (hu : Up cx ops F o) (ho : o.op = .assign x) (hx : evF F x = some v) : Doing cx ops o F H ⟨v, [], []⟩ :=
  Doing.val hu fun _ _ a w hs => ⟨_, by simp only [execOp, ho]; rfl, ev_rel hs hx⟩
theorem Y.pick {c x y : Operand} {v u : AV} (b : Bool) (hu : Up cx ops F o) (ho : o.op = .pick c x y) (hc : evF F c = some (.one (.b b))) (hx : b = true → evF F x = some v) (hy : b = false → evF F y = some v) (_ : u = v := by rfl) :
    Doing cx ops o F H ⟨v, [], []⟩ :=
  Doing.val hu fun _ _ a w hs => by
    have h := ev_rel hs hc
    simp only [AV.Rel, SV.Rel] at h
    cases b with
    | true => exact ⟨a.eval x, by simp only [execOp, ho, h]; rfl, ev_rel hs (hx rfl)⟩
    | false => exact ⟨a.eval y, by simp only [execOp, ho, h]; rfl, ev_rel hs (hy rfl)⟩
theorem Y.ext0 {x : Operand} {v u : AV} (hu : Up cx ops F o) (ho : o.op = .extract x 0) (hx : evF F x = some (.two v u)) : Doing cx ops o F H ⟨v, [], []⟩ :=
  Doing.val hu fun _ _ a w hs => by
    obtain ⟨p, q, h, hp, _⟩ := ev_rel hs hx
    exact ⟨p, by simp only [execOp, ho, h]; rfl, hp⟩
theorem Y.ext1 {x : Operand} {v u : AV} (hu : Up cx ops F o) (ho : o.op = .extract x 1) (hx : evF F x = some (.two v u)) : Doing cx ops o F H ⟨u, [], []⟩ :=
  Doing.val hu fun _ _ a w hs => by
    obtain ⟨p, q, h, _, hq⟩ := ev_rel hs hx
    exact ⟨q, by simp only [execOp, ho, h]; rfl, hq⟩

/-! ### Whole numbers -/
theorem eqGuard_int {P : Program} {w : World} (op : BinOp) (T : TypeId) (x y : Operand) (k k' : IntKind) (m n : Int) : (eqGuard op T x y (.int k m) (.int k' n)).run P w = .ok () w := by
  cases op <;> rfl
theorem wrap_u {k : IntKind} {m : Nat} (hk : k.signed = false) (hm : 2 ^ k.bits = m) (x : Int) : k.wrap x = x % (m : Int) := by
  unfold IntKind.wrap
  rw [hk]
  simp only [Bool.false_and, Bool.false_eq_true, if_false]
  rw [← hm]; simp
theorem wrap_u_nat {k : IntKind} {m : Nat} (hk : k.signed = false) (hm : 2 ^ k.bits = m) (x : Nat) : k.wrap (x : Int) = ((x % m : Nat) : Int) := by
  rw [wrap_u hk hm]; simp
theorem wrap_i64 (x : Int) (h1 : -9223372036854775808 ≤ x) (h2 : x < 9223372036854775808) : IntKind.i64.wrap x = x := by
  have e : IntKind.i64.wrap x = (if x % 18446744073709551616 ≥ 9223372036854775808 then x % 18446744073709551616 - 18446744073709551616 else x % 18446744073709551616) := by
    simp [IntKind.wrap, IntKind.signed, IntKind.bits]
  rw [e]; split <;> omega

theorem fits.lt {k : IntKind} {M a : Nat} (h : fits k a) (hk : k.signed = false) (hm : 2 ^ k.bits = M) : a < M := by
  rcases h with h | h
  · rw [hk] at h; cases h
  · rw [← hm]; exact h
theorem fits.mk {k : IntKind} {M a : Nat} (hm : 2 ^ k.bits = M) (h : a < M) : fits k a := .inr (by rw [hm]; exact h)
theorem fits.i64 {a : Nat} : fits .i64 a := .inl rfl
theorem fits.le {k : IntKind} {a b : Nat} (h : fits k a) (hb : b ≤ a) : fits k b := h.imp id fun h => Nat.lt_of_le_of_lt hb h
theorem modlt {k : IntKind} {M : Nat} (hm : 2 ^ k.bits = M) (x : Nat) : x % M < M := Nat.mod_lt _ (by rw [← hm]; exact Nat.two_pow_pos _)

/-- Both operands are whole numbers of one kind. -/
theorem Y.bin {op : BinOp} {T T' : TypeId} {x y : Operand} {k : IntKind} {m n : Nat} {av : AV} (hu : Up cx ops F o) (ho : o.op = .binOp op T x y T') (hx : evF F x = some (.one (.n k m))) (hy : evF F y = some (.one (.n k n)))
    (h : fits k m → fits k n → ∀ (P : Program) (w : World) (ρ : Nat → Loc) (A : Nat → Prop), ∃ v, (binOp op T (.int k m) (.int k n)).run P w = .ok v w ∧ av.Rel ρ A w v) : Doing cx ops o F H ⟨av, [], []⟩ :=
  Doing.val hu fun ρ A a w hs => by
    obtain ⟨h1, f1⟩ := ev_rel hs hx
    obtain ⟨h2, f2⟩ := ev_rel hs hy
    obtain ⟨v, hv, hr⟩ := h f1 f2 cx.P w ρ A
    exact ⟨v, by simp only [execOp, ho, h1, h2, Sem.run_bind, eqGuard_int, Result.andThen_ok, hv, Sem.run_pure], hr⟩

theorem binOp_int {op : BinOp} {T : TypeId} {k : IntKind} {m n : Int} (h : op ≠ .shl ∧ op ≠ .shr) : binOp op T (.int k m) (.int k n) =
    match op with
    | .add | .sub | .mul => Op.intArith op k m n
    | .quo | .rem => Op.intDiv op k m n
    | .and | .or | .xor | .andNot => Op.intBits op k m n
    | _ => Op.intCmp op m n := by
  cases op <;> first | (simp [binOp]; done) | exact absurd rfl h.1 | exact absurd rfl h.2

section u
variable {T T' : TypeId} {x y : Operand} {k : IntKind} {M a b : Nat} (hk : k.signed = false) (hm : 2 ^ k.bits = M)
include hk hm
theorem Y.add (hu : Up cx ops F o) (ho : o.op = .binOp .add T x y T') (hx : evF F x = some (.one (.n k a))) (hy : evF F y = some (.one (.n k b))) : Doing cx ops o F H ⟨.one (.n k ((a + b) % M)), [], []⟩ :=
  Y.bin hu ho hx hy fun _ _ P w _ _ => ⟨_, by rw [binOp_int (by simp)]; rfl, by rw [← Int.natCast_add, wrap_u_nat hk hm], fits.mk hm (modlt hm _)⟩
theorem Y.mul (hu : Up cx ops F o) (ho : o.op = .binOp .mul T x y T') (hx : evF F x = some (.one (.n k a))) (hy : evF F y = some (.one (.n k b))) : Doing cx ops o F H ⟨.one (.n k (a * b % M)), [], []⟩ :=
  Y.bin hu ho hx hy fun _ _ P w _ _ => ⟨_, by rw [binOp_int (by simp)]; rfl, by rw [← Int.natCast_mul, wrap_u_nat hk hm], fits.mk hm (modlt hm _)⟩
theorem Y.sub (hu : Up cx ops F o) (ho : o.op = .binOp .sub T x y T') (hx : evF F x = some (.one (.n k a))) (hy : evF F y = some (.one (.n k b))) : Doing cx ops o F H ⟨.one (.n k ((a + (M - b)) % M)), [], []⟩ :=
  Y.bin hu ho hx hy fun _ fb P w _ _ => ⟨_, by rw [binOp_int (by simp)]; rfl, by
    have hb : b ≤ M := Nat.le_of_lt (fb.lt hk hm)
    rw [wrap_u hk hm]
    congr 1
    rw [Int.natCast_emod, Int.natCast_add, Int.ofNat_sub hb, show (a : Int) + ((M : Int) - b) = (a - b) + M by omega, Int.add_emod_right], fits.mk hm (modlt hm _)⟩
theorem Y.subLe (hu : Up cx ops F o) (ho : o.op = .binOp .sub T x y T') (hx : evF F x = some (.one (.n k a))) (hy : evF F y = some (.one (.n k b))) (hb : b ≤ a) : Doing cx ops o F H ⟨.one (.n k (a - b)), [], []⟩ :=
  Y.bin hu ho hx hy fun fa _ P w _ _ => ⟨_, by rw [binOp_int (by simp)]; rfl, by
    have ha := fa.lt hk hm
    rw [wrap_u hk hm, Int.ofNat_sub hb, Int.emod_eq_of_lt (by omega) (by omega)], fa.le (Nat.sub_le _ _)⟩
theorem Y.quo (hu : Up cx ops F o) (ho : o.op = .binOp .quo T x y T') (hx : evF F x = some (.one (.n k a))) (hy : evF F y = some (.one (.n k b))) (hb : b ≠ 0) : Doing cx ops o F H ⟨.one (.n k (a / b)), [], []⟩ :=
  Y.bin hu ho hx hy fun fa _ P w _ _ => ⟨_, by
    rw [binOp_int (by simp)]; simp only [Op.intDiv]; rw [if_neg (by omega)]; rfl, by
    rw [show (a : Int).tdiv (b : Int) = ((a / b : Nat) : Int) from (Int.ofNat_tdiv a b).symm, wrap_u_nat hk hm, Nat.mod_eq_of_lt (Nat.lt_of_le_of_lt (Nat.div_le_self a b) (fa.lt hk hm))], fa.le (Nat.div_le_self _ _)⟩
omit hk in
theorem bitsN (hM : a < M) : (BitVec.ofInt k.bits (a : Int)).toNat = a := by
  rw [BitVec.toNat_ofInt]
  rw [hm, ← Int.natCast_emod, Int.toNat_natCast, Nat.mod_eq_of_lt hM]
theorem Y.and (hu : Up cx ops F o) (ho : o.op = .binOp .and T x y T') (hx : evF F x = some (.one (.n k a))) (hy : evF F y = some (.one (.n k b))) : Doing cx ops o F H ⟨.one (.n k (a &&& b)), [], []⟩ :=
  Y.bin hu ho hx hy fun fa fb P w _ _ => ⟨_, by rw [binOp_int (by simp)]; rfl, by
    have ha := fa.lt hk hm
    have hb := fb.lt hk hm
    simp only [BitVec.toNat_and]
    rw [bitsN hm ha, bitsN hm hb, wrap_u_nat hk hm, Nat.mod_eq_of_lt (Nat.lt_of_le_of_lt Nat.and_le_left ha)], fa.le Nat.and_le_left⟩
omit hk in
theorem lt_pow (hM : a < M) : a < 2 ^ k.bits := by rw [hm]; exact hM
theorem Y.or (hu : Up cx ops F o) (ho : o.op = .binOp .or T x y T') (hx : evF F x = some (.one (.n k a))) (hy : evF F y = some (.one (.n k b))) : Doing cx ops o F H ⟨.one (.n k (a ||| b)), [], []⟩ :=
  Y.bin hu ho hx hy fun fa fb P w _ _ => ⟨_, by rw [binOp_int (by simp)]; rfl, by
    have ha := fa.lt hk hm
    have hb := fb.lt hk hm
    simp only [BitVec.toNat_or]
    rw [bitsN hm ha, bitsN hm hb, wrap_u_nat hk hm, Nat.mod_eq_of_lt (by rw [← hm]; exact Nat.or_lt_two_pow (lt_pow hm ha) (lt_pow hm hb))], .inr (Nat.or_lt_two_pow (lt_pow hm (fa.lt hk hm)) (lt_pow hm (fb.lt hk hm)))⟩
theorem Y.xor (hu : Up cx ops F o) (ho : o.op = .binOp .xor T x y T') (hx : evF F x = some (.one (.n k a))) (hy : evF F y = some (.one (.n k b))) : Doing cx ops o F H ⟨.one (.n k (a ^^^ b)), [], []⟩ :=
  Y.bin hu ho hx hy fun fa fb P w _ _ => ⟨_, by rw [binOp_int (by simp)]; rfl, by
    have ha := fa.lt hk hm
    have hb := fb.lt hk hm
    simp only [BitVec.toNat_xor]
    rw [bitsN hm ha, bitsN hm hb, wrap_u_nat hk hm, Nat.mod_eq_of_lt (by rw [← hm]; exact Nat.xor_lt_two_pow (lt_pow hm ha) (lt_pow hm hb))], .inr (Nat.xor_lt_two_pow (lt_pow hm (fa.lt hk hm)) (lt_pow hm (fb.lt hk hm)))⟩
theorem Y.andNot (hu : Up cx ops F o) (ho : o.op = .binOp .andNot T x y T') (hx : evF F x = some (.one (.n k a))) (hy : evF F y = some (.one (.n k b))) : Doing cx ops o F H ⟨.one (.n k (a &&& (M - 1 - b))), [], []⟩ :=
  Y.bin hu ho hx hy fun fa fb P w _ _ => ⟨_, by rw [binOp_int (by simp)]; rfl, by
    have ha := fa.lt hk hm
    have hb := fb.lt hk hm
    simp only [BitVec.toNat_and, BitVec.toNat_not]
    rw [bitsN hm ha, bitsN hm hb, wrap_u_nat hk hm, hm, Nat.mod_eq_of_lt (Nat.lt_of_le_of_lt Nat.and_le_left ha)], fa.le Nat.and_le_left⟩
theorem Y.compl {o : Oper} (hu : Up cx ops F o) (ho : o.op = .unOp .xor T x) (hx : evF F x = some (.one (.n k a))) : Doing cx ops o F H ⟨.one (.n k (M - 1 - a)), [], []⟩ :=
  Doing.val hu fun _ _ act w hs => by
    obtain ⟨h1, fa⟩ := ev_rel hs hx
    have ha := fa.lt hk hm
    refine ⟨_, by simp only [execOp, ho, h1, Op.unary, hk, Bool.false_eq_true, if_false]; rfl, ?_, fits.mk hm (by omega)⟩
    simp only [BitVec.toNat_xor]
    have hmax : k.max = ((M - 1 : Nat) : Int) := by
      have hM : 1 ≤ M := by omega
      rw [Int.ofNat_sub hM, ← hm]
      simp [IntKind.max, hk]
    have hx : a ^^^ (2 ^ k.bits - 1) = M - 1 - a := by
      have h0 := BitVec.toNat_not (x := BitVec.ofNat k.bits a)
      have e1 : (~~~ (BitVec.ofNat k.bits a)).toNat = a ^^^ (2 ^ k.bits - 1) := by
        rw [← BitVec.xor_allOnes, BitVec.toNat_xor, BitVec.toNat_ofNat, BitVec.toNat_allOnes, Nat.mod_eq_of_lt (by rw [hm]; exact ha)]
      rw [← e1, h0, BitVec.toNat_ofNat, hm, Nat.mod_eq_of_lt ha]
    rw [hmax, bitsN hm (by omega), bitsN hm ha, wrap_u_nat hk hm]
    rw [← hm, Nat.xor_comm, hx, hm, Nat.mod_eq_of_lt (by omega)]
end u

section sh
variable {T T' : TypeId} {x y : Operand} {k k' : IntKind} {M a b : Nat} (hk : k.signed = false) (hm : 2 ^ k.bits = M)
include hk hm
theorem Y.shl (hu : Up cx ops F o) (ho : o.op = .binOp .shl T x y T') (hx : evF F x = some (.one (.n k a))) (hy : evF F y = some (.one (.n k' b))) : Doing cx ops o F H ⟨.one (.n k (a * 2 ^ b % M)), [], []⟩ :=
  Doing.val hu fun ρ A act w hs => by
    obtain ⟨h1, f1⟩ := ev_rel hs hx
    obtain ⟨h2, f2⟩ := ev_rel hs hy
    refine ⟨.int k (k.wrap ((a : Int) * 2 ^ (min b k.bits))), ?_, ?_, fits.mk hm (modlt hm _)⟩
    · simp only [execOp, ho, h1, h2, Sem.run_bind, eqGuard_int, Result.andThen_ok, binOp, Op.shift]
      rw [if_neg (by omega)]
      simp
    · have e : ((a : Int) * 2 ^ (min b k.bits)) = ((a * 2 ^ (min b k.bits) : Nat) : Int) := by simp
      rw [e, wrap_u_nat hk hm]
      congr 2
      rcases Nat.le_total b k.bits with h | h
      · rw [Nat.min_eq_left h]
      · rw [Nat.min_eq_right h, ← hm, Nat.mul_mod_left, show b = k.bits + (b - k.bits) by omega, Nat.pow_add, ← Nat.mul_assoc, Nat.mul_right_comm, Nat.mul_mod_left]
theorem Y.shr (hu : Up cx ops F o) (ho : o.op = .binOp .shr T x y T') (hx : evF F x = some (.one (.n k a))) (hy : evF F y = some (.one (.n k' b))) : Doing cx ops o F H ⟨.one (.n k (a / 2 ^ b)), [], []⟩ :=
  Doing.val hu fun ρ A act w hs => by
    obtain ⟨h1, f1⟩ := ev_rel hs hx
    obtain ⟨h2, f2⟩ := ev_rel hs hy
    have ha := f1.lt hk hm
    refine ⟨.int k ((a : Int).fdiv (2 ^ (min b k.bits))), ?_, ?_, f1.le (Nat.div_le_self _ _)⟩
    · simp only [execOp, ho, h1, h2, Sem.run_bind, eqGuard_int, Result.andThen_ok, binOp, Op.shift]
      rw [if_neg (by omega)]
      simp
    · have e : ((2 : Int) ^ (min b k.bits)) = ((2 ^ (min b k.bits) : Nat) : Int) := by simp
      rw [e, ← Int.ofNat_fdiv]
      congr 2
      rcases Nat.le_total b k.bits with h | h
      · rw [Nat.min_eq_left h]
      · rw [Nat.min_eq_right h, hm, Nat.div_eq_of_lt ha, Nat.div_eq_of_lt]
        exact Nat.lt_of_lt_of_le ha (by rw [← hm]; exact Nat.pow_le_pow_right (by omega) h)
end sh

section i
variable {T T' : TypeId} {x y : Operand} {k : IntKind} {a b : Nat}
theorem Y.rem (hu : Up cx ops F o) (ho : o.op = .binOp .rem T x y T') (hx : evF F x = some (.one (.n k a))) (hy : evF F y = some (.one (.n k b))) (hb : b ≠ 0) : Doing cx ops o F H ⟨.one (.n k (a % b)), [], []⟩ :=
  Y.bin hu ho hx hy fun fa fb P w _ _ => ⟨_, by
    rw [binOp_int (by simp)]; simp only [Op.intDiv]; rw [if_neg (by omega)]; rfl, by
    rw [show (a : Int).tmod (b : Int) = ((a % b : Nat) : Int) from (Int.ofNat_tmod a b).symm], fa.le (Nat.mod_le _ _)⟩
theorem Y.eql (hu : Up cx ops F o) (ho : o.op = .binOp .eql T x y T') (hx : evF F x = some (.one (.n k a))) (hy : evF F y = some (.one (.n k b))) : Doing cx ops o F H ⟨.one (.b (decide (a = b))), [], []⟩ :=
  Y.bin hu ho hx hy fun fa fb P w _ _ => ⟨_, by rw [binOp_int (by simp)]; rfl, by
    simp only [AV.Rel, SV.Rel]; by_cases h : a = b
    · simp [h]
    · have : (a : Int) ≠ b := by omega
      simp [h, this]⟩
theorem Y.neq (hu : Up cx ops F o) (ho : o.op = .binOp .neq T x y T') (hx : evF F x = some (.one (.n k a))) (hy : evF F y = some (.one (.n k b))) : Doing cx ops o F H ⟨.one (.b (decide (a ≠ b))), [], []⟩ :=
  Y.bin hu ho hx hy fun fa fb P w _ _ => ⟨_, by rw [binOp_int (by simp)]; rfl, by
    simp only [AV.Rel, SV.Rel]; by_cases h : a = b
    · simp [h]
    · have : (a : Int) ≠ b := by omega
      simp [h, this]⟩
theorem Y.lss (hu : Up cx ops F o) (ho : o.op = .binOp .lss T x y T') (hx : evF F x = some (.one (.n k a))) (hy : evF F y = some (.one (.n k b))) : Doing cx ops o F H ⟨.one (.b (decide (a < b))), [], []⟩ :=
  Y.bin hu ho hx hy fun fa fb P w _ _ => ⟨_, by rw [binOp_int (by simp)]; rfl, by simp only [AV.Rel, SV.Rel]; congr 1; simp⟩
theorem Y.leq (hu : Up cx ops F o) (ho : o.op = .binOp .leq T x y T') (hx : evF F x = some (.one (.n k a))) (hy : evF F y = some (.one (.n k b))) : Doing cx ops o F H ⟨.one (.b (decide (a ≤ b))), [], []⟩ :=
  Y.bin hu ho hx hy fun fa fb P w _ _ => ⟨_, by rw [binOp_int (by simp)]; rfl, by simp only [AV.Rel, SV.Rel]; congr 1; simp⟩
theorem Y.gtr (hu : Up cx ops F o) (ho : o.op = .binOp .gtr T x y T') (hx : evF F x = some (.one (.n k a))) (hy : evF F y = some (.one (.n k b))) : Doing cx ops o F H ⟨.one (.b (decide (b < a))), [], []⟩ :=
  Y.bin hu ho hx hy fun fa fb P w _ _ => ⟨_, by rw [binOp_int (by simp)]; rfl, by simp only [AV.Rel, SV.Rel]; congr 1; simp⟩
theorem Y.geq (hu : Up cx ops F o) (ho : o.op = .binOp .geq T x y T') (hx : evF F x = some (.one (.n k a))) (hy : evF F y = some (.one (.n k b))) : Doing cx ops o F H ⟨.one (.b (decide (b ≤ a))), [], []⟩ :=
  Y.bin hu ho hx hy fun fa fb P w _ _ => ⟨_, by rw [binOp_int (by simp)]; rfl, by simp only [AV.Rel, SV.Rel]; congr 1; simp⟩
/-- On int, as long as nothing wraps. -/
theorem Y.addI (hu : Up cx ops F o) (ho : o.op = .binOp .add T x y T') (hx : evF F x = some (.one (.n .i64 a))) (hy : evF F y = some (.one (.n .i64 b))) (h : a + b < 9223372036854775808) : Doing cx ops o F H ⟨.one (.n .i64 (a + b)), [], []⟩ :=
  Y.bin hu ho hx hy fun fa fb P w _ _ => ⟨_, by rw [binOp_int (by simp)]; rfl, by
    rw [← Int.natCast_add, wrap_i64 _ (by omega) (by omega)], fits.i64⟩
theorem Y.mulI (hu : Up cx ops F o) (ho : o.op = .binOp .mul T x y T') (hx : evF F x = some (.one (.n .i64 a))) (hy : evF F y = some (.one (.n .i64 b))) (h : a * b < 9223372036854775808) : Doing cx ops o F H ⟨.one (.n .i64 (a * b)), [], []⟩ :=
  Y.bin hu ho hx hy fun fa fb P w _ _ => ⟨_, by rw [binOp_int (by simp)]; rfl, by
    rw [← Int.natCast_mul, wrap_i64 _ (by omega) (by omega)], fits.i64⟩
theorem Y.subI (hu : Up cx ops F o) (ho : o.op = .binOp .sub T x y T') (hx : evF F x = some (.one (.n .i64 a))) (hy : evF F y = some (.one (.n .i64 b))) (hb : b ≤ a) (ha : a < 9223372036854775808) : Doing cx ops o F H ⟨.one (.n .i64 (a - b)), [], []⟩ :=
  Y.bin hu ho hx hy fun fa fb P w _ _ => ⟨_, by rw [binOp_int (by simp)]; rfl, by
    rw [wrap_i64 _ (by omega) (by omega), Int.ofNat_sub hb], fits.i64⟩
theorem Y.quoI (hu : Up cx ops F o) (ho : o.op = .binOp .quo T x y T') (hx : evF F x = some (.one (.n .i64 a))) (hy : evF F y = some (.one (.n .i64 b))) (ha : a < 9223372036854775808) (hb : b ≠ 0) : Doing cx ops o F H ⟨.one (.n .i64 (a / b)), [], []⟩ :=
  Y.bin hu ho hx hy fun fa fb P w _ _ => ⟨_, by
    rw [binOp_int (by simp)]; simp only [Op.intDiv]; rw [if_neg (by omega)]; rfl, by
    have := Nat.div_le_self a b
    rw [show (a : Int).tdiv (b : Int) = ((a / b : Nat) : Int) from (Int.ofNat_tdiv a b).symm]
    generalize a / b = c at *
    rw [wrap_i64 _ (by omega) (by omega)], fits.i64⟩
end i

/-! ### ints that may be below 0 -/
def SV.int? : SV → Option Int
  | .n .i64 x => some x
  | .z x => some x
  | _ => none
theorem SV.int_rel {s : SV} {x : Int} (h : s.int? = some x) {ρ : Nat → Loc} {A : Nat → Prop} {w : World} {v : Value} (hv : s.Rel ρ A w v) : v = .int .i64 x := by
  cases s with
  | n k y => cases k <;> simp [SV.int?] at h; subst h; exact hv.1
  | z y => simp only [SV.int?, Option.some.injEq] at h; subst h; exact hv
  | _ => simp [SV.int?] at h
section z
variable {T T' : TypeId} {x y : Operand} {s t : SV} {a b : Int}
theorem Y.binZ {op : BinOp} {av : AV} (hu : Up cx ops F o) (ho : o.op = .binOp op T x y T') (hx : evF F x = some (.one s)) (hs : s.int? = some a) (hy : evF F y = some (.one t)) (ht : t.int? = some b)
    (h : ∀ (P : Program) (w : World) (ρ : Nat → Loc) (A : Nat → Prop), ∃ v, (binOp op T (.int .i64 a) (.int .i64 b)).run P w = .ok v w ∧ av.Rel ρ A w v) : Doing cx ops o F H ⟨av, [], []⟩ :=
  Doing.val hu fun ρ A act w hst => by
    have h1 := SV.int_rel hs (ev_rel hst hx)
    have h2 := SV.int_rel ht (ev_rel hst hy)
    obtain ⟨v, hv, hr⟩ := h cx.P w ρ A
    exact ⟨v, by simp only [execOp, ho, h1, h2, Sem.run_bind, eqGuard_int, Result.andThen_ok, hv, Sem.run_pure], hr⟩
theorem Y.addZ (hu : Up cx ops F o) (ho : o.op = .binOp .add T x y T') (hx : evF F x = some (.one s)) (hs : s.int? = some a) (hy : evF F y = some (.one t)) (ht : t.int? = some b) (h1 : -9223372036854775808 ≤ a + b) (h2 : a + b < 9223372036854775808) :
    Doing cx ops o F H ⟨.one (.z (a + b)), [], []⟩ :=
  Y.binZ hu ho hx hs hy ht fun P w _ _ => ⟨_, by rw [binOp_int (by simp)]; rfl, by simp only [AV.Rel, SV.Rel]; rw [wrap_i64 _ h1 h2]⟩
theorem Y.subZ (hu : Up cx ops F o) (ho : o.op = .binOp .sub T x y T') (hx : evF F x = some (.one s)) (hs : s.int? = some a) (hy : evF F y = some (.one t)) (ht : t.int? = some b) (h1 : -9223372036854775808 ≤ a - b) (h2 : a - b < 9223372036854775808) :
    Doing cx ops o F H ⟨.one (.z (a - b)), [], []⟩ :=
  Y.binZ hu ho hx hs hy ht fun P w _ _ => ⟨_, by rw [binOp_int (by simp)]; rfl, by simp only [AV.Rel, SV.Rel]; rw [wrap_i64 _ h1 h2]⟩
theorem Y.lssZ (hu : Up cx ops F o) (ho : o.op = .binOp .lss T x y T') (hx : evF F x = some (.one s)) (hs : s.int? = some a) (hy : evF F y = some (.one t)) (ht : t.int? = some b) : Doing cx ops o F H ⟨.one (.b (decide (a < b))), [], []⟩ :=
  Y.binZ hu ho hx hs hy ht fun P w _ _ => ⟨_, by rw [binOp_int (by simp)]; rfl, rfl⟩
theorem Y.gtrZ (hu : Up cx ops F o) (ho : o.op = .binOp .gtr T x y T') (hx : evF F x = some (.one s)) (hs : s.int? = some a) (hy : evF F y = some (.one t)) (ht : t.int? = some b) : Doing cx ops o F H ⟨.one (.b (decide (b < a))), [], []⟩ :=
  Y.binZ hu ho hx hs hy ht fun P w _ _ => ⟨_, by rw [binOp_int (by simp)]; rfl, rfl⟩
theorem Y.leqZ (hu : Up cx ops F o) (ho : o.op = .binOp .leq T x y T') (hx : evF F x = some (.one s)) (hs : s.int? = some a) (hy : evF F y = some (.one t)) (ht : t.int? = some b) : Doing cx ops o F H ⟨.one (.b (decide (a ≤ b))), [], []⟩ :=
  Y.binZ hu ho hx hs hy ht fun P w _ _ => ⟨_, by rw [binOp_int (by simp)]; rfl, rfl⟩
theorem Y.geqZ (hu : Up cx ops F o) (ho : o.op = .binOp .geq T x y T') (hx : evF F x = some (.one s)) (hs : s.int? = some a) (hy : evF F y = some (.one t)) (ht : t.int? = some b) : Doing cx ops o F H ⟨.one (.b (decide (b ≤ a))), [], []⟩ :=
  Y.binZ hu ho hx hs hy ht fun P w _ _ => ⟨_, by rw [binOp_int (by simp)]; rfl, rfl⟩
theorem Y.eqlZ (hu : Up cx ops F o) (ho : o.op = .binOp .eql T x y T') (hx : evF F x = some (.one s)) (hs : s.int? = some a) (hy : evF F y = some (.one t)) (ht : t.int? = some b) : Doing cx ops o F H ⟨.one (.b (decide (a = b))), [], []⟩ :=
  Y.binZ hu ho hx hs hy ht fun P w _ _ => ⟨_, by rw [binOp_int (by simp)]; rfl, rfl⟩
theorem Y.negZ (hu : Up cx ops F o) (ho : o.op = .unOp .neg T x) (hx : evF F x = some (.one s)) (hs : s.int? = some a) (h1 : -9223372036854775808 < a) (h2 : a ≤ 9223372036854775808) : Doing cx ops o F H ⟨.one (.z (-a)), [], []⟩ :=
  Doing.val hu fun ρ A act w hst => by
    have h := SV.int_rel hs (ev_rel hst hx)
    refine ⟨_, by simp only [execOp, ho, h, Op.unary, Op.intArith]; rfl, ?_⟩
    simp only [AV.Rel, SV.Rel]
    rw [wrap_i64 _ (by omega) (by omega), Int.zero_sub]
end z
theorem Y.not {T : TypeId} {x : Operand} {b : Bool} (hu : Up cx ops F o) (ho : o.op = .unOp .not T x) (hx : evF F x = some (.one (.b b))) : Doing cx ops o F H ⟨.one (.b (!b)), [], []⟩ :=
  Doing.val hu fun ρ A act w hst => by
    have h := ev_rel hst hx
    simp only [AV.Rel, SV.Rel] at h
    exact ⟨_, by simp only [execOp, ho, h, Op.unary]; rfl, rfl⟩

/-- A number that is not below 0 is one of the others. -/
theorem Holds.nat {S : Ls} {G : Act → World → Prop} (t : Nat) {x : Int} (ht : lk t S.fr = some (.one (.z x))) (n : Nat) (hn : x = n) (h : Holds cx ⟨(t, .one (.n .i64 n)) :: S.fr, S.hp⟩ G) : Holds cx S G := by
  intro ρ A a w hs
  refine h ρ A a w ⟨hs.df, hs.sz, ?_, hs.hp, hs.sep, hs.A1, hs.O, hs.fm, hs.E⟩
  intro s v hv
  simp only [Ls.F, lk] at hv
  split at hv
  · rename_i he
    subst he
    cases hv
    have := hs.fr s _ ht
    simp only [AV.Rel, SV.Rel] at this ⊢
    rw [this, hn]
    exact ⟨rfl, fits.i64⟩
  · exact hs.fr s v hv

/-! ### Conversions of whole numbers -/
section conv
variable {T T' : TypeId} {x : Operand} {k k' : IntKind} {M a : Nat}
theorem run_convert_int {P : Program} {w : World} {src dst : TypeId} {d : TypeDesc} (hsrc : P.underlying src = some d) (hd : P.underlying dst = some (.int k')) (n : Int) : (convert src dst (.int k n)).run P w = .ok (.int k' (k'.wrap n)) w := by
  unfold convert
  simp only [Sem.run_bind, run_underlying hsrc, run_underlying hd, Result.andThen_ok]
  cases d <;> rfl
theorem Y.conv {dS : TypeDesc} (hS : cx.P.underlying T = some dS) (hT : cx.P.underlying T' = some (.int k')) (hk : k'.signed = false) (hm : 2 ^ k'.bits = M) (hu : Up cx ops F o) (ho : o.op = .convert T T' x) (hx : evF F x = some (.one (.n k a))) :
    Doing cx ops o F H ⟨.one (.n k' (a % M)), [], []⟩ :=
  Doing.val hu fun ρ A act w hst => by
    obtain ⟨h, _⟩ := ev_rel hst hx
    exact ⟨_, by simp only [execOp, ho, h, Sem.run_bind, run_convert_int hS hT, Result.andThen_ok, Sem.run_pure]; rfl, by rw [wrap_u_nat hk hm], fits.mk hm (modlt hm _)⟩
/-- ... that fits. -/
theorem Y.convLt {dS : TypeDesc} (hS : cx.P.underlying T = some dS) (hT : cx.P.underlying T' = some (.int k')) (hk : k'.signed = false) (hm : 2 ^ k'.bits = M) (hu : Up cx ops F o) (ho : o.op = .convert T T' x) (hx : evF F x = some (.one (.n k a))) (ha : a < M) :
    Doing cx ops o F H ⟨.one (.n k' a), [], []⟩ := by
  have := Y.conv (H := H) hS hT hk hm hu ho hx
  rwa [Nat.mod_eq_of_lt ha] at this
theorem Y.convI {dS : TypeDesc} (hS : cx.P.underlying T = some dS) (hT : cx.P.underlying T' = some (.int .i64)) (hu : Up cx ops F o) (ho : o.op = .convert T T' x) (hx : evF F x = some (.one (.n k a))) (ha : a < 9223372036854775808) :
    Doing cx ops o F H ⟨.one (.n .i64 a), [], []⟩ :=
  Doing.val hu fun ρ A act w hst => by
    obtain ⟨h, _⟩ := ev_rel hst hx
    exact ⟨_, by simp only [execOp, ho, h, Sem.run_bind, run_convert_int hS hT, Result.andThen_ok, Sem.run_pure]; rfl, by rw [wrap_i64 _ (by omega) (by omega)], fits.i64⟩
/-- To a wider kind. -/
theorem Y.convUp {dS : TypeDesc} (hS : cx.P.underlying T = some dS) (hT : cx.P.underlying T' = some (.int k')) (hk : k.signed = false) (hk' : k'.signed = false) (hb : k.bits ≤ k'.bits) (hu : Up cx ops F o) (ho : o.op = .convert T T' x) (hx : evF F x = some (.one (.n k a))) :
    Doing cx ops o F H ⟨.one (.n k' a), [], []⟩ :=
  Doing.val hu fun ρ A act w hst => by
    obtain ⟨h, hf⟩ := ev_rel hst hx
    have hlt : a < 2 ^ k'.bits := Nat.lt_of_lt_of_le (hf.lt hk rfl) (Nat.pow_le_pow_right (by omega) hb)
    exact ⟨_, by simp only [execOp, ho, h, Sem.run_bind, run_convert_int hS hT, Result.andThen_ok, Sem.run_pure]; rfl, by rw [wrap_u_nat hk' rfl, Nat.mod_eq_of_lt hlt], .inr hlt⟩
theorem Y.convUpI {dS : TypeDesc} (hS : cx.P.underlying T = some dS) (hT : cx.P.underlying T' = some (.int .i64)) (hk : k.signed = false) (hb : k.bits < 64) (hu : Up cx ops F o) (ho : o.op = .convert T T' x) (hx : evF F x = some (.one (.n k a))) :
    Doing cx ops o F H ⟨.one (.n .i64 a), [], []⟩ :=
  Doing.val hu fun ρ A act w hst => by
    obtain ⟨h, hf⟩ := ev_rel hst hx
    have hlt : a < 2 ^ 63 := Nat.lt_of_lt_of_le (hf.lt hk rfl) (Nat.pow_le_pow_right (by omega) (by omega))
    exact ⟨_, by simp only [execOp, ho, h, Sem.run_bind, run_convert_int hS hT, Result.andThen_ok, Sem.run_pure]; rfl, by rw [wrap_i64 _ (by omega) (by omega)], fits.i64⟩
theorem Y.convZ {dS : TypeDesc} {z : Int} (hS : cx.P.underlying T = some dS) (hT : cx.P.underlying T' = some (.int k')) (hk : k'.signed = false) (hm : 2 ^ k'.bits = M) (hu : Up cx ops F o) (ho : o.op = .convert T T' x) (hx : evF F x = some (.one (.z z))) :
    Doing cx ops o F H ⟨.one (.n k' (z % (M : Int)).toNat), [], []⟩ :=
  Doing.val hu fun ρ A act w hst => by
    have h := ev_rel hst hx
    simp only [AV.Rel, SV.Rel] at h
    have hM0 : 0 < M := by rw [← hm]; exact Nat.two_pow_pos _
    have hM : (M : Int) ≠ 0 := by omega
    exact ⟨_, by simp only [execOp, ho, h, Sem.run_bind, run_convert_int hS hT, Result.andThen_ok, Sem.run_pure]; rfl, by
      rw [wrap_u hk hm, Int.toNat_of_nonneg (Int.emod_nonneg _ hM)], fits.mk hm (by have := Int.emod_lt_of_pos z (show (0 : Int) < M by omega); omega)⟩
end conv

end
end Go.Fx

/- FxG: places, rows, slices, loads; strings; arrays held against each other. -/
namespace Go.Fx
open Go.RowKit (Below)

/-- A piece of a row. -/
def Cs.sub (c : Cs) (off n : Nat) : Cs :=
  match c with
  | .ints k xs => .ints k ((xs.drop off).take n)
  | .mix l => .mix ((l.drop off).take n)
theorem Cs.sub_len {c : Cs} {off n : Nat} (h : off + n ≤ c.len) : (c.sub off n).len = n := by
  cases c <;> simp only [Cs.sub, Cs.len, List.length_take, List.length_drop] at * <;> omega
theorem Cs.sub_at {c : Cs} {off n j : Nat} (hj : j < n) : (c.sub off n).at j = c.at (off + j) := by
  cases c <;> simp [Cs.sub, Cs.at, List.getD_eq_getElem?_getD, hj]

theorem TypeDesc.agg_cases {d : TypeDesc} (h : TypeDesc.isAgg d = true) : (∃ fs, d = .struct fs) ∨ ∃ n e, d = .array n e := by
  cases d <;> simp [TypeDesc.isAgg] at h
  · exact .inr ⟨_, _, rfl⟩
  · exact .inl ⟨_, rfl⟩

section
variable {cx : Cx} {ops : Array Oper} {o : Oper} {F : Nat → Option AV} {H : Nat → Option Bk}

/-! ### Parts of a row -/
section part
variable {P : Program} {w : World} {ρ : Nat → Loc} {A : Nat → Prop} {E : TypeId} {d : TypeDesc} {n by' : Nat} {z : Cs} {cs : Array Value} {c : Cs} {off : Nat}
theorem run_part_one (hE : TyI P E d n by' z) (hd : TypeDesc.isAgg d = false) (_hs : cs.size = c.len) (hc : ∀ j, j < c.len → ∃ u, cs[j]? = some u ∧ (c.at j).Rel ρ A w u) (ho : off < c.len) :
    ∃ v, (part E cs off).run P w = .ok v w ∧ (AV.one (c.at off)).Rel ρ A w v := by
  obtain ⟨u, hu, hr⟩ := hc off ho
  refine ⟨u, ?_, hr⟩
  unfold part
  simp only [Sem.run_bind, hE.run_isAgg w, hd, Result.andThen_ok, Bool.false_eq_true, if_false, hu, Sem.run_pure]
theorem run_part_row (hE : TyI P E d n by' z) (hd : TypeDesc.isAgg d = true) (hs : cs.size = c.len) (hc : ∀ j, j < c.len → ∃ u, cs[j]? = some u ∧ (c.at j).Rel ρ A w u) (ho : off + n ≤ c.len) :
    ∃ v, (part E cs off).run P w = .ok v w ∧ (AV.row (c.sub off n)).Rel ρ A w v := by
  refine ⟨.agg (cs.extract off (off + n)), ?_, _, rfl, ?_, ?_⟩
  · unfold part
    simp only [Sem.run_bind, hE.run_isAgg w, hd, Result.andThen_ok, if_true, hE.run_size w, Sem.run_pure]
  · rw [Cs.sub_len ho]; simp; omega
  · intro j hj
    rw [Cs.sub_len ho] at hj
    obtain ⟨u, hu, hr⟩ := hc (off + j) (by omega)
    refine ⟨u, ?_, by rw [Cs.sub_at hj]; exact hr⟩
    rw [Array.getElem?_extract]
    rw [if_pos (by omega)]
    exact hu
end part

section index
variable {T E T' : TypeId} {x y : Operand} {N n by' bz i : Nat} {d : TypeDesc} {z zz : Cs} {c : Cs} {k : IntKind}
theorem Y.idx (hT : TyI cx.P T (.array N E) n by' z) (hE : TyI cx.P E d 1 bz zz) (hd : TypeDesc.isAgg d = false) (hu : Up cx ops F o) (ho : o.op = .index T x y) (hx : evF F x = some (.row c)) (hy : evF F y = some (.one (.n k i))) (hi : i < N) (hl : i < c.len) :
    Doing cx ops o F H ⟨.one (c.at i), [], []⟩ :=
  Doing.val hu fun ρ A a w hs => by
    obtain ⟨cs, hv, hsz, hc⟩ := ev_rel hs hx
    have h2 := ev_rel hs hy
    simp only [AV.Rel, SV.Rel] at h2
    obtain ⟨v, h3, h4⟩ := run_part_one (P := cx.P) hE hd hsz hc (off := i) hl
    refine ⟨v, ?_, h4⟩
    simp only [execOp, ho, hv, h2, Instr.index, asIntOf, Sem.run_bind, Sem.run_pure, Result.andThen_ok, hT.run_und w]
    rw [if_pos ⟨by omega, by omega⟩]
    simp only [Sem.run_bind, hE.run_size w, Result.andThen_ok, Nat.mul_one, Int.toNat_natCast, h3]
theorem Y.idxRow {sz : Nat} (hT : TyI cx.P T (.array N E) n by' z) (hE : TyI cx.P E d sz bz zz) (hd : TypeDesc.isAgg d = true) (hu : Up cx ops F o) (ho : o.op = .index T x y) (hx : evF F x = some (.row c)) (hy : evF F y = some (.one (.n k i))) (hi : i < N) (hl : i * sz + sz ≤ c.len) :
    Doing cx ops o F H ⟨.row (c.sub (i * sz) sz), [], []⟩ :=
  Doing.val hu fun ρ A a w hs => by
    obtain ⟨cs, hv, hsz, hc⟩ := ev_rel hs hx
    have h2 := ev_rel hs hy
    simp only [AV.Rel, SV.Rel] at h2
    obtain ⟨v, h3, h4⟩ := run_part_row (P := cx.P) hE hd hsz hc (off := i * sz) hl
    refine ⟨v, ?_, h4⟩
    simp only [execOp, ho, hv, h2, Instr.index, asIntOf, Sem.run_bind, Sem.run_pure, Result.andThen_ok, hT.run_und w]
    rw [if_pos ⟨by omega, by omega⟩]
    simp only [Sem.run_bind, hE.run_size w, Result.andThen_ok, Int.toNat_natCast, h3]
end index

section field
variable {T E : TypeId} {x : Operand} {fs : Array Field} {fld : Field} {f n m by' bz : Nat} {d : TypeDesc} {z zz c : Cs}
theorem Y.fieldOne (hT : TyI cx.P T (.struct fs) n by' z) (hf : fs[f]? = some fld) (hE : TyI cx.P fld.type d m bz zz) (hd : TypeDesc.isAgg d = false) (hu : Up cx ops F o) (ho : o.op = .field T x f) (hx : evF F x = some (.row c)) (hl : fld.offset < c.len) :
    Doing cx ops o F H ⟨.one (c.at fld.offset), [], []⟩ :=
  Doing.val hu fun ρ A a w hs => by
    obtain ⟨cs, hv, hsz, hc⟩ := ev_rel hs hx
    obtain ⟨v, h3, h4⟩ := run_part_one (P := cx.P) hE hd hsz hc hl
    refine ⟨v, ?_, h4⟩
    simp only [execOp, ho, hv, Instr.field, asAgg, Sem.run_bind, Sem.run_pure, Result.andThen_ok, hT.run_und w, hf, h3]
theorem Y.fieldRow (hT : TyI cx.P T (.struct fs) n by' z) (hf : fs[f]? = some fld) (hE : TyI cx.P fld.type d m bz zz) (hd : TypeDesc.isAgg d = true) (hu : Up cx ops F o) (ho : o.op = .field T x f) (hx : evF F x = some (.row c)) (hl : fld.offset + m ≤ c.len) :
    Doing cx ops o F H ⟨.row (c.sub fld.offset m), [], []⟩ :=
  Doing.val hu fun ρ A a w hs => by
    obtain ⟨cs, hv, hsz, hc⟩ := ev_rel hs hx
    obtain ⟨v, h3, h4⟩ := run_part_row (P := cx.P) hE hd hsz hc hl
    refine ⟨v, ?_, h4⟩
    simp only [execOp, ho, hv, Instr.field, asAgg, Sem.run_bind, Sem.run_pure, Result.andThen_ok, hT.run_und w, hf, h3]
end field

/-! ### Places -/
section place
variable {T E : TypeId} {x y : Operand} {N n by' bz i id off len : Nat} {d : TypeDesc} {z zz : Cs} {k ki : IntKind}
/-- The place of an array's i-th element, of one cell. -/
theorem Y.ia (hT : TyI cx.P T (.array N E) n by' z) (hE : TyI cx.P E d 1 bz zz) (hu : Up cx ops F o) (ho : o.op = .indexAddr T x y) (hx : evF F x = some (.one (.p id off))) (hy : evF F y = some (.one (.n k i))) (hi : i < N) :
    Doing cx ops o F H ⟨.one (.p id (off + i)), [], []⟩ :=
  Doing.val hu fun ρ A a w hs => by
    have h1 := ev_rel hs hx
    have h2 := ev_rel hs hy
    simp only [AV.Rel, SV.Rel] at h1 h2
    refine ⟨_, ?_, rfl⟩
    simp only [execOp, ho, h1, h2, Instr.indexAt, Instr.sureAddr, asIntOf, Sem.run_bind, Sem.run_pure, Result.andThen_ok, hT.run_und w]
    rw [if_pos ⟨by omega, by omega⟩]
    simp only [Sem.run_bind, hE.run_size w, Result.andThen_ok, Nat.mul_one, Int.toNat_natCast, Sem.run_pure, addr_add, Nat.add_assoc]
/-- ... of several. -/
theorem Y.iaN {sz : Nat} (hT : TyI cx.P T (.array N E) n by' z) (hE : TyI cx.P E d sz bz zz) (hu : Up cx ops F o) (ho : o.op = .indexAddr T x y) (hx : evF F x = some (.one (.p id off))) (hy : evF F y = some (.one (.n k i))) (hi : i < N) :
    Doing cx ops o F H ⟨.one (.p id (off + i * sz)), [], []⟩ :=
  Doing.val hu fun ρ A a w hs => by
    have h1 := ev_rel hs hx
    have h2 := ev_rel hs hy
    simp only [AV.Rel, SV.Rel] at h1 h2
    refine ⟨_, ?_, rfl⟩
    simp only [execOp, ho, h1, h2, Instr.indexAt, Instr.sureAddr, asIntOf, Sem.run_bind, Sem.run_pure, Result.andThen_ok, hT.run_und w]
    rw [if_pos ⟨by omega, by omega⟩]
    simp only [Sem.run_bind, hE.run_size w, Result.andThen_ok, Int.toNat_natCast, Sem.run_pure, addr_add, Nat.add_assoc]
theorem Y.iaSg (hT : TyI cx.P T (.slice E) n by' z) (hE : TyI cx.P E d 1 bz zz) (hu : Up cx ops F o) (ho : o.op = .indexAddr T x y) (hx : evF F x = some (.one (.sg id off len))) (hy : evF F y = some (.one (.n k i))) (hi : i < len) :
    Doing cx ops o F H ⟨.one (.p id (off + i)), [], []⟩ :=
  Doing.val hu fun ρ A a w hs => by
    obtain ⟨ad, cap, hv, hcap, h0⟩ := ev_rel hs hx
    have h2 := ev_rel hs hy
    simp only [AV.Rel, SV.Rel] at h2
    rcases h0 with h0 | ⟨had, _⟩
    · omega
    refine ⟨_, ?_, rfl⟩
    simp only [execOp, ho, hv, h2, had, Instr.indexAt, asIntOf, Sem.run_bind, Sem.run_pure, Result.andThen_ok, hT.run_und w]
    rw [if_pos ⟨by omega, by omega⟩]
    simp only [Sem.run_bind, hE.run_size w, Result.andThen_ok, Nat.mul_one, Int.toNat_natCast, Sem.run_pure, addr_add, Nat.add_assoc]
theorem Y.iaBs {ex : Bool} {xs : List Nat} (hT : TyI cx.P T (.slice E) n by' z) (hE : TyI cx.P E d 1 bz zz) (hu : Up cx ops F o) (ho : o.op = .indexAddr T x y) (hx : evF F x = some (.one (.bs ex ki xs))) (hy : evF F y = some (.one (.n k i))) (hi : i < xs.length) :
    Doing cx ops o F H ⟨.one (.pc ki (xs.getD i 0)), [], []⟩ :=
  Doing.val hu fun ρ A a w hs => by
    obtain ⟨ad, cap, hv, hcap, _, h0⟩ := ev_rel hs hx
    have h2 := ev_rel hs hy
    simp only [AV.Rel, SV.Rel] at h2
    rcases h0 with h0 | ⟨b, off, had, hA, _, hc⟩
    · omega
    obtain ⟨u, hu', hr⟩ := hc i hi
    refine ⟨.pointer (some ⟨b, off + i, none⟩), ?_, b, off + i, rfl, hA, by rw [hu', hr.1], hr.2⟩
    simp only [execOp, ho, hv, h2, had, Instr.indexAt, asIntOf, Sem.run_bind, Sem.run_pure, Result.andThen_ok, hT.run_und w]
    rw [if_pos ⟨by omega, by omega⟩]
    simp only [Sem.run_bind, hE.run_size w, Result.andThen_ok, Nat.mul_one, Int.toNat_natCast, Sem.run_pure, addr_add]
theorem Y.iaBss {ex : Bool} {xss : List (List Nat)} (hT : TyI cx.P T (.slice E) n by' z) (hE : TyI cx.P E d 1 bz zz) (hu : Up cx ops F o) (ho : o.op = .indexAddr T x y) (hx : evF F x = some (.one (.bss ex xss))) (hy : evF F y = some (.one (.n k i))) (hi : i < xss.length) :
    Doing cx ops o F H ⟨.one (.pcb (xss.getD i [])), [], []⟩ :=
  Doing.val hu fun ρ A a w hs => by
    obtain ⟨ad, cap, hv, hcap, _, h0⟩ := ev_rel hs hx
    have h2 := ev_rel hs hy
    simp only [AV.Rel, SV.Rel] at h2
    rcases h0 with h0 | ⟨b, off, had, hA, _, hc⟩
    · omega
    obtain ⟨u, hu', hr⟩ := hc i hi
    refine ⟨.pointer (some ⟨b, off + i, none⟩), ?_, b, off + i, u, rfl, hA, hu', hr⟩
    simp only [execOp, ho, hv, h2, had, Instr.indexAt, asIntOf, Sem.run_bind, Sem.run_pure, Result.andThen_ok, hT.run_und w]
    rw [if_pos ⟨by omega, by omega⟩]
    simp only [Sem.run_bind, hE.run_size w, Result.andThen_ok, Nat.mul_one, Int.toNat_natCast, Sem.run_pure, addr_add]
theorem Y.fa {fs : Array Field} {fld : Field} {f m : Nat} (hT : TyI cx.P T (.struct fs) n by' z) (hf : fs[f]? = some fld) (hE : TyI cx.P fld.type d m bz zz) (hm : m ≠ 0) (hu : Up cx ops F o) (ho : o.op = .fieldAddr T x f) (hx : evF F x = some (.one (.p id off))) :
    Doing cx ops o F H ⟨.one (.p id (off + fld.offset)), [], []⟩ :=
  Doing.val hu fun ρ A a w hs => by
    have h1 := ev_rel hs hx
    simp only [AV.Rel, SV.Rel] at h1
    refine ⟨_, ?_, rfl⟩
    simp only [execOp, ho, h1, Instr.fieldAt, Instr.sureAddr, fieldPlace, Sem.run_bind, Sem.run_pure, Result.andThen_ok, hT.run_und w, hf, hE.run_size w]
    rw [if_neg hm]
    simp only [Sem.run_pure, Result.andThen_ok, addr_add, Nat.add_assoc]
theorem Y.nck (hu : Up cx ops F o) (ho : o.op = .nilCheck x) (hx : evF F x = some (.one (.p id off))) : Doing cx ops o F H ⟨.one (.p id off), [], []⟩ :=
  Doing.val hu fun ρ A a w hs => by
    have h1 := ev_rel hs hx
    simp only [AV.Rel, SV.Rel] at h1
    exact ⟨_, by simp only [execOp, ho, h1]; rfl, rfl⟩
end place

/-! ### Loads -/
section load
variable {T : TypeId} {x : Operand} {n by' id off : Nat} {d : TypeDesc} {z c : Cs} {k : IntKind}
theorem Y.ld (hT : TyI cx.P T d n by' z) (hd : TypeDesc.isAgg d = false) (hu : Up cx ops F o) (ho : o.op = .load T x) (hx : evF F x = some (.one (.p id off))) (hb : H id = some (.own c)) (hl : off < c.len) :
    Doing cx ops o F H ⟨.one (c.at off), [], []⟩ :=
  Doing.val hu fun ρ A a w hs => by
    have h1 := ev_rel hs hx
    simp only [AV.Rel, SV.Rel] at h1
    obtain ⟨_, hcells⟩ := OwnB.cells (hs.hp id _ hb) (by omega)
    obtain ⟨u, hu', hr⟩ := hcells off hl
    refine ⟨u, ?_, hr⟩
    simp only [execOp, ho, h1, Instr.loadAt, Instr.sureAddr, loadVar, Sem.run_bind, Sem.run_pure, Result.andThen_ok, hT.run_isAgg w, hd, Bool.false_eq_true, if_false, run_load, hu']
theorem Y.ldRow (hT : TyI cx.P T d n by' z) (hd : TypeDesc.isAgg d = true) (hu : Up cx ops F o) (ho : o.op = .load T x) (hx : evF F x = some (.one (.p id off))) (hb : H id = some (.own c)) (hl : off + n ≤ c.len) (hn : n ≠ 0) :
    Doing cx ops o F H ⟨.row (c.sub off n), [], []⟩ :=
  Doing.val hu fun ρ A a w hs => by
    have h1 := ev_rel hs hx
    simp only [AV.Rel, SV.Rel] at h1
    obtain ⟨_, hcells⟩ := OwnB.cells (hs.hp id _ hb) (by omega)
    have hc' : ∀ j, j < (c.sub off n).len → ∃ u, w.cell? ⟨(ρ id).blk, ((ρ id).off + off) + j, none⟩ = some u ∧ ((c.sub off n).at j).Rel ρ A w u := by
      intro j hj
      rw [Cs.sub_len hl] at hj
      obtain ⟨u, hu', hr⟩ := hcells (off + j) (by omega)
      exact ⟨u, by rw [Nat.add_assoc]; exact hu', by rw [Cs.sub_at hj]; exact hr⟩
    obtain ⟨cs, h2, h3, h4⟩ := run_loadCells_rel (P := cx.P) hc'
    rw [Cs.sub_len hl] at h2
    refine ⟨.agg cs, ?_, cs, rfl, h3, h4⟩
    simp only [execOp, ho, h1, Instr.loadAt, Instr.sureAddr, loadVar, Sem.run_bind, Sem.run_pure, Result.andThen_ok, hT.run_isAgg w, hd, if_true, hT.run_size w, h2]
/-- ... the whole block. -/
theorem Y.ldAll (hT : TyI cx.P T d n by' z) (hd : TypeDesc.isAgg d = true) (hu : Up cx ops F o) (ho : o.op = .load T x) (hx : evF F x = some (.one (.p id 0))) (hb : H id = some (.own c)) (hl : c.len = n) (hn : n ≠ 0) :
    Doing cx ops o F H ⟨.row c, [], []⟩ := by
  have := Y.ldRow hT hd hu ho hx hb (by omega) hn
  have e : c.sub 0 n = c := by
    subst hl
    cases c <;> simp [Cs.sub, Cs.len]
  rwa [e] at this
theorem Y.ldPc {v : Nat} (hT : TyI cx.P T d n by' z) (hd : TypeDesc.isAgg d = false) (hu : Up cx ops F o) (ho : o.op = .load T x) (hx : evF F x = some (.one (.pc k v))) : Doing cx ops o F H ⟨.one (.n k v), [], []⟩ :=
  Doing.val hu fun ρ A a w hs => by
    obtain ⟨b, of, h1, _, hc, hft⟩ := ev_rel hs hx
    refine ⟨_, ?_, rfl, hft⟩
    simp only [execOp, ho, h1, Instr.loadAt, Instr.sureAddr, loadVar, Sem.run_bind, Sem.run_pure, Result.andThen_ok, hT.run_isAgg w, hd, Bool.false_eq_true, if_false, run_load, hc]
theorem Y.ldPcb {xs : List Nat} (hT : TyI cx.P T d n by' z) (hd : TypeDesc.isAgg d = false) (hu : Up cx ops F o) (ho : o.op = .load T x) (hx : evF F x = some (.one (.pcb xs))) : Doing cx ops o F H ⟨.one (.bs false .u8 xs), [], []⟩ :=
  Doing.val hu fun ρ A a w hs => by
    obtain ⟨b, of, u, h1, _, hc, hr⟩ := ev_rel hs hx
    refine ⟨u, ?_, hr⟩
    simp only [execOp, ho, h1, Instr.loadAt, Instr.sureAddr, loadVar, Sem.run_bind, Sem.run_pure, Result.andThen_ok, hT.run_isAgg w, hd, Bool.false_eq_true, if_false, run_load, hc]
end load

/-! ### Slices of slices and of arrays -/
/-- A bound of a slice expression: what it is, or what stands for none. -/
def Bnd (F : Nat → Option AV) (x : Option Operand) (dflt v : Nat) : Prop := (x = none ∧ v = dflt) ∨ ∃ y k, x = some y ∧ evF F y = some (.one (.n k v))
theorem bnd0 {F : Nat → Option AV} {d : Nat} : Bnd F none d d := .inl ⟨rfl, rfl⟩
theorem bnd1 {F : Nat → Option AV} {x : Operand} {k : IntKind} {d v : Nat} (h : evF F x = some (.one (.n k v))) : Bnd F (some x) d v := .inr ⟨x, k, rfl, h⟩

theorem run_bounds {a : Act} {w : World} {ρ : Nat → Loc} {A : Nat → Prop} (hs : StRel cx F H a w ρ A) {lo hi : Option Operand} {len cap l h : Nat} (hlo : Bnd F lo 0 l) (hhi : Bnd F hi len h) (h1 : l ≤ h) (h2 : h ≤ cap) (b : Bool) :
    (Instr.sliceBounds b len cap (lo.map a.eval) (hi.map a.eval) none).run cx.P w = .ok (l, h, cap) w := by
  have ev : ∀ y k v, evF F y = some (.one (.n k v)) → a.eval y = .int k v := fun y k v hy => (ev_rel hs hy).1
  unfold Instr.sliceBounds Instr.sliceBound
  rcases hlo with ⟨rfl, rfl⟩ | ⟨yl, kl, rfl, hl⟩
  · rcases hhi with ⟨rfl, rfl⟩ | ⟨yh, kh, rfl, hh⟩
    · simp
    · have e := ev _ _ _ hh
      simp only [Option.map_none, Option.map_some, e, asIntOf, Sem.run_bind, Sem.run_pure, Result.andThen_ok]
      rw [if_pos ⟨by omega, by omega⟩]
      simp
  · have el := ev _ _ _ hl
    rcases hhi with ⟨rfl, rfl⟩ | ⟨yh, kh, rfl, hh⟩
    · simp only [Option.map_none, Option.map_some, el, asIntOf, Sem.run_bind, Sem.run_pure, Result.andThen_ok]
      rw [if_pos ⟨by omega, by omega⟩]
      simp
    · have e := ev _ _ _ hh
      simp only [Option.map_some, e, el, asIntOf, Sem.run_bind, Sem.run_pure, Result.andThen_ok]
      rw [if_pos ⟨by omega, by omega⟩]
      simp only [Sem.run_pure, Result.andThen_ok, Int.toNat_natCast]
      rw [if_pos ⟨by omega, by omega⟩]
      simp
theorem run_bounds3 {a : Act} {w : World} {ρ : Nat → Loc} {A : Nat → Prop} (hs : StRel cx F H a w ρ A) {lo : Option Operand} {yh ym : Operand} {kh km : IntKind} {len cap l h m : Nat} (hlo : Bnd F lo 0 l) (hhi : evF F yh = some (.one (.n kh h))) (hmx : evF F ym = some (.one (.n km m)))
    (h1 : l ≤ h) (h2 : h ≤ m) (h3 : m ≤ cap) (b : Bool) :
    (Instr.sliceBounds b len cap (lo.map a.eval) (some (a.eval yh)) (some (a.eval ym))).run cx.P w = .ok (l, h, m) w := by
  have ev : ∀ y k v, evF F y = some (.one (.n k v)) → a.eval y = .int k v := fun y k v hy => (ev_rel hs hy).1
  unfold Instr.sliceBounds Instr.sliceBound
  have e := ev _ _ _ hhi
  have em := ev _ _ _ hmx
  rcases hlo with ⟨rfl, rfl⟩ | ⟨yl, kl, rfl, hl⟩
  · simp only [Option.map_none, e, em, asIntOf, Sem.run_bind, Sem.run_pure, Result.andThen_ok]
    rw [if_pos ⟨by omega, by omega⟩]
    simp only [Sem.run_pure, Result.andThen_ok, Int.toNat_natCast]
    rw [if_pos ⟨by omega, by omega⟩]
    simp
  · have el := ev _ _ _ hl
    simp only [Option.map_some, e, em, el, asIntOf, Sem.run_bind, Sem.run_pure, Result.andThen_ok]
    rw [if_pos ⟨by omega, by omega⟩]
    simp only [Sem.run_pure, Result.andThen_ok, Int.toNat_natCast]
    rw [if_pos ⟨by omega, by omega⟩]
    simp only [Sem.run_pure, Result.andThen_ok]
    rw [if_pos ⟨by omega, by omega⟩]
    simp

section slice
variable {T E : TypeId} {x : Operand} {lo hi : Option Operand} {N n by' bz id off len l h : Nat} {d : TypeDesc} {z zz c : Cs} {k : IntKind}
/-- A slice of an array that is a variable. -/
theorem Y.slArr (hT : TyI cx.P T (.array N E) n by' z) (hE : TyI cx.P E d 1 bz zz) (hu : Up cx ops F o) (ho : o.op = .slice T x lo hi none) (hx : evF F x = some (.one (.p id off))) (hb : H id = some (.own c)) (hc : off + N ≤ c.len)
    (hlo : Bnd F lo 0 l) (hhi : Bnd F hi N h) (h1 : l ≤ h) (h2 : h ≤ N) : Doing cx ops o F H ⟨.one (.sg id (off + l) (h - l)), [], []⟩ :=
  Doing.val hu fun ρ A a w hs => by
    have hp := ev_rel hs hx
    simp only [AV.Rel, SV.Rel] at hp
    have hsz : c.len ≤ (ρ id).size := (hs.hp id _ hb).1
    have hr := run_bounds hs (len := N) (cap := N) hlo hhi h1 h2 false
    refine ⟨.slice (some (if N = l then ⟨(ρ id).blk, (ρ id).off + off, none⟩ else (⟨(ρ id).blk, (ρ id).off + off, none⟩ : Addr).add (l * 1))) (h - l) (N - l), ?_, ?_⟩
    · simp only [execOp, ho, hp, Instr.sliceAt, Instr.sureAddr, Option.map_none, Sem.run_bind, Sem.run_pure, Result.andThen_ok, hT.run_und w, hr, hE.run_size w]
    · refine ⟨_, _, rfl, by omega, ?_⟩
      by_cases hN : N = l
      · exact .inl (by omega)
      · refine .inr ⟨?_, by omega⟩
        rw [if_neg hN, addr_add, Nat.mul_one, Nat.add_assoc]
theorem Y.slSg (hT : TyI cx.P T (.slice E) n by' z) (hE : TyI cx.P E d 1 bz zz) (hu : Up cx ops F o) (ho : o.op = .slice T x lo hi none) (hx : evF F x = some (.one (.sg id off len)))
    (hlo : Bnd F lo 0 l) (hhi : Bnd F hi len h) (h1 : l ≤ h) (h2 : h ≤ len) : Doing cx ops o F H ⟨.one (.sg id (off + l) (h - l)), [], []⟩ :=
  Doing.val hu fun ρ A a w hs => by
    obtain ⟨ad, cap, hv, hcap, h0⟩ := ev_rel hs hx
    have hr := run_bounds hs (len := len) (cap := cap) hlo hhi h1 (by omega) true
    refine ⟨.slice (if cap = l then ad else ad.map (·.add (l * 1))) (h - l) (cap - l), ?_, ?_⟩
    · simp only [execOp, ho, hv, Instr.sliceAt, Instr.slice, Option.map_none, Sem.run_bind, Sem.run_pure, Result.andThen_ok, hT.run_und w, hr, hE.run_size w]
    · refine ⟨_, _, rfl, by omega, ?_⟩
      by_cases hN : cap = l
      · exact .inl (by omega)
      · rcases h0 with h0 | ⟨had, hsz⟩
        · omega
        · refine .inr ⟨?_, by omega⟩
          rw [if_neg hN, had, Option.map_some, addr_add, Nat.mul_one, Nat.add_assoc]
theorem Imm.slice {A : Nat → Prop} {w : World} {m : Nat} {ex : Bool} {cell : Nat → Value → Prop} {ad : Option Addr} {cap : Nat} (hcap : m ≤ cap) (h0 : cap = 0 ∨ ∃ b o, ad = some ⟨b, o, none⟩ ∧ ¬ A b ∧ b < w.heap.size ∧ ∀ i, i < m → ∃ u, w.cell? ⟨b, o + i, none⟩ = some u ∧ cell i u)
    {l h cap' : Nat} (h1 : l ≤ h) (h2 : h ≤ m) (hc1 : h ≤ cap') (hc2 : cap' ≤ cap) (he : ex = true → cap' = h) : Imm A w (h - l) ex (fun i u => cell (l + i) u) (.slice (if cap' = l then ad else ad.map (·.add (l * 1))) (h - l) (cap' - l)) := by
  refine ⟨_, _, rfl, by omega, fun e => by rw [he e], ?_⟩
  by_cases hN : cap' = l
  · exact .inl (by omega)
  · rcases h0 with h0 | ⟨b, of, had, hA, hlt, hc⟩
    · omega
    · refine .inr ⟨b, of + l, ?_, hA, hlt, fun i hi => ?_⟩
      · rw [if_neg hN, had, Option.map_some, addr_add, Nat.mul_one]
      · obtain ⟨u, hu, hr⟩ := hc (l + i) (by omega)
        exact ⟨u, by rw [Nat.add_assoc]; exact hu, hr⟩
theorem take_drop_len {α : Type} {xs : List α} {l h : Nat} (h1 : l ≤ h) (h2 : h ≤ xs.length) : ((xs.drop l).take (h - l)).length = h - l := by simp; omega
theorem getD_take_drop {xs : List Nat} {l h i : Nat} (hi : i < h - l) : ((xs.drop l).take (h - l)).getD i 0 = xs.getD (l + i) 0 := by
  simp [List.getD_eq_getElem?_getD, hi]
theorem Y.slBs {ex : Bool} {xs : List Nat} (hT : TyI cx.P T (.slice E) n by' z) (hE : TyI cx.P E d 1 bz zz) (hu : Up cx ops F o) (ho : o.op = .slice T x lo hi none) (hx : evF F x = some (.one (.bs ex k xs)))
    (hlo : Bnd F lo 0 l) (hhi : Bnd F hi xs.length h) (h1 : l ≤ h) (h2 : h ≤ xs.length) : Doing cx ops o F H ⟨.one (.bs false k ((xs.drop l).take (h - l))), [], []⟩ :=
  Doing.val hu fun ρ A a w hs => by
    obtain ⟨ad, cap, hv, hcap, _, h0⟩ := ev_rel hs hx
    have hr := run_bounds hs (len := xs.length) (cap := cap) hlo hhi h1 (by omega) true
    refine ⟨.slice (if cap = l then ad else ad.map (·.add (l * 1))) (h - l) (cap - l), ?_, ?_⟩
    · simp only [execOp, ho, hv, Instr.sliceAt, Instr.slice, Option.map_none, Sem.run_bind, Sem.run_pure, Result.andThen_ok, hT.run_und w, hr, hE.run_size w]
    · have := Imm.slice (ex := false) hcap h0 h1 h2 (cap' := cap) (by omega) (Nat.le_refl _) (fun h => nomatch h)
      simp only [AV.Rel, SV.Rel, ImmB]
      rw [take_drop_len h1 h2]
      exact this.mono (fun _ _ _ => rfl) (Nat.le_refl _) (fun _ _ h => h) (fun i u hi hc => by rw [getD_take_drop hi]; exact hc)
/-- ... whose room ends with it. -/
theorem Y.slBs3 {ex : Bool} {xs : List Nat} {yh ym : Operand} {kh km : IntKind} (hT : TyI cx.P T (.slice E) n by' z) (hE : TyI cx.P E d 1 bz zz) (hu : Up cx ops F o) (ho : o.op = .slice T x lo (some yh) (some ym)) (hx : evF F x = some (.one (.bs ex k xs)))
    (hlo : Bnd F lo 0 l) (hhi : evF F yh = some (.one (.n kh h))) (hmx : evF F ym = some (.one (.n km h))) (h1 : l ≤ h) (h2 : h ≤ xs.length) : Doing cx ops o F H ⟨.one (.bs true k ((xs.drop l).take (h - l))), [], []⟩ :=
  Doing.val hu fun ρ A a w hs => by
    obtain ⟨ad, cap, hv, hcap, _, h0⟩ := ev_rel hs hx
    have hr := run_bounds3 hs (len := xs.length) (cap := cap) hlo hhi hmx h1 (Nat.le_refl _) (by omega) true
    refine ⟨.slice (if h = l then ad else ad.map (·.add (l * 1))) (h - l) (h - l), ?_, ?_⟩
    · simp only [execOp, ho, hv, Instr.sliceAt, Instr.slice, Option.map_some, Sem.run_bind, Sem.run_pure, Result.andThen_ok, hT.run_und w, hr, hE.run_size w]
    · have := Imm.slice (ex := true) hcap h0 h1 h2 (cap' := h) (Nat.le_refl _) (by omega) (fun _ => rfl)
      simp only [AV.Rel, SV.Rel, ImmB]
      rw [take_drop_len h1 h2]
      exact this.mono (fun _ _ _ => rfl) (Nat.le_refl _) (fun _ _ h => h) (fun i u hi hc => by rw [getD_take_drop hi]; exact hc)
theorem Y.slSg3 {yh ym : Operand} {kh km : IntKind} (hT : TyI cx.P T (.slice E) n by' z) (hE : TyI cx.P E d 1 bz zz) (hu : Up cx ops F o) (ho : o.op = .slice T x lo (some yh) (some ym)) (hx : evF F x = some (.one (.sg id off len)))
    (hlo : Bnd F lo 0 l) (hhi : evF F yh = some (.one (.n kh h))) (hmx : evF F ym = some (.one (.n km h))) (h1 : l ≤ h) (h2 : h ≤ len) : Doing cx ops o F H ⟨.one (.sg id (off + l) (h - l)), [], []⟩ :=
  Doing.val hu fun ρ A a w hs => by
    obtain ⟨ad, cap, hv, hcap, h0⟩ := ev_rel hs hx
    have hr := run_bounds3 hs (len := len) (cap := cap) hlo hhi hmx h1 (Nat.le_refl _) (by omega) true
    refine ⟨.slice (if h = l then ad else ad.map (·.add (l * 1))) (h - l) (h - l), ?_, ?_⟩
    · simp only [execOp, ho, hv, Instr.sliceAt, Instr.slice, Option.map_some, Sem.run_bind, Sem.run_pure, Result.andThen_ok, hT.run_und w, hr, hE.run_size w]
    · refine ⟨_, _, rfl, by omega, ?_⟩
      by_cases hN : h = l
      · exact .inl (by omega)
      · rcases h0 with h0 | ⟨had, hsz⟩
        · omega
        · refine .inr ⟨?_, by omega⟩
          rw [if_neg hN, had, Option.map_some, addr_add, Nat.mul_one, Nat.add_assoc]
end slice

/-! ### Lengths, the least of two -/
def SV.len? : SV → Option Nat
  | .sg _ _ len => some len
  | .bs _ _ xs => some xs.length
  | .bss _ xss => some xss.length
  | .nil => some 0
  | .ss xs => some xs.length
  | _ => none
theorem SV.len_rel {s : SV} {n : Nat} (h : s.len? = some n) {ρ : Nat → Loc} {A : Nat → Prop} {w : World} {v : Value} (hv : s.Rel ρ A w v) : ∃ a cap, v = .slice a n cap := by
  cases s <;> simp only [SV.len?, Option.some.injEq, reduceCtorEq] at h <;> subst h
  · obtain ⟨a, rfl⟩ := hv; exact ⟨a, 0, rfl⟩
  · obtain ⟨a, cap, rfl, _⟩ := hv; exact ⟨a, cap, rfl⟩
  · obtain ⟨a, cap, rfl, _⟩ := hv; exact ⟨a, cap, rfl⟩
  · obtain ⟨a, cap, rfl, _⟩ := hv; exact ⟨a, cap, rfl⟩
  · obtain ⟨a, cap, rfl, _⟩ := hv; exact ⟨a, cap, rfl⟩
section len
variable {T E : TypeId} {x y : Operand} {n by' : Nat} {z : Cs} {s : SV} {k : IntKind} {a b : Nat}
theorem Y.len {ats : Array TypeId} {L : Nat} (hT : TyI cx.P T (.slice E) n by' z) (hu : Up cx ops F o) (ho : o.op = .call { callee := .builtin .len, args := #[x], argTypes := ats }) (hat : ats[0]? = some T) (hx : evF F x = some (.one s)) (hs : s.len? = some L) :
    Doing cx ops o F H ⟨.one (.n .i64 L), [], []⟩ :=
  Doing.val hu fun ρ A act w hst => by
    obtain ⟨ad, cap, h1⟩ := SV.len_rel hs (ev_rel hst hx)
    refine ⟨_, ?_, rfl, fits.i64⟩
    simp [execOp, ho, resolve, invoke, builtin, Builtin.len_, hat, h1, hT.run_und w, goInt]
theorem Y.min {ats : Array TypeId} (hu : Up cx ops F o) (ho : o.op = .call { callee := .builtin .min, args := #[x, y], argTypes := ats }) (hx : evF F x = some (.one (.n k a))) (hy : evF F y = some (.one (.n k b))) :
    Doing cx ops o F H ⟨.one (.n k (Min.min a b)), [], []⟩ :=
  Doing.val hu fun ρ A act w hst => by
    have h1 := ev_rel hst hx
    have h2 := ev_rel hst hy
    simp only [AV.Rel, SV.Rel] at h1 h2
    refine ⟨.int k (if (b : Int) < a then b else a), ?_, ?_⟩
    · simp [execOp, ho, resolve, invoke, builtin, Builtin.min_, Builtin.min2, h1.1, h2.1]
    · constructor
      · rw [show Min.min a b = (if a ≤ b then a else b) from Nat.min_def]
        congr 1
        split <;> split <;> omega
      · rw [show Min.min a b = (if a ≤ b then a else b) from Nat.min_def]
        split
        · exact h1.2
        · exact h2.2
theorem Y.max {ats : Array TypeId} (hu : Up cx ops F o) (ho : o.op = .call { callee := .builtin .max, args := #[x, y], argTypes := ats }) (hx : evF F x = some (.one (.n k a))) (hy : evF F y = some (.one (.n k b))) :
    Doing cx ops o F H ⟨.one (.n k (Max.max a b)), [], []⟩ :=
  Doing.val hu fun ρ A act w hst => by
    have h1 := ev_rel hst hx
    have h2 := ev_rel hst hy
    simp only [AV.Rel, SV.Rel] at h1 h2
    refine ⟨.int k (if (b : Int) > a then b else a), ?_, ?_⟩
    · simp [execOp, ho, resolve, invoke, builtin, Builtin.max_, Builtin.max2, h1.1, h2.1]
    · constructor
      · rw [show Max.max a b = (if a ≤ b then b else a) from Nat.max_def]
        congr 1
        split <;> split <;> omega
      · rw [show Max.max a b = (if a ≤ b then b else a) from Nat.max_def]
        split
        · exact h2.2
        · exact h1.2
end len

/-! ### Strings, and equality -/
theorem strOfNums_nat (xs : List Nat) : strOfNums (xs.map fun (x : Nat) => (x : Int)) = strOf xs := by
  unfold strOfNums strOf
  rw [List.map_map]
  congr 3

section str
variable {T T' E : TypeId} {x y : Operand} {n by' bz : Nat} {z zz : Cs} {xs ys : List Nat}
theorem Y.str {v : AV} {n' b' : Nat} {z' : Cs} (hT : TyI cx.P T (.slice E) n by' z) (hE : TyI cx.P E (.int .u8) 1 bz zz) (hT' : TyI cx.P T' .string n' b' z') (hu : Up cx ops F o) (ho : o.op = .convert T T' x) (hx : evF F x = some v) (hv : View H v (.one (.bs false .u8 xs))) :
    Doing cx ops o F H ⟨.one (.str xs), [], []⟩ :=
  Doing.val hu fun ρ A act w hst => by
    obtain ⟨ad, cap, h1, hcap, _, h0⟩ := View.rel hst (A' := fun _ => False) (fun _ h => h.elim) (fun _ _ _ _ _ _ h => h) hv (ev_rel hst hx)
    refine ⟨.string (strOf xs), ?_, rfl, fun x hx => ?_⟩
    case refine_2 =>
      obtain ⟨i, hi, rfl⟩ := List.getElem_of_mem hx
      rcases h0 with h0 | ⟨b, off, _, _, _, hc⟩
      · omega
      · obtain ⟨u, _, _, hf⟩ := hc i hi
        have := hf.lt rfl rfl
        simpa [List.getD_eq_getElem?_getD, hi, IntKind.bits] using this
    rcases h0 with h0 | ⟨b, off, had, _, _, hc⟩
    · have hxs : xs = [] := by
        cases xs with
        | nil => rfl
        | cons _ _ => simp only [List.length_cons] at hcap; omega
      subst hxs
      have : (convert T T' (.slice ad 0 cap)).run cx.P w = .ok (.string (strOf [])) w := by
        cases ad with
        | none => rw [run_convert_bytes_nil w T E hT.u hE.u _ _ T' hT'.u]; rfl
        | some q =>
          rw [run_convert_bytes_string w T T' E _ _ _ hT.u hE.u hT'.u]
          rw [run_bytesToString w q 0 cap [] (by simp [loadCells, loadCellsFrom])]
          rfl
      simp only [List.length_nil] at h1
      simp only [execOp, ho, h1, Sem.run_bind, this, Result.andThen_ok, Sem.run_pure]
    · have := run_convert_bytes_arg (P := cx.P) w T E hT.u hE.u b off xs.length cap (xs.map fun (x : Nat) => (x : Int)) (by simp) (fun i hi => by
        obtain ⟨u, hu', hr⟩ := hc i hi
        rw [hu', hr.1]
        simp [List.getD_eq_getElem?_getD, hi]) T' hT'.u
      rw [strOfNums_nat] at this
      simp only [execOp, ho, h1, had, Sem.run_bind, this, Result.andThen_ok, Sem.run_pure]
theorem strOf_inj {xs ys : List Nat} (hx : ∀ x ∈ xs, x < 256) (hy : ∀ y ∈ ys, y < 256) : strOf xs = strOf ys ↔ xs = ys := by
  refine ⟨fun h => ?_, fun h => by rw [h]⟩
  have h1 : ∀ (l : List Nat), (∀ x ∈ l, x < 256) → ((strOf l).data.toList.map UInt8.toNat) = l := by
    intro l hl
    simp only [strOf, List.map_map]
    conv => rhs; rw [← List.map_id l]
    apply List.map_congr_left
    intro x hx
    simp only [Function.comp, UInt8.toNat_ofNat', id]
    exact Nat.mod_eq_of_lt (hl x hx)
  rw [← h1 xs hx, ← h1 ys hy, h]
theorem Y.eqS (hu : Up cx ops F o) (ho : o.op = .binOp .eql T x y T') (hx : evF F x = some (.one (.str xs))) (hy : evF F y = some (.one (.str ys))) : Doing cx ops o F H ⟨.one (.b (decide (xs = ys))), [], []⟩ :=
  Doing.val hu fun ρ A act w hst => by
    have h1 := ev_rel hst hx
    have h2 := ev_rel hst hy
    simp only [AV.Rel, SV.Rel] at h1 h2
    refine ⟨.bool ((strOf xs).toList == (strOf ys).toList), ?_, ?_⟩
    · simp only [execOp, ho, h1, h2, Sem.run_bind]
      rfl
    · have e : (decide (xs = ys)) = decide (strOf xs = strOf ys) := by
        have := strOf_inj h1.2 h2.2
        by_cases h : xs = ys
        · simp [h]
        · simp [h, this]
      simp only [AV.Rel, SV.Rel, ByteArray.toList_eq, e]
      congr 1
      rw [Bool.eq_iff_iff]
      simp [strOf]
theorem Y.neqS (hu : Up cx ops F o) (ho : o.op = .binOp .neq T x y T') (hx : evF F x = some (.one (.str xs))) (hy : evF F y = some (.one (.str ys))) : Doing cx ops o F H ⟨.one (.b (decide (xs ≠ ys))), [], []⟩ :=
  Doing.val hu fun ρ A act w hst => by
    have h1 := ev_rel hst hx
    have h2 := ev_rel hst hy
    simp only [AV.Rel, SV.Rel] at h1 h2
    refine ⟨.bool (!((strOf xs).toList == (strOf ys).toList)), ?_, ?_⟩
    · simp only [execOp, ho, h1, h2, Sem.run_bind]
      rfl
    · have e : (decide (xs ≠ ys)) = !decide (strOf xs = strOf ys) := by
        have := strOf_inj h1.2 h2.2
        by_cases h : xs = ys
        · simp [h]
        · simp [h, this]
      simp only [AV.Rel, SV.Rel, ByteArray.toList_eq, e]
      congr 2
      rw [Bool.eq_iff_iff]
      simp [strOf]
theorem Y.addS (hu : Up cx ops F o) (ho : o.op = .binOp .add T x y T') (hx : evF F x = some (.one (.str xs))) (hy : evF F y = some (.one (.str ys))) (hl : xs.length + ys.length < 9223372036854775808) : Doing cx ops o F H ⟨.one (.str (xs ++ ys)), [], []⟩ :=
  Doing.val hu fun ρ A act w hst => by
    have h1 := ev_rel hst hx
    have h2 := ev_rel hst hy
    simp only [AV.Rel, SV.Rel] at h1 h2
    refine ⟨.string (strOf xs ++ strOf ys), ?_, ?_⟩
    · have e : (binOp .add T (.string (strOf xs)) (.string (strOf ys))).run cx.P w = .ok (.string (strOf xs ++ strOf ys)) w := by
        show (Op.stringOp .add (strOf xs) (strOf ys)).run cx.P w = _
        unfold Op.stringOp
        have hs : ¬ ((((strOf xs).size + (strOf ys).size : Nat) : Int) > IntKind.i64.max) := by
          have e1 : (strOf xs).size = xs.length := by simp [strOf, ByteArray.size]
          have e2 : (strOf ys).size = ys.length := by simp [strOf, ByteArray.size]
          rw [e1, e2]
          simp [IntKind.max, IntKind.signed, IntKind.bits]; omega
        simp only
        rw [if_neg hs]; rfl
      have g : (eqGuard .add T x y (.string (strOf xs)) (.string (strOf ys))).run cx.P w = .ok () w := rfl
      simp only [execOp, ho, h1, h2, Sem.run_bind, g, Result.andThen_ok, e, Sem.run_pure]
    · refine ⟨?_, fun x hx => ?_⟩
      · congr 1
        simp [strOf, ByteArray.ext_iff]
      · rcases List.mem_append.1 hx with h | h
        · exact h1.2 x h
        · exact h2.2 x h
theorem Y.eqB {x y : Operand} {a b : Bool} (hT : TyI cx.P T .bool n by' z) (hu : Up cx ops F o) (ho : o.op = .binOp .eql T x y T') (hx : evF F x = some (.one (.b a))) (hy : evF F y = some (.one (.b b))) : Doing cx ops o F H ⟨.one (.b (a == b)), [], []⟩ :=
  Doing.val hu fun ρ A act w hst => by
    have h1 := ev_rel hst hx
    have h2 := ev_rel hst hy
    simp only [AV.Rel, SV.Rel] at h1 h2
    refine ⟨.bool (a == b), ?_, rfl⟩
    have e : (binOp .eql T (.bool a) (.bool b)).run cx.P w = .ok (.bool (a == b)) w := by
      show ((Op.equal T (.bool a) (.bool b)).bind _).run cx.P w = _
      have := run_equal_bool (P := cx.P) w T a b hT.u
      exact (Sem.run_bind' _ _ _ _).trans (by rw [this]; rfl)
    have g : (eqGuard .eql T x y (.bool a) (.bool b)).run cx.P w = .ok () w := rfl
    simp only [execOp, ho, h1, h2, Sem.run_bind, g, e, Result.andThen_ok, Sem.run_pure]

theorem run_eqItems_ints {P : Program} {w : World} {k : IntKind} {d : Nat} (hE : TyI P E (.int k) 1 bz zz) {xs ys : List Nat} {cs ds : Array Value} (hc : cs.toList = xs.map fun (x : Nat) => Value.int k x) (hd : ds.toList = ys.map fun (x : Nat) => Value.int k x) (hl : xs.length = ys.length) :
    ∀ (m i : Nat), i + m = xs.length → (Op.eqItems (d + 1) E 1 cs ds (List.range' i m)).run P w = .ok (decide (xs.drop i = ys.drop i)) w
  | 0, i, h => by
    have e1 : xs.drop i = [] := List.drop_eq_nil_of_le (by omega)
    have e2 : ys.drop i = [] := List.drop_eq_nil_of_le (by omega)
    simp [Op.eqItems, e1, e2]
  | m + 1, i, h => by
    have ih := run_eqItems_ints (w := w) (d := d) hE hc hd hl m (i + 1) (by omega)
    have px : (part E cs i).run P w = .ok (.int k (xs[i]'(by omega))) w := by
      unfold part
      have : cs[i]? = some (.int k (xs[i]'(by omega))) := by
        rw [← Array.getElem?_toList, hc]; simp [show i < xs.length by omega]
      simp only [Sem.run_bind, hE.run_isAgg w, TypeDesc.isAgg, Result.andThen_ok, Bool.false_eq_true, if_false, this, Sem.run_pure]
    have py : (part E ds i).run P w = .ok (.int k (ys[i]'(by omega))) w := by
      unfold part
      have : ds[i]? = some (.int k (ys[i]'(by omega))) := by
        rw [← Array.getElem?_toList, hd]; simp [show i < ys.length by omega]
      simp only [Sem.run_bind, hE.run_isAgg w, TypeDesc.isAgg, Result.andThen_ok, Bool.false_eq_true, if_false, this, Sem.run_pure]
    rw [List.range'_succ]
    simp only [Op.eqItems, Nat.mul_one, Sem.run_bind, px, py, Result.andThen_ok, run_equalIn_int w d E k k _ _ hE.u]
    have e1 : xs.drop i = xs[i]'(by omega) :: xs.drop (i + 1) := List.drop_eq_getElem_cons (by omega)
    have e2 : ys.drop i = ys[i]'(by omega) :: ys.drop (i + 1) := List.drop_eq_getElem_cons (by omega)
    by_cases he : xs[i]'(by omega) = ys[i]'(by omega)
    · have : ((xs[i]'(by omega) : Int) == (ys[i]'(by omega) : Int)) = true := by simp [he]
      rw [this]
      simp only [Bool.not_true, Bool.false_eq_true, if_false]
      have hiff : (xs.drop i = ys.drop i) ↔ (xs.drop (i + 1) = ys.drop (i + 1)) := by
        rw [e1, e2, List.cons.injEq]; simp only [he, true_and]
      rw [ih]; simp only [hiff]
    · have : ((xs[i]'(by omega) : Int) == (ys[i]'(by omega) : Int)) = false := by simp; omega
      rw [this]
      simp only [Bool.not_false, if_true, Sem.run_pure]
      have hne : ¬ (xs.drop i = ys.drop i) := by
        rw [e1, e2, List.cons.injEq]; exact fun h => he h.1
      rw [decide_eq_false hne]

theorem row_toList {ρ : Nat → Loc} {A : Nat → Prop} {w : World} {k : IntKind} {xs : List Nat} {cs : Array Value} (hs : cs.size = (Cs.ints k xs).len) (hc : ∀ j, j < (Cs.ints k xs).len → ∃ u, cs[j]? = some u ∧ ((Cs.ints k xs).at j).Rel ρ A w u) :
    cs.toList = xs.map fun (x : Nat) => Value.int k x := by
  apply List.ext_getElem?
  intro j
  rw [Array.getElem?_toList]
  by_cases hj : j < xs.length
  · obtain ⟨u, hu, hr⟩ := hc j hj
    rw [hu]
    simp only [Cs.at, SV.Rel] at hr
    rw [hr.1]
    simp [List.getD_eq_getElem?_getD, hj]
  · rw [Array.getElem?_eq_none (by rw [hs]; simp only [Cs.len]; omega)]
    simp [List.getElem?_eq_none (Nat.le_of_not_lt hj)]

/-- Two arrays of integers. -/
theorem Y.eqR {k : IntKind} {N : Nat} (hT : TyI cx.P T (.array N E) n by' z) (hE : TyI cx.P E (.int k) 1 bz zz) (hg : cx.P.eqGuardType cx.P.depth T = false) (hu : Up cx ops F o) (ho : o.op = .binOp .eql T x y T') (hx : evF F x = some (.row (.ints k xs))) (hy : evF F y = some (.row (.ints k ys)))
    (h1 : xs.length = N) (h2 : ys.length = N) : Doing cx ops o F H ⟨.one (.b (decide (xs = ys))), [], []⟩ :=
  Doing.val hu fun ρ A act w hst => by
    obtain ⟨cs, hv, hcs, hcc⟩ := ev_rel hst hx
    obtain ⟨ds, hw, hds, hdd⟩ := ev_rel hst hy
    have e1 := row_toList hcs hcc
    have e2 := row_toList hds hdd
    obtain ⟨i, _, hi, hsz, _⟩ := hE.info
    refine ⟨.bool (decide (xs = ys)), ?_, rfl⟩
    have g : (eqGuard .eql T x y (.agg cs) (.agg ds)).run cx.P w = .ok () w := by
      unfold eqGuard
      simp [hg]
    have e : (Op.equal T (.agg cs) (.agg ds)).run cx.P w = .ok (decide (xs = ys)) w := by
      unfold Op.equal Op.maxDepth
      rw [run_equalIn_array w 9999 cs ds hT.u hi]
      have hcell : cx.P.cellsOf E = 1 := by simp [Program.cellsOf, hi, hsz]
      rw [hcell, List.range_eq_range', ← h1]
      have := run_eqItems_ints (P := cx.P) (w := w) (d := 9998) hE e1 e2 (by omega) xs.length 0 (by omega)
      simpa using this
    have e' : (binOp .eql T (.agg cs) (.agg ds)).run cx.P w = .ok (.bool (decide (xs = ys))) w := by
      show ((Op.equal T (.agg cs) (.agg ds)).bind _).run cx.P w = _
      exact (Sem.run_bind' _ _ _ _).trans (by rw [e]; rfl)
    simp only [execOp, ho, hv, hw, Sem.run_bind, g, e', Result.andThen_ok, Sem.run_pure]
end str
end
end Go.Fx

/- FxM: operations that make memory, and that write it. -/
namespace Go.Fx
set_option linter.unusedVariables false
set_option linter.unusedSimpArgs false
open Go.RowKit (Below)

/-! ### How a state goes on -/
theorem ovr_nil (H : Nat → Option Bk) : ovr [] H = H := rfl
theorem ovr_cons (d : Nat) (b : Bk) (r : List (Nat × Bk)) (H : Nat → Option Bk) : ovr ((d, b) :: r) H = upd (ovr r H) d b := by
  funext i
  by_cases h : i = d <;> simp [ovr, lk, upd, h]

/-- A world with one block more. -/
structure Pushed (w w' : World) (o : Obj) : Prop where
  heap : w'.heap = w.heap.push o
  os : w'.os = w.os
  tape : w'.tape = w.tape
  output : w'.output = w.output

theorem Pushed.below {w w' : World} {o : Obj} (h : Pushed w w' o) : Below w.heap.size w w' :=
  ⟨h.os, h.tape, h.output, by rw [h.heap]; simp, fun b hb => by rw [h.heap, Array.getElem?_push]; rw [if_neg (by omega)]⟩

theorem StRel.alloc {cx : Cx} {F : Nat → Option AV} {H : Nat → Option Bk} {a : Act} {w w' : World} {ρ : Nat → Loc} {A : Nat → Prop} (hs : StRel cx F H a w ρ A) {d : Nat} (hn : Nom cx d F H) {cs : Array Value} {T : TypeId} {fz : Nat × Nat}
    (hp : Pushed w w' (.cells cs T fz)) (hfz : Unfrozen fz cs.size) {c : Cs} (hc : c.len ≤ cs.size) (hrel : ∀ j, j < c.len → ∃ u, cs[j]? = some u ∧ (c.at j).Rel ρ A w u) (hid : d ∉ c.ids) {bk : Bk} (hbk : bk = .own c ∨ bk = .grw c) :
    StRel cx F (upd H d bk) a w' (upd' ρ d ⟨w.heap.size, 0, cs.size, true⟩) (fun b => A b ∨ b = w.heap.size) := by
  have hs' := hs.below hp.below
  have hsz : w'.heap.size = w.heap.size + 1 := by rw [hp.heap]; simp
  have hOf : ∀ b, cx.O b → b < w.heap.size := fun b hb => hs.A1 b (hs.O b hb)
  have hρ : ∀ i, i ≠ d → upd' ρ d ⟨w.heap.size, 0, cs.size, true⟩ i = ρ i := fun i hi => by simp [upd', hi]
  have mono : ∀ {x : AV} {v : Value}, d ∉ x.ids → x.Rel ρ A w v → x.Rel (upd' ρ d ⟨w.heap.size, 0, cs.size, true⟩) (fun b => A b ∨ b = w.heap.size) w' v := by
    intro x v hx h
    refine h.mono (fun id hi => hρ id (fun e => hx (e ▸ hi))) (fun b hb _ => hp.below.block b hb) hp.below.size (fun b hb h => ?_)
    rcases h with h | h
    · exact h
    · omega
  have monoS : ∀ {x : SV} {v : Value}, d ∉ x.ids → x.Rel ρ A w v → x.Rel (upd' ρ d ⟨w.heap.size, 0, cs.size, true⟩) (fun b => A b ∨ b = w.heap.size) w' v := by
    intro x v hx h
    exact mono (x := .one x) hx h
  refine ⟨hs.df, hs.sz, fun t v hv => mono (hn.f t v hv) (hs.fr t v hv), ?_, ?_, ?_, fun b hb => .inl (hs.O b hb), hs'.fm, ?_⟩
  · intro i b hb
    simp only [upd] at hb
    split at hb
    · rename_i he
      subst he
      cases hb
      have hown : OwnB cx (upd' ρ i ⟨w.heap.size, 0, cs.size, true⟩) (fun b => A b ∨ b = w.heap.size) w' (upd' ρ i ⟨w.heap.size, 0, cs.size, true⟩ i) c := by
        simp only [upd', if_true]
        refine ⟨hc, ?_⟩
        by_cases hz : cs.size = 0
        · exact .inl hz
        refine .inr ⟨rfl, .inr rfl, fun h => Nat.lt_irrefl _ (hOf _ h), .inl hs.fm.size, cs, T, fz, by rw [hp.heap]; simp, by simp, hfz, fun j hj => ?_⟩
        obtain ⟨u, hu, hr⟩ := hrel j hj
        exact ⟨u, by simpa using hu, monoS (fun h => hid (Cs.ids_at hj h)) hr⟩
      rcases hbk with rfl | rfl
      · exact hown
      · exact .inl hown
    · rename_i hne
      rw [hρ i hne]
      refine (hs.hp i b hb).mono (fun id hi => hρ id (fun e => hn.g i b hb (e ▸ hi))) (fun b hb _ => hp.below.block b hb) hp.below.size (fun b hb h => ?_) ?_ ?_
      · rcases h with h | h
        · exact h
        · omega
      · intro hl ho hz
        exact hp.below.block _ (hs.A1 _ (hs.liveA hb hl ho hz))
      · intro hl ho hz
        exact .inl (hs.liveA hb hl ho hz)
  · intro i j bi bj hbi hbj li lj hne oi oj zi zj
    simp only [upd] at hbi hbj
    by_cases h1 : i = d
    · have h2 : j ≠ d := fun h => hne (h1.trans h.symm)
      rw [if_neg h2] at hbj
      subst h1
      rw [hρ j h2] at oj zj ⊢
      have := hs.A1 _ (hs.liveA hbj lj oj zj)
      simp only [upd', if_true]
      omega
    · rw [if_neg h1] at hbi
      rw [hρ i h1] at oi zi ⊢
      by_cases h2 : j = d
      · subst h2
        have := hs.A1 _ (hs.liveA hbi li oi zi)
        simp only [upd', if_true]
        omega
      · rw [if_neg h2] at hbj
        rw [hρ j h2] at oj zj ⊢
        exact hs.sep i j bi bj hbi hbj li lj hne oi oj zi zj
  · intro b hb
    rcases hb with hb | hb
    · have := hs.A1 b hb; omega
    · omega
  · intro i hi
    have : i ≠ d := fun e => hn.e (e ▸ hi)
    rw [hρ i this]; exact hs.E i hi

theorem StRel.kill {cx : Cx} {F : Nat → Option AV} {H : Nat → Option Bk} {a : Act} {w : World} {ρ : Nat → Loc} {A : Nat → Prop} (hs : StRel cx F H a w ρ A) (id : Nat) : StRel cx F (upd H id .dead) a w ρ A := by
  refine ⟨hs.df, hs.sz, hs.fr, ?_, ?_, hs.A1, hs.O, hs.fm, hs.E⟩
  · intro i b hb
    simp only [upd] at hb
    split at hb
    · cases hb; trivial
    · exact hs.hp i b hb
  · intro i j bi bj hbi hbj li lj
    have f : ∀ i b, upd H id Bk.dead i = some b → b.live → H i = some b := by
      intro i b hb hl
      simp only [upd] at hb
      split at hb
      · cases hb; exact hl.elim
      · exact hb
    exact hs.sep i j bi bj (f i bi hbi li) (f j bj hbj lj) li lj

/-- A block of the call's own is written. -/
theorem StRel.writeF {cx : Cx} {F : Nat → Option AV} {H : Nat → Option Bk} {a : Act} {w w' : World} {ρ : Nat → Loc} {A : Nat → Prop} (hs : StRel cx F H a w ρ A) {id : Nat} {b : Bk} (hb : H id = some b) (hl : b.live) (ho : (ρ id).own = true) (hz : (ρ id).size ≠ 0)
    {cs cs' : Array Value} {T : TypeId} {fz fz' : Nat × Nat} (hfz' : Unfrozen fz cs.size → Unfrozen fz' cs.size) (hh : w.heap[(ρ id).blk]? = some (.cells cs T fz)) (hsz : cs'.size = cs.size) (hw : w' = { w with heap := w.heap.setIfInBounds (ρ id).blk (.cells cs' T fz') })
    {c' : Cs} (hc : c'.len ≤ (ρ id).size) (hrel : ∀ j, j < c'.len → ∃ u, cs'[(ρ id).off + j]? = some u ∧ (c'.at j).Rel ρ A w u) {bk : Bk} (hbk : bk = .own c' ∨ bk = .grw c') : StRel cx F (upd H id bk) a w' ρ A := by
  subst hw
  have hown0 : ¬ cx.O (ρ id).blk ∧ (cx.w0.heap.size ≤ (ρ id).blk ∨ cx.M (ρ id).blk) ∧ ∃ cs T fz, w.heap[(ρ id).blk]? = some (.cells cs T fz) ∧ (ρ id).off + (ρ id).size ≤ cs.size ∧ Unfrozen fz cs.size := by
    have own : ∀ c, OwnB cx ρ A w (ρ id) c → ¬ cx.O (ρ id).blk ∧ (cx.w0.heap.size ≤ (ρ id).blk ∨ cx.M (ρ id).blk) ∧ ∃ cs T fz, w.heap[(ρ id).blk]? = some (.cells cs T fz) ∧ (ρ id).off + (ρ id).size ≤ cs.size ∧ Unfrozen fz cs.size := fun c hc => by
      rcases hc.2 with h2 | ⟨_, _, h3, h4, cs, T, fz, h5, h6, h7, _⟩
      · exact absurd h2 hz
      · exact ⟨h3, h4, cs, T, fz, h5, h6, h7⟩
    have hrel := hs.hp id b hb
    cases b with
    | own c => exact own c hrel
    | grw c =>
      rcases hrel with hrel | ⟨ho', _⟩
      · exact own c hrel
      · rw [ho] at ho'; cases ho'
    | dead => exact hl.elim
  obtain ⟨hnO, hM, cs0, T0, fz0, hh0, hoff, hfz⟩ := hown0
  rw [hh] at hh0
  simp only [Option.some.injEq, Obj.cells.injEq] at hh0
  obtain ⟨rfl, rfl, rfl⟩ := hh0
  have hAb : A (ρ id).blk := hs.liveA hb hl ho hz
  have hlt := hs.A1 _ hAb
  have keep : ∀ b', b' ≠ (ρ id).blk → (w.heap.setIfInBounds (ρ id).blk (.cells cs' T fz'))[b']? = w.heap[b']? := fun b' hne => Array.getElem?_setIfInBounds_ne (Ne.symm hne)
  have keepA : ∀ b', b' < w.heap.size → ¬ A b' → (w.heap.setIfInBounds (ρ id).blk (.cells cs' T fz'))[b']? = w.heap[b']? := fun b' _ hA => keep b' (fun e => hA (e ▸ hAb))
  have hsize : w.heap.size ≤ (w.heap.setIfInBounds (ρ id).blk (.cells cs' T fz')).size := by simp
  refine ⟨hs.df, hs.sz, fun t v hv => (hs.fr t v hv).mono (fun _ _ => rfl) keepA hsize (fun _ _ h => h), ?_, ?_, fun b hb => Nat.lt_of_lt_of_le (hs.A1 b hb) hsize, hs.O, ?_, hs.E⟩
  · intro i b' hb'
    simp only [upd] at hb'
    split at hb'
    · rename_i he
      subst he
      cases hb'
      have hown : OwnB cx ρ A { w with heap := w.heap.setIfInBounds (ρ i).blk (.cells cs' T fz') } (ρ i) c' := by
        refine ⟨hc, .inr ⟨ho, hAb, hnO, hM, cs', T, fz', ?_, by omega, by rw [hsz]; exact hfz' hfz, fun j hj => ?_⟩⟩
        · simp only [Array.getElem?_setIfInBounds, if_true, if_pos hlt]
        · obtain ⟨u, hu, hr⟩ := hrel j hj
          exact ⟨u, hu, hr.mono (fun _ _ => rfl) keepA hsize (fun _ _ h => h)⟩
      rcases hbk with rfl | rfl
      · exact hown
      · exact .inl hown
    · rename_i hne
      refine (hs.hp i b' hb').mono (fun _ _ => rfl) keepA hsize (fun _ _ h => h) ?_ (fun hl' ho' hz' => hs.liveA hb' hl' ho' hz')
      intro hl' ho' hz'
      exact keep _ (hs.sep i id b' b hb' hb hl' hl hne ho' ho hz' hz)
  · intro i j bi bj hbi hbj li lj hne oi oj zi zj
    have f : ∀ i b', upd H id bk i = some b' → ∃ b'', H i = some b'' ∧ (b'.live → b''.live) := by
      intro i b' hb'
      simp only [upd] at hb'
      split at hb'
      · rename_i he; subst he; exact ⟨b, hb, fun _ => hl⟩
      · exact ⟨b', hb', fun h => h⟩
    obtain ⟨bi', hbi', fi⟩ := f i bi hbi
    obtain ⟨bj', hbj', fj⟩ := f j bj hbj
    exact hs.sep i j bi' bj' hbi' hbj' (fi li) (fj lj) hne oi oj zi zj
  · refine ⟨hs.fm.os, hs.fm.tape, hs.fm.output, Nat.le_trans hs.fm.size hsize, fun b' hlt' hM' => ?_⟩
    refine (keep b' ?_).trans (hs.fm.block b' hlt' hM')
    rintro rfl
    rcases hM with h | h
    · omega
    · exact hM' h

/-- ... and keeps what is frozen. -/
theorem StRel.write {cx : Cx} {F : Nat → Option AV} {H : Nat → Option Bk} {a : Act} {w w' : World} {ρ : Nat → Loc} {A : Nat → Prop} (hs : StRel cx F H a w ρ A) {id : Nat} {b : Bk} (hb : H id = some b) (hl : b.live) (ho : (ρ id).own = true) (hz : (ρ id).size ≠ 0)
    {cs cs' : Array Value} {T : TypeId} {fz : Nat × Nat} (hh : w.heap[(ρ id).blk]? = some (.cells cs T fz)) (hsz : cs'.size = cs.size) (hw : w' = { w with heap := w.heap.setIfInBounds (ρ id).blk (.cells cs' T fz) })
    {c' : Cs} (hc : c'.len ≤ (ρ id).size) (hrel : ∀ j, j < c'.len → ∃ u, cs'[(ρ id).off + j]? = some u ∧ (c'.at j).Rel ρ A w u) {bk : Bk} (hbk : bk = .own c' ∨ bk = .grw c') : StRel cx F (upd H id bk) a w' ρ A :=
  hs.writeF hb hl ho hz (fz' := fz) (fun h => h) hh hsz hw hc hrel hbk

/-- A block's rest is handed on under another name. -/
theorem StRel.move {cx : Cx} {F : Nat → Option AV} {H : Nat → Option Bk} {a : Act} {w : World} {ρ : Nat → Loc} {A : Nat → Prop} (hs : StRel cx F H a w ρ A) {id d off : Nat} {c c' : Cs} (hb : H id = some (.own c)) (hn : Nom cx d F H) (hoff : off ≤ c.len) (hclen : c'.len = c.len - off) (hat : ∀ j, j < c'.len → c'.at j = c.at (off + j)) :
    StRel cx F (upd (upd H id .dead) d (.own c')) a w (upd' ρ d ⟨(ρ id).blk, (ρ id).off + off, (ρ id).size - off, (ρ id).own⟩) A := by
  have hdid : d ≠ id := fun e => by rw [e] at hn; rw [hn.h] at hb; cases hb
  have hρ : ∀ i, i ≠ d → upd' ρ d ⟨(ρ id).blk, (ρ id).off + off, (ρ id).size - off, (ρ id).own⟩ i = ρ i := fun i hi => by simp [upd', hi]
  have f : ∀ i b', upd (upd H id Bk.dead) d (.own c') i = some b' → b'.live → i = d ∨ (i ≠ d ∧ i ≠ id ∧ H i = some b') := by
    intro i b' hb' hl
    simp only [upd] at hb'
    split at hb'
    · rename_i he; exact .inl he
    · rename_i h1
      split at hb'
      · cases hb'; exact hl.elim
      · rename_i h2; exact .inr ⟨h1, h2, hb'⟩
  refine ⟨hs.df, hs.sz, fun t v hv => (hs.fr t v hv).mono (fun i hi => hρ i (fun e => hn.f t v hv (e ▸ hi))) (fun _ _ _ => rfl) (Nat.le_refl _) (fun _ _ h => h), ?_, ?_, hs.A1, hs.O, hs.fm, ?_⟩
  · intro i b' hb'
    simp only [upd] at hb'
    split at hb'
    · rename_i he
      subst he
      cases hb'
      have hnc : ∀ j, j < c.len → ∀ k ∈ (c.at j).ids, k ≠ i := fun j hj k hk e => hn.g id _ hb (by rw [← e]; exact Cs.ids_at hj hk)
      simp only [upd', if_true]
      obtain ⟨h1, h2⟩ := hs.hp id _ hb
      refine ⟨by rw [hclen]; show c.len - off ≤ (ρ id).size - off; omega, ?_⟩
      rcases h2 with h2 | ⟨ho, ha, hO, hM, cs, T, fz, hh, hof, hfz, hc⟩
      · exact .inl (by show (ρ id).size - off = 0; omega)
      · refine .inr ⟨ho, ha, hO, hM, cs, T, fz, hh, by show (ρ id).off + off + ((ρ id).size - off) ≤ cs.size; omega, hfz, fun j hj => ?_⟩
        rw [hclen] at hj
        obtain ⟨u, hu, hr⟩ := hc (off + j) (by omega)
        refine ⟨u, by show cs[(ρ id).off + off + j]? = some u; rw [Nat.add_assoc]; exact hu, ?_⟩
        rw [hat _ (by omega)]
        exact hr.mono (fun k hk => hρ k (hnc _ (by omega) k hk)) (fun _ _ _ => rfl) (Nat.le_refl _) (fun _ _ h => h)
    · rename_i h1
      split at hb'
      · cases hb'; trivial
      · rw [hρ i h1]
        exact (hs.hp i b' hb').mono (fun k hk => hρ k (fun e => hn.g i b' hb' (e ▸ hk))) (fun _ _ _ => rfl) (Nat.le_refl _) (fun _ _ h => h) (fun _ _ _ => rfl) (fun hl' ho' hz' => hs.liveA hb' hl' ho' hz')
  · intro i j bi bj hbi hbj li lj hne oi oj zi zj
    rcases f i bi hbi li with rfl | ⟨i1, i2, hi⟩
    · rcases f j bj hbj lj with rfl | ⟨j1, j2, hj⟩
      · exact absurd rfl hne
      · rw [hρ j j1] at oj zj ⊢
        simp only [upd', if_true] at oi zi ⊢
        exact hs.sep id j _ bj hb hj trivial lj (Ne.symm j2) oi oj (by omega) zj
    · rw [hρ i i1] at oi zi ⊢
      rcases f j bj hbj lj with rfl | ⟨j1, j2, hj⟩
      · simp only [upd', if_true] at oj zj ⊢
        exact hs.sep i id bi _ hi hb li trivial i2 oi oj zi (by omega)
      · rw [hρ j j1] at oj zj ⊢
        exact hs.sep i j bi bj hi hj li lj hne oi oj zi zj
  · intro i hi
    have : i ≠ d := fun e => hn.e (e ▸ hi)
    rw [hρ i this]; exact hs.E i hi

end Go.Fx
