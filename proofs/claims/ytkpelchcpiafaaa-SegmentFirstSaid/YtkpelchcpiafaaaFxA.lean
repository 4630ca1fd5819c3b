/-
  FxA: abstract values, frames and heaps over the kit's worlds; the relation between them; what keeps it.
-/
import Derived.Calls
import Derived.Orders
import Derived.Below
import Derived.Carry
import Derived.KernelRfl
namespace Go.Fx
set_option linter.unusedVariables false
set_option linter.unusedSimpArgs false
open Go.RowKit (Below)

/-- Where an abstract block lies: the first cell of its window, how many real cells may be used from there on, and whether nobody else holds it. -/
structure Loc where
  blk : Nat
  off : Nat
  size : Nat
  own : Bool

/-- A value of one cell. -/
inductive SV where
  | b (x : Bool)
  | n (k : IntKind) (x : Nat)
  | z (x : Int)
  | str (xs : List Nat)
  | nil
  | p (id off : Nat)
  | sg (id off len : Nat)
  | bs (ex : Bool) (k : IntKind) (xs : List Nat)
  | bss (ex : Bool) (xss : List (List Nat))
  | pc (k : IntKind) (x : Nat)
  | pcb (xs : List Nat)
  | fn (f : Nat) (caps : List Nat)
  | u

def SV.ids : SV → List Nat
  | .p id _ => [id]
  | .sg id _ _ => [id]
  | .fn _ caps => caps
  | _ => []

/-- A row of cells. -/
inductive Cs where
  | ints (k : IntKind) (xs : List Nat)
  | mix (l : List SV)

def Cs.len : Cs → Nat
  | .ints _ xs => xs.length
  | .mix l => l.length
def Cs.at : Cs → Nat → SV
  | .ints k xs, i => .n k (xs.getD i 0)
  | .mix l, i => l.getD i .u
def Cs.ids : Cs → List Nat
  | .ints _ _ => []
  | .mix l => l.flatMap SV.ids

inductive AV where
  | one (s : SV)
  | row (c : Cs)
  | two (a b : AV)

def AV.ids : AV → List Nat
  | .one s => s.ids
  | .row c => c.ids
  | .two a b => a.ids ++ b.ids

inductive Bk where
  | own (c : Cs)
  | grw (c : Cs)
  | dead

def Bk.ids : Bk → List Nat
  | .own c => c.ids
  | .grw c => c.ids
  | .dead => []

/-- An unsigned number is of its kind. -/
def fits (k : IntKind) (x : Nat) : Prop := k.signed = true ∨ x < 2 ^ k.bits
instance (k : IntKind) (x : Nat) : Decidable (fits k x) := by unfold fits; infer_instance

/-- The bytes' string. -/
def strOf (xs : List Nat) : ByteArray := ⟨(xs.map UInt8.ofNat).toArray⟩

/-- A slice whose cells nobody writes: n of them, each as 'cell' says, in a block that is none of A. -/
def Imm (A : Nat → Prop) (w : World) (n : Nat) (ex : Bool) (cell : Nat → Value → Prop) (v : Value) : Prop :=
  ∃ a cap, v = .slice a n cap ∧ n ≤ cap ∧ (ex = true → cap = n) ∧
    (cap = 0 ∨ ∃ b o, a = some ⟨b, o, none⟩ ∧ ¬ A b ∧ b < w.heap.size ∧ ∀ i, i < n → ∃ u, w.cell? ⟨b, o + i, none⟩ = some u ∧ cell i u)

def ImmB (A : Nat → Prop) (w : World) (ex : Bool) (k : IntKind) (xs : List Nat) (v : Value) : Prop :=
  Imm A w xs.length ex (fun i u => u = .int k (xs.getD i 0) ∧ fits k (xs.getD i 0)) v

def SV.Rel (ρ : Nat → Loc) (A : Nat → Prop) (w : World) : SV → Value → Prop
  | .b x, v => v = .bool x
  | .n k x, v => v = .int k x ∧ fits k x
  | .z x, v => v = .int .i64 x
  | .str xs, v => v = .string (strOf xs) ∧ ∀ x ∈ xs, x < 256
  | .nil, v => ∃ a, v = .slice a 0 0
  | .p id off, v => v = .pointer (some ⟨(ρ id).blk, (ρ id).off + off, none⟩)
  | .sg id off len, v => ∃ a cap, v = .slice a len cap ∧ len ≤ cap ∧ (cap = 0 ∨ (a = some ⟨(ρ id).blk, (ρ id).off + off, none⟩ ∧ off + cap ≤ (ρ id).size))
  | .bs ex k xs, v => ImmB A w ex k xs v
  | .bss ex xss, v => Imm A w xss.length ex (fun i u => ImmB A w false .u8 (xss.getD i []) u) v
  | .pc k x, v => ∃ b o, v = .pointer (some ⟨b, o, none⟩) ∧ ¬ A b ∧ w.cell? ⟨b, o, none⟩ = some (.int k x) ∧ fits k x
  | .pcb xs, v => ∃ b o u, v = .pointer (some ⟨b, o, none⟩) ∧ ¬ A b ∧ w.cell? ⟨b, o, none⟩ = some u ∧ ImmB A w false .u8 xs u
  | .fn f caps, v => v = .func (.func f) #[] (caps.map fun id => Value.pointer (some ⟨(ρ id).blk, (ρ id).off, none⟩)).toArray
  | .u, v => v = undef

def AV.Rel (ρ : Nat → Loc) (A : Nat → Prop) (w : World) : AV → Value → Prop
  | .one s, v => s.Rel ρ A w v
  | .row c, v => ∃ cs : Array Value, v = .agg cs ∧ cs.size = c.len ∧ ∀ j, j < c.len → ∃ u, cs[j]? = some u ∧ (c.at j).Rel ρ A w u
  | .two a b, v => ∃ x y, v = .tuple #[x, y] ∧ a.Rel ρ A w x ∧ b.Rel ρ A w y

/-- The frame and the heap as lists (the first entry of a key counts). -/
structure Ls where
  fr : List (Nat × AV)
  hp : List (Nat × Bk)

def lk {α : Type} (t : Nat) : List (Nat × α) → Option α
  | [] => none
  | (s, v) :: r => if t = s then some v else lk t r

theorem lk_nil {α : Type} (t : Nat) : lk t ([] : List (Nat × α)) = none := rfl
theorem lk_same {α : Type} (t : Nat) (v : α) (r : List (Nat × α)) : lk t ((t, v) :: r) = some v := by simp [lk]
theorem lk_ne {α : Type} {t s : Nat} (h : t ≠ s) (v : α) (r : List (Nat × α)) : lk t ((s, v) :: r) = lk t r := by simp [lk, h]

/-- What a call is told at its begin: the program, how many slots, the world, which blocks may not be looked through (O), which may be written (M), and the entry blocks. -/
structure Cx where
  P : Program
  nt : Nat
  w0 : World
  O : Nat → Prop
  M : Nat → Prop
  E : List Nat
  ρ0 : Nat → Loc

structure FrameOK (M : Nat → Prop) (w0 w : World) : Prop where
  os : w.os = w0.os
  tape : w.tape = w0.tape
  output : w.output = w0.output
  size : w0.heap.size ≤ w.heap.size
  block : ∀ b, b < w0.heap.size → ¬ M b → w.heap[b]? = w0.heap[b]?

def Unfrozen (fz : Nat × Nat) (n : Nat) : Prop := fz.1 = fz.2 ∨ n ≤ fz.1
theorem Unfrozen.at {fz : Nat × Nat} {n : Nat} (h : Unfrozen fz n) (i : Nat) (hi : i < n) : (decide (fz.1 ≤ i) && decide (i < fz.2)) = false := by
  rcases h with h | h
  · rw [h]; by_cases h2 : fz.2 ≤ i <;> simp [h2]
  · have h2 : ¬ fz.1 ≤ i := by omega
    simp [h2]

/-- The cells of a block of the call's own. -/
def OwnB (cx : Cx) (ρ : Nat → Loc) (A : Nat → Prop) (w : World) (l : Loc) (c : Cs) : Prop :=
  c.len ≤ l.size ∧ (l.size = 0 ∨ (l.own = true ∧ A l.blk ∧ ¬ cx.O l.blk ∧ (cx.w0.heap.size ≤ l.blk ∨ cx.M l.blk) ∧
    ∃ cs T fz, w.heap[l.blk]? = some (.cells cs T fz) ∧ l.off + l.size ≤ cs.size ∧ Unfrozen fz cs.size ∧
      ∀ j, j < c.len → ∃ u, cs[l.off + j]? = some u ∧ (c.at j).Rel ρ A w u))

def Bk.Rel (cx : Cx) (ρ : Nat → Loc) (A : Nat → Prop) (w : World) (l : Loc) : Bk → Prop
  | .own c => OwnB cx ρ A w l c
  | .grw c => OwnB cx ρ A w l c ∨ (l.own = false ∧ l.size = c.len ∧ (l.size = 0 ∨ (¬ A l.blk ∧ l.blk < w.heap.size ∧
      ∀ j, j < c.len → ∃ u, w.cell? ⟨l.blk, l.off + j, none⟩ = some u ∧ (c.at j).Rel ρ A w u)))
  | .dead => True

def Bk.live : Bk → Prop
  | .dead => False
  | _ => True

structure StRel (cx : Cx) (F : Nat → Option AV) (H : Nat → Option Bk) (a : Act) (w : World) (ρ : Nat → Loc) (A : Nat → Prop) : Prop where
  df : a.defers = []
  sz : a.tmps.size = cx.nt
  fr : ∀ t v, F t = some v → v.Rel ρ A w (a.tmps.getD t undef)
  hp : ∀ id b, H id = some b → b.Rel cx ρ A w (ρ id)
  sep : ∀ i j bi bj, H i = some bi → H j = some bj → bi.live → bj.live → i ≠ j → (ρ i).own = true → (ρ j).own = true → (ρ i).size ≠ 0 → (ρ j).size ≠ 0 → (ρ i).blk ≠ (ρ j).blk
  A1 : ∀ b, A b → b < w.heap.size
  O : ∀ b, cx.O b → A b
  fm : FrameOK cx.M cx.w0 w
  E : ∀ id ∈ cx.E, ρ id = cx.ρ0 id

def Ls.F (S : Ls) : Nat → Option AV := fun t => lk t S.fr
def Ls.H (S : Ls) : Nat → Option Bk := fun i => lk i S.hp

/-! ### What keeps a value's relation -/
theorem Imm.mono {A A' : Nat → Prop} {w w' : World} {n : Nat} {ex : Bool} {cell cell' : Nat → Value → Prop} {v : Value} (h : Imm A w n ex cell v)
    (hw : ∀ b, b < w.heap.size → ¬ A b → w'.heap[b]? = w.heap[b]?) (hs : w.heap.size ≤ w'.heap.size) (hA : ∀ b, b < w.heap.size → A' b → A b)
    (hc : ∀ i u, i < n → cell i u → cell' i u) : Imm A' w' n ex cell' v := by
  obtain ⟨a, cap, hv, hn, he, h0⟩ := h
  refine ⟨a, cap, hv, hn, he, h0.imp id ?_⟩
  rintro ⟨b, o, ha, hb, hlt, hcs⟩
  refine ⟨b, o, ha, fun h' => hb (hA b hlt h'), Nat.lt_of_lt_of_le hlt hs, fun i hi => ?_⟩
  obtain ⟨u, hu, hcu⟩ := hcs i hi
  refine ⟨u, ?_, hc i u hi hcu⟩
  rw [← hu]
  unfold World.cell?
  simp only [hw b hlt hb]

theorem ImmB.mono {A A' : Nat → Prop} {w w' : World} {ex : Bool} {k : IntKind} {xs : List Nat} {v : Value} (h : ImmB A w ex k xs v)
    (hw : ∀ b, b < w.heap.size → ¬ A b → w'.heap[b]? = w.heap[b]?) (hs : w.heap.size ≤ w'.heap.size) (hA : ∀ b, b < w.heap.size → A' b → A b) : ImmB A' w' ex k xs v :=
  Imm.mono h hw hs hA fun _ _ _ h => h

theorem cell_keep {A : Nat → Prop} {w w' : World} {b o : Nat} {u : Value} (hb : ¬ A b) (h : w.cell? ⟨b, o, none⟩ = some u)
    (hw : ∀ b, b < w.heap.size → ¬ A b → w'.heap[b]? = w.heap[b]?) : w'.cell? ⟨b, o, none⟩ = some u ∧ b < w.heap.size := by
  have hlt := World.block_lt_of_cell? _ _ h
  refine ⟨?_, hlt⟩
  rw [← h]
  unfold World.cell?
  simp only [hw b hlt hb]

theorem SV.Rel.mono {ρ ρ' : Nat → Loc} {A A' : Nat → Prop} {w w' : World} {s : SV} {v : Value} (h : s.Rel ρ A w v) (hρ : ∀ id ∈ s.ids, ρ' id = ρ id)
    (hw : ∀ b, b < w.heap.size → ¬ A b → w'.heap[b]? = w.heap[b]?) (hs : w.heap.size ≤ w'.heap.size) (hA : ∀ b, b < w.heap.size → A' b → A b) : s.Rel ρ' A' w' v := by
  cases s with
  | b x => exact h
  | n k x => exact h
  | z x => exact h
  | str xs => exact h
  | nil => exact h
  | p id off => simp only [SV.Rel, hρ id (by simp [SV.ids])] at h ⊢; exact h
  | sg id off len => simp only [SV.Rel, hρ id (by simp [SV.ids])] at h ⊢; exact h
  | bs ex k xs => exact ImmB.mono h hw hs hA
  | bss ex xss => exact Imm.mono h hw hs hA fun _ _ _ h => ImmB.mono h hw hs hA
  | pc k x =>
    obtain ⟨b, o, hv, hb, hc, hft⟩ := h
    obtain ⟨hc', hlt⟩ := cell_keep hb hc hw
    exact ⟨b, o, hv, fun h' => hb (hA b hlt h'), hc', hft⟩
  | pcb xs =>
    obtain ⟨b, o, u, hv, hb, hc, hi⟩ := h
    obtain ⟨hc', hlt⟩ := cell_keep hb hc hw
    exact ⟨b, o, u, hv, fun h' => hb (hA b hlt h'), hc', ImmB.mono hi hw hs hA⟩
  | fn f caps =>
    simp only [SV.Rel] at h ⊢
    rw [h]
    congr 2
    exact List.map_congr_left fun id hid => by rw [hρ id hid]
  | u => exact h

theorem Cs.ids_at {c : Cs} {j : Nat} (h : j < c.len) {id : Nat} (hid : id ∈ (c.at j).ids) : id ∈ c.ids := by
  cases c with
  | ints k xs => simp [Cs.at, SV.ids] at hid
  | mix l =>
    simp only [Cs.at, Cs.len] at *
    simp only [Cs.ids, List.mem_flatMap]
    refine ⟨l[j], List.getElem_mem h, ?_⟩
    simpa [List.getD_eq_getElem?_getD, h] using hid

theorem AV.Rel.mono {ρ ρ' : Nat → Loc} {A A' : Nat → Prop} {w w' : World} {x : AV} : ∀ {v : Value}, x.Rel ρ A w v → (∀ id ∈ x.ids, ρ' id = ρ id) →
    (∀ b, b < w.heap.size → ¬ A b → w'.heap[b]? = w.heap[b]?) → w.heap.size ≤ w'.heap.size → (∀ b, b < w.heap.size → A' b → A b) → x.Rel ρ' A' w' v := by
  induction x with
  | one s => intro v h hρ hw hs hA; exact SV.Rel.mono h hρ hw hs hA
  | row c =>
    intro v h hρ hw hs hA
    obtain ⟨cs, hv, hl, hc⟩ := h
    refine ⟨cs, hv, hl, fun j hj => ?_⟩
    obtain ⟨u, hu, hr⟩ := hc j hj
    exact ⟨u, hu, hr.mono (fun id hid => hρ id (Cs.ids_at hj hid)) hw hs hA⟩
  | two a b iha ihb =>
    intro v h hρ hw hs hA
    obtain ⟨x, y, hv, hx, hy⟩ := h
    exact ⟨x, y, hv, iha hx (fun id hid => hρ id (by simp [AV.ids, hid])) hw hs hA, ihb hy (fun id hid => hρ id (by simp [AV.ids, hid])) hw hs hA⟩

theorem OwnB.mono {cx : Cx} {ρ ρ' : Nat → Loc} {A A' : Nat → Prop} {w w' : World} {l : Loc} {c : Cs} (h : OwnB cx ρ A w l c) (hρ : ∀ id ∈ c.ids, ρ' id = ρ id)
    (hw : ∀ b, b < w.heap.size → ¬ A b → w'.heap[b]? = w.heap[b]?) (hs : w.heap.size ≤ w'.heap.size) (hA : ∀ b, b < w.heap.size → A' b → A b)
    (hb : l.size ≠ 0 → w'.heap[l.blk]? = w.heap[l.blk]?) (hA' : l.size ≠ 0 → A' l.blk) : OwnB cx ρ' A' w' l c := by
  obtain ⟨h1, h2⟩ := h
  refine ⟨h1, ?_⟩
  rcases h2 with h2 | ⟨ho, ha, hO, hm, cs, T, fz, hh, hoff, hfz, hc⟩
  · exact .inl h2
  · by_cases hz : l.size = 0
    · exact .inl hz
    refine .inr ⟨ho, hA' hz, hO, hm, cs, T, fz, by rw [hb hz]; exact hh, hoff, hfz, fun j hj => ?_⟩
    obtain ⟨u, hu, hr⟩ := hc j hj
    exact ⟨u, hu, hr.mono (fun id hid => hρ id (Cs.ids_at hj hid)) hw hs hA⟩

theorem Bk.Rel.mono {cx : Cx} {ρ ρ' : Nat → Loc} {A A' : Nat → Prop} {w w' : World} {l : Loc} {b : Bk} (h : b.Rel cx ρ A w l) (hρ : ∀ id ∈ b.ids, ρ' id = ρ id)
    (hw : ∀ b, b < w.heap.size → ¬ A b → w'.heap[b]? = w.heap[b]?) (hs : w.heap.size ≤ w'.heap.size) (hA : ∀ b, b < w.heap.size → A' b → A b)
    (hb : b.live → l.own = true → l.size ≠ 0 → w'.heap[l.blk]? = w.heap[l.blk]?) (hA' : b.live → l.own = true → l.size ≠ 0 → A' l.blk) : b.Rel cx ρ' A' w' l := by
  have own : ∀ c, Bk.ids b = c.ids → b.live → OwnB cx ρ A w l c → OwnB cx ρ' A' w' l c := by
    intro c hc hl h
    by_cases hz : l.size = 0
    · exact ⟨h.1, .inl hz⟩
    · have ho : l.own = true := by
        rcases h.2 with h2 | h2
        · exact absurd h2 hz
        · exact h2.1
      exact h.mono (fun id hid => hρ id (by rw [hc]; exact hid)) hw hs hA (fun hz => hb hl ho hz) (fun hz => hA' hl ho hz)
  cases b with
  | own c => exact own c rfl trivial h
  | grw c =>
    rcases h with h | ⟨ho, hsz, h2⟩
    · exact .inl (own c rfl trivial h)
    · refine .inr ⟨ho, hsz, h2.imp id ?_⟩
      rintro ⟨ha, hlt, hc⟩
      refine ⟨fun h' => ha (hA _ hlt h'), Nat.lt_of_lt_of_le hlt hs, fun j hj => ?_⟩
      obtain ⟨u, hu, hr⟩ := hc j hj
      exact ⟨u, (cell_keep ha hu hw).1, hr.mono (fun id hid => hρ id (Cs.ids_at hj hid)) hw hs hA⟩
  | dead => trivial

/-- Behind anything that only makes new blocks. -/
theorem StRel.below {cx : Cx} {F : Nat → Option AV} {H : Nat → Option Bk} {a : Act} {w w' : World} {ρ : Nat → Loc} {A : Nat → Prop} (h : StRel cx F H a w ρ A) (hb : Below w.heap.size w w') : StRel cx F H a w' ρ A where
  df := h.df
  sz := h.sz
  fr := fun t v hv => (h.fr t v hv).mono (fun _ _ => rfl) (fun b hlt _ => hb.block b hlt) hb.size (fun _ _ h => h)
  hp := fun id b hv => by
    refine (h.hp id b hv).mono (fun _ _ => rfl) (fun b hlt _ => hb.block b hlt) hb.size (fun _ _ h => h) ?_ ?_
    · intro hl ho hz
      refine hb.block _ (h.A1 _ ?_)
      have := h.hp id b hv
      cases b with
      | own c => rcases this.2 with h2 | h2; exact absurd h2 hz; exact h2.2.1
      | grw c =>
        rcases this with this | ⟨ho', _⟩
        · rcases this.2 with h2 | h2; exact absurd h2 hz; exact h2.2.1
        · rw [ho] at ho'; cases ho'
      | dead => exact hl.elim
    · intro hl ho hz
      have := h.hp id b hv
      cases b with
      | own c => rcases this.2 with h2 | h2; exact absurd h2 hz; exact h2.2.1
      | grw c =>
        rcases this with this | ⟨ho', _⟩
        · rcases this.2 with h2 | h2; exact absurd h2 hz; exact h2.2.1
        · rw [ho] at ho'; cases ho'
      | dead => exact hl.elim
  sep := h.sep
  A1 := fun b hb' => Nat.lt_of_lt_of_le (h.A1 b hb') hb.size
  O := h.O
  fm := ⟨hb.os.trans h.fm.os, hb.tape.trans h.fm.tape, hb.output.trans h.fm.output, Nat.le_trans h.fm.size hb.size,
    fun b hlt hm => (hb.block b (Nat.lt_of_lt_of_le hlt h.fm.size)).trans (h.fm.block b hlt hm)⟩
  E := h.E

/-- A live block of the call's own lies in A. -/
theorem StRel.liveA {cx : Cx} {F : Nat → Option AV} {H : Nat → Option Bk} {a : Act} {w : World} {ρ : Nat → Loc} {A : Nat → Prop} (h : StRel cx F H a w ρ A) {id : Nat} {b : Bk} (hb : H id = some b)
    (hl : b.live) (ho : (ρ id).own = true) (hz : (ρ id).size ≠ 0) : A (ρ id).blk := by
  have := h.hp id b hb
  cases b with
  | own c => rcases this.2 with h2 | h2; exact absurd h2 hz; exact h2.2.1
  | grw c =>
    rcases this with this | ⟨ho', _⟩
    · rcases this.2 with h2 | h2; exact absurd h2 hz; exact h2.2.1
    · rw [ho] at ho'; cases ho'
  | dead => exact hl.elim

def upd {α : Type} (f : Nat → Option α) (d : Nat) (v : α) : Nat → Option α := fun t => if t = d then some v else f t
def upd' (f : Nat → Loc) (d : Nat) (v : Loc) : Nat → Loc := fun t => if t = d then v else f t
def updO {α : Type} (f : Nat → Option α) (d : Option Nat) (v : α) : Nat → Option α := match d with | some d => upd f d v | none => f

theorem Act.getD_put_same {a : Act} {d : Nat} {v : Value} (h : d < a.tmps.size) : (a.put (some d) v).tmps.getD d undef = v := by
  simp [Act.put, Array.getD, h]
theorem Act.getD_put_ne {a : Act} {d t : Nat} {v : Value} (h : t ≠ d) : (a.put (some d) v).tmps.getD t undef = a.tmps.getD t undef := by
  simp only [Act.put, Array.getD_eq_getD_getElem?]
  rw [Array.getElem?_setIfInBounds_ne (by omega)]

/-- A slot is given a value. -/
theorem StRel.put {cx : Cx} {F : Nat → Option AV} {H : Nat → Option Bk} {a : Act} {w : World} {ρ : Nat → Loc} {A : Nat → Prop} (h : StRel cx F H a w ρ A) {d : Option Nat} {v : AV} {u : Value}
    (hd : ∀ t, d = some t → t < cx.nt) (hv : v.Rel ρ A w u) : StRel cx (updO F d v) H (a.put d u) w ρ A := by
  cases d with
  | none => exact h
  | some d =>
    have hd' : d < a.tmps.size := by rw [h.sz]; exact hd d rfl
    refine ⟨h.df, by simp [Act.put, h.sz], ?_, h.hp, h.sep, h.A1, h.O, h.fm, h.E⟩
    intro t x hx
    simp only [updO, upd] at hx
    split at hx
    · rename_i he
      subst he
      cases hx
      rw [Act.getD_put_same hd']
      exact hv
    · rename_i hne
      rw [Act.getD_put_ne hne]
      exact h.fr t x hx

/-- Less is known. -/
theorem StRel.sub {cx : Cx} {F F' : Nat → Option AV} {H H' : Nat → Option Bk} {a : Act} {w : World} {ρ : Nat → Loc} {A : Nat → Prop} (h : StRel cx F H a w ρ A)
    (hF : ∀ t v, F' t = some v → F t = some v) (hH : ∀ i b, H' i = some b → H i = some b) : StRel cx F' H' a w ρ A :=
  ⟨h.df, h.sz, fun t v hv => h.fr t v (hF t v hv), fun i b hb => h.hp i b (hH i b hb), fun i j bi bj hi hj => h.sep i j bi bj (hH _ _ hi) (hH _ _ hj), h.A1, h.O, h.fm, h.E⟩

end Go.Fx
