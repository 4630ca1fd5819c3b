/-
  FxD: contracts: entry, return, and a call met by a contract.
-/
import Derived.Test.YtkpelchcpiafaaaFxC
import Derived.Laws.Sem
import Derived.Laws.Cells
namespace Go.Fx
open Go.RowKit (Below)

def RelL (ρ : Nat → Loc) (A : Nat → Prop) (w : World) : List AV → List Value → Prop
  | [], [] => True
  | x :: xs, v :: vs => x.Rel ρ A w v ∧ RelL ρ A w xs vs
  | _, _ => False

def ρz : Nat → Loc := fun _ => ⟨0, 0, 0, false⟩

/-- A CONTRACT BETWEEN VALUES: whatever the call is told that reads so, it answers this, and only makes new blocks. 'O': blocks that no slice among the arguments lies in (nor then one of the answer). -/
def VC (P : Program) (f : Nat) (args : List AV) (res : AV) : Prop :=
  ∀ (O : Nat → Prop) (w : World) (vs : List Value), (∀ b, O b → b < w.heap.size) → RelL ρz O w args vs →
    Calls P f vs.toArray w fun e w' => ∃ r, e = .returned r ∧ res.Rel ρz O w' r ∧ Below w.heap.size w w'

/-- A new block of integers, as a call leaves it. -/
def FreshB (n : Nat) (w : World) (l : Loc) (k : IntKind) (xs : List Nat) : Prop :=
  xs.length ≤ l.size ∧ (l.size = 0 ∨ (l.own = true ∧ n ≤ l.blk ∧ l.blk < w.heap.size ∧ ∃ cs T fz, w.heap[l.blk]? = some (.cells cs T fz) ∧ l.off + l.size ≤ cs.size ∧ Unfrozen fz cs.size ∧
      ∀ j, j < xs.length → cs[l.off + j]? = some (.int k (xs.getD j 0)) ∧ fits k (xs.getD j 0)))

/-- ... that hands back a slice of its own (the block is block 0 of the answer 'res'). -/
def VF (P : Program) (f : Nat) (args : List AV) (res : AV) (k : IntKind) (xs : List Nat) : Prop :=
  ∀ (O : Nat → Prop) (w : World) (vs : List Value), (∀ b, O b → b < w.heap.size) → RelL ρz O w args vs →
    Calls P f vs.toArray w fun e w' => ∃ r l, e = .returned r ∧ res.Rel (fun _ => l) O w' r ∧ Below w.heap.size w w' ∧ FreshB w.heap.size w' l k xs

/-- ... that writes into blocks of its caller's ('E'; 'E'' what they then hold). -/
def UC (P : Program) (f : Nat) (args : List AV) (E : List (Nat × Cs)) (res : AV) (E' : List (Nat × Cs)) : Prop :=
  ∀ (ρ : Nat → Loc) (O : Nat → Prop) (w : World) (vs : List Value),
    (∀ b, O b → b < w.heap.size) →
    (∀ x ∈ E, (ρ x.1).own = true ∧ (ρ x.1).size ≠ 0 ∧ ¬ O (ρ x.1).blk ∧ x.2.len ≤ (ρ x.1).size ∧ ∃ cs T fz, w.heap[(ρ x.1).blk]? = some (.cells cs T fz) ∧ (ρ x.1).off + (ρ x.1).size ≤ cs.size ∧ Unfrozen fz cs.size ∧
        ∀ j, j < x.2.len → ∃ u, cs[(ρ x.1).off + j]? = some u ∧ (x.2.at j).Rel ρ (fun b => O b ∨ ∃ y ∈ E, (ρ y.1).blk = b) w u) →
    (∀ x ∈ E, ∀ y ∈ E, x.1 ≠ y.1 → (ρ x.1).blk ≠ (ρ y.1).blk) →
    RelL ρ (fun b => O b ∨ ∃ x ∈ E, (ρ x.1).blk = b) w args vs →
    Calls P f vs.toArray w fun e w' => ∃ r, e = .returned r ∧ res.Rel ρ (fun b => O b ∨ ∃ x ∈ E, (ρ x.1).blk = b) w' r ∧
      FrameOK (fun b => ∃ x ∈ E, (ρ x.1).blk = b) w w' ∧
      (∀ x ∈ E', ∃ cs T fz, w'.heap[(ρ x.1).blk]? = some (.cells cs T fz) ∧ (ρ x.1).off + (ρ x.1).size ≤ cs.size ∧ Unfrozen fz cs.size ∧ x.2.len ≤ (ρ x.1).size ∧
        ∀ j, j < x.2.len → ∃ u, cs[(ρ x.1).off + j]? = some u ∧ (x.2.at j).Rel ρ (fun b => O b ∨ ∃ y ∈ E, (ρ y.1).blk = b) w' u)

def argsFr : Nat → List AV → List (Nat × AV)
  | _, [] => []
  | k, a :: as => (k, a) :: argsFr (k + 1) as

theorem argsFr_lt : ∀ (as : List AV) (k t : Nat) (v : AV), lk t (argsFr k as) = some v → k ≤ t ∧ as[t - k]? = some v
  | [], k, t, v, h => by simp [argsFr, lk] at h
  | a :: as, k, t, v, h => by
    simp only [argsFr, lk] at h
    split at h
    · rename_i he; subst he; cases h; simp
    · rename_i he
      obtain ⟨h1, h2⟩ := argsFr_lt as (k + 1) t v h
      refine ⟨by omega, ?_⟩
      rw [show t - k = (t - (k + 1)) + 1 by omega]
      simpa using h2

theorem RelL.len {ρ : Nat → Loc} {A : Nat → Prop} {w : World} : ∀ {as : List AV} {vs : List Value}, RelL ρ A w as vs → as.length = vs.length
  | [], [], _ => rfl
  | _ :: _, _ :: _, h => by simp [RelL.len h.2]
  | [], _ :: _, h => h.elim
  | _ :: _, [], h => h.elim
theorem RelL.at {ρ : Nat → Loc} {A : Nat → Prop} {w : World} : ∀ {as : List AV} {vs : List Value}, RelL ρ A w as vs → ∀ (i : Nat) (a : AV), as[i]? = some a → ∃ v, vs[i]? = some v ∧ a.Rel ρ A w v
  | [], [], _, i, a, h => by simp at h
  | _ :: _, _ :: _, h, 0, a, ha => by simp at ha; subst ha; exact ⟨_, rfl, h.1⟩
  | _ :: _, _ :: _, h, i + 1, a, ha => by simpa using RelL.at h.2 i a (by simpa using ha)
  | [], _ :: _, h, _, _, _ => h.elim
  | _ :: _, [], h, _, _, _ => h.elim

theorem tmps_at {vs : List Value} {n t : Nat} {v : Value} (h : vs[t]? = some v) : (vs.toArray ++ Array.replicate n undef).getD t undef = v := by
  have hlt : t < vs.length := by
    rcases Nat.lt_or_ge t vs.length with h' | h'
    · exact h'
    · simp [List.getElem?_eq_none h'] at h
  rw [Array.getD_eq_getD_getElem?, Array.getElem?_append_left (by simpa using hlt)]
  simp [h]

/-- WHAT A BODY MUST DO to meet a contract between values: here 'cx' knows nothing but O. -/
def cxV (P : Program) (nt : Nat) (w : World) (O : Nat → Prop) : Cx := { P, nt, w0 := w, O, M := fun _ => False, E := [], ρ0 := ρz }

theorem VC.enter {P : Program} {f : Nat} {fn : Func} {c : Code} {args : List AV} {res : AV} (hf : P.funcs[f]? = some fn) (hb : fn.body = some c) (hn : args.length ≤ fn.ntmps)
    (h : ∀ (O : Nat → Prop) (w : World), Holds (cxV P fn.ntmps w O) ⟨argsFr 0 args, []⟩ (c.wp P (bodyPost P fn fun e w' => ∃ r, e = .returned r ∧ res.Rel ρz O w' r ∧ Below w.heap.size w w'))) : VC P f args res := by
  intro O w vs hO hr
  refine calls_of_wp hf hb ?_
  refine h O w ρz O _ w ⟨rfl, ?_, ?_, ?_, ?_, hO, fun _ h => h, ⟨rfl, rfl, rfl, Nat.le_refl _, fun _ _ _ => rfl⟩, fun _ h => by cases h⟩
  · have := hr.len
    simp [cxV]; omega
  · intro t v hv
    obtain ⟨_, h2⟩ := argsFr_lt args 0 t v hv
    obtain ⟨u, hu, hur⟩ := hr.at _ _ h2
    rw [Nat.sub_zero] at hu
    rw [tmps_at hu]; exact hur
  · intro i b hb; simp [Ls.H, lk] at hb
  · intro i j bi bj hbi; simp [Ls.H, lk] at hbi

theorem VF.enter {P : Program} {f : Nat} {fn : Func} {c : Code} {args : List AV} {res : AV} {k : IntKind} {xs : List Nat} (hf : P.funcs[f]? = some fn) (hb : fn.body = some c) (hn : args.length ≤ fn.ntmps)
    (h : ∀ (O : Nat → Prop) (w : World), Holds (cxV P fn.ntmps w O) ⟨argsFr 0 args, []⟩ (c.wp P (bodyPost P fn fun e w' => ∃ r l, e = .returned r ∧ res.Rel (fun _ => l) O w' r ∧ Below w.heap.size w w' ∧ FreshB w.heap.size w' l k xs))) : VF P f args res k xs := by
  intro O w vs hO hr
  refine calls_of_wp hf hb ?_
  refine h O w ρz O _ w ⟨rfl, ?_, ?_, ?_, ?_, hO, fun _ h => h, ⟨rfl, rfl, rfl, Nat.le_refl _, fun _ _ _ => rfl⟩, fun _ h => by cases h⟩
  · have := hr.len
    simp [cxV]; omega
  · intro t v hv
    obtain ⟨_, h2⟩ := argsFr_lt args 0 t v hv
    obtain ⟨u, hu, hur⟩ := hr.at _ _ h2
    rw [Nat.sub_zero] at hu
    rw [tmps_at hu]; exact hur
  · intro i b hb; simp [Ls.H, lk] at hb
  · intro i j bi bj hbi; simp [Ls.H, lk] at hbi

def cxU (P : Program) (nt : Nat) (w : World) (O : Nat → Prop) (ρ : Nat → Loc) (E : List (Nat × Cs)) : Cx :=
  { P, nt, w0 := w, O, M := fun b => ∃ x ∈ E, (ρ x.1).blk = b, E := E.map (·.1), ρ0 := ρ }

theorem lk_map_mem {E : List (Nat × Cs)} {i : Nat} {b : Bk} : lk i (E.map fun x => (x.1, Bk.own x.2)) = some b → ∃ c, (i, c) ∈ E ∧ b = .own c := by
  intro h
  have := lk_mem h
  simp only [List.mem_map, Prod.mk.injEq] at this
  obtain ⟨x, hx, rfl, rfl⟩ := this
  exact ⟨_, hx, rfl⟩

theorem UC.enter {P : Program} {f : Nat} {fn : Func} {c : Code} {args : List AV} {res : AV} {E E' : List (Nat × Cs)} (hf : P.funcs[f]? = some fn) (hb : fn.body = some c) (hn : args.length ≤ fn.ntmps)
    (h : ∀ (ρ : Nat → Loc) (O : Nat → Prop) (w : World), Holds (cxU P fn.ntmps w O ρ E) ⟨argsFr 0 args, E.map fun x => (x.1, Bk.own x.2)⟩ (c.wp P (bodyPost P fn fun e w' => ∃ r, e = .returned r ∧
      res.Rel ρ (fun b => O b ∨ ∃ x ∈ E, (ρ x.1).blk = b) w' r ∧ FrameOK (fun b => ∃ x ∈ E, (ρ x.1).blk = b) w w' ∧
      (∀ x ∈ E', ∃ cs T fz, w'.heap[(ρ x.1).blk]? = some (.cells cs T fz) ∧ (ρ x.1).off + (ρ x.1).size ≤ cs.size ∧ Unfrozen fz cs.size ∧ x.2.len ≤ (ρ x.1).size ∧
        ∀ j, j < x.2.len → ∃ u, cs[(ρ x.1).off + j]? = some u ∧ (x.2.at j).Rel ρ (fun b => O b ∨ ∃ y ∈ E, (ρ y.1).blk = b) w' u)))) : UC P f args E res E' := by
  intro ρ O w vs hO hE hsep hr
  refine calls_of_wp hf hb ?_
  refine h ρ O w ρ (fun b => O b ∨ ∃ x ∈ E, (ρ x.1).blk = b) _ w ⟨rfl, ?_, ?_, ?_, ?_, ?_, fun _ h => .inl h, ⟨rfl, rfl, rfl, Nat.le_refl _, fun _ _ _ => rfl⟩, fun _ _ => rfl⟩
  · have := hr.len
    simp [cxU]; omega
  · intro t v hv
    obtain ⟨_, h2⟩ := argsFr_lt args 0 t v hv
    obtain ⟨u, hu, hur⟩ := hr.at _ _ h2
    rw [Nat.sub_zero] at hu
    rw [tmps_at hu]; exact hur
  · intro i b hb
    obtain ⟨c, hc, rfl⟩ := lk_map_mem hb
    obtain ⟨h1, h2, h3, h4, cs, T, fz, h5, h6, h7, h8⟩ := hE _ hc
    exact ⟨h4, .inr ⟨h1, .inr ⟨_, hc, rfl⟩, h3, .inr ⟨_, hc, rfl⟩, cs, T, fz, h5, h6, h7, h8⟩⟩
  · intro i j bi bj hbi hbj _ _ hne _ _ _ _
    obtain ⟨ci, hci, rfl⟩ := lk_map_mem hbi
    obtain ⟨cj, hcj, rfl⟩ := lk_map_mem hbj
    exact hsep _ hci _ hcj hne
  · rintro b (hb | ⟨x, hx, rfl⟩)
    · exact hO b hb
    · obtain ⟨h1, h2, h3, h4, cs, T, fz, h5, h6, h7, h8⟩ := hE _ hx
      rcases Nat.lt_or_ge (ρ x.1).blk w.heap.size with h | h
      · exact h
      · simp [Array.getElem?_eq_none h] at h5

/-! ### Types -/
/-- The cells of a constant row. -/
def SV.val : SV → Value
  | .n k x => .int k x
  | .b x => .bool x
  | .nil => .slice none 0 0
  | .str xs => .string (strOf xs)
  | _ => undef
def SV.plain : SV → Bool
  | .n k x => decide (fits k x)
  | .b _ | .nil => true
  | .str xs => xs.isEmpty
  | _ => false
def Cs.vals : Cs → List Value
  | .ints k xs => xs.map fun (x : Nat) => Value.int k x
  | .mix l => l.map SV.val
def Cs.plain : Cs → Bool
  | .ints k xs => xs.all fun x => decide (fits k x)
  | .mix l => l.all SV.plain

theorem SV.val_rel {s : SV} (h : s.plain = true) (ρ : Nat → Loc) (A : Nat → Prop) (w : World) : s.Rel ρ A w s.val := by
  cases s <;> first | rfl | exact ⟨none, rfl⟩ | (simp only [SV.plain, List.isEmpty_iff] at h; subst h; exact ⟨rfl, fun _ h => nomatch h⟩) | (simp only [SV.plain, decide_eq_true_eq] at h; exact ⟨rfl, h⟩) | (simp [SV.plain] at h; done)
theorem Cs.vals_at {c : Cs} (h : c.plain = true) (ρ : Nat → Loc) (A : Nat → Prop) (w : World) : c.vals.length = c.len ∧ ∀ j, j < c.len → ∃ u, c.vals[j]? = some u ∧ (c.at j).Rel ρ A w u := by
  cases c with
  | ints k xs =>
    refine ⟨by simp [Cs.vals, Cs.len], fun j hj => ?_⟩
    simp only [Cs.len] at hj
    refine ⟨.int k (xs[j] : Nat), by simp [Cs.vals, hj], ?_⟩
    have := List.all_eq_true.1 h _ (List.getElem_mem hj)
    simp only [decide_eq_true_eq] at this
    have e : xs.getD j 0 = xs[j] := by simp [List.getD_eq_getElem?_getD, hj]
    show Value.int k (xs[j] : Nat) = .int k (xs.getD j 0 : Nat) ∧ fits k (xs.getD j 0)
    rw [e]
    exact ⟨rfl, this⟩
  | mix l =>
    refine ⟨by simp [Cs.vals, Cs.len], fun j hj => ?_⟩
    simp only [Cs.len] at hj
    refine ⟨(l[j]).val, by simp [Cs.vals, hj], ?_⟩
    have : (Cs.mix l).at j = l[j] := by simp [Cs.at, List.getD_eq_getElem?_getD, hj]
    rw [this]
    exact SV.val_rel (List.all_eq_true.1 h _ (List.getElem_mem hj)) ρ A w

/-- What is known of a type: what it is made of, how many cells, how many bytes, and its zero. -/
structure TyI (P : Program) (t : Nat) (d : TypeDesc) (n by' : Nat) (z : Cs) : Prop where
  u : P.underlying t = some d
  i : (P.info? t).map (fun i => (i.size, i.bytes, i.zero.map fun v => v.cells.toList)) = some (n, by', some z.vals)
def TypeDesc.isAgg : TypeDesc → Bool
  | .struct _ => true
  | .array _ _ => true
  | _ => false

section ty
variable {P : Program} {t : Nat} {d : TypeDesc} {n by' : Nat} {z : Cs} (h : TyI P t d n by' z) (w : World)
include h
theorem TyI.info : ∃ i v, P.info? t = some i ∧ i.size = n ∧ i.bytes = by' ∧ i.zero = some v ∧ v.cells.toList = z.vals := by
  have := h.i
  cases hi : P.info? t with
  | none => rw [hi] at this; cases this
  | some i =>
    rw [hi] at this
    simp only [Option.map_some, Option.some.injEq, Prod.mk.injEq] at this
    obtain ⟨h1, h2, h3⟩ := this
    cases hz : i.zero with
    | none => rw [hz] at h3; cases h3
    | some v => rw [hz] at h3; simp only [Option.map_some, Option.some.injEq] at h3; exact ⟨i, v, rfl, h1, h2, hz, h3⟩
theorem TyI.run_und : (underlying t).run P w = .ok d w := run_underlying h.u w
theorem TyI.run_size : (sizeOf t).run P w = .ok n w := by
  obtain ⟨i, v, hi, hs, _⟩ := h.info
  simp [sizeOf, typeInfo, hi, hs]
theorem TyI.run_isAgg : (isAgg t).run P w = .ok (TypeDesc.isAgg d) w := by
  simp only [isAgg, Sem.run_bind, h.run_und w, Result.andThen_ok]
  cases d <;> rfl
theorem TyI.run_zero : ∃ v, (zeroValue t).run P w = .ok v w ∧ v.cells.toList = z.vals := by
  obtain ⟨i, v, hi, _, _, hz, hv⟩ := h.info
  exact ⟨v, by simp [zeroValue, typeInfo, hi, hz], hv⟩
theorem TyI.run_bytes : ∃ i, (typeInfo t).run P w = .ok i w ∧ i.bytes = by' ∧ i.size = n := by
  obtain ⟨i, v, hi, hs, hb, hz, hv⟩ := h.info
  exact ⟨i, by simp [typeInfo, hi], hb, hs⟩
end ty

/-! ### Loading a row -/
theorem addr_add (b o n : Nat) : (⟨b, o, none⟩ : Addr).add n = ⟨b, o + n, none⟩ := by
  unfold Addr.add; split
  · rename_i h; simp [h]
  · rfl

/-- A row of cells read as 'c' says, loaded whole. -/
theorem run_loadCells_rel {P : Program} {w : World} {ρ : Nat → Loc} {A : Nat → Prop} {c : Cs} {b o : Nat} (h : ∀ j, j < c.len → ∃ u, w.cell? ⟨b, o + j, none⟩ = some u ∧ (c.at j).Rel ρ A w u) :
    ∃ cs : Array Value, (loadCells ⟨b, o, none⟩ c.len).run P w = .ok cs w ∧ cs.size = c.len ∧ ∀ j, j < c.len → ∃ u, cs[j]? = some u ∧ (c.at j).Rel ρ A w u := by
  have hc : ∀ j, j < c.len → w.cell? ((⟨b, o, none⟩ : Addr).add j) = some ((w.cell? ⟨b, o + j, none⟩).getD undef) := by
    intro j hj
    obtain ⟨u, hu, _⟩ := h j hj
    rw [addr_add, hu]; rfl
  refine ⟨_, run_loadCells w ⟨b, o, none⟩ c.len (fun j => (w.cell? ⟨b, o + j, none⟩).getD undef) hc, by simp, fun j hj => ?_⟩
  obtain ⟨u, hu, hr⟩ := h j hj
  exact ⟨u, by simp [hj, hu], hr⟩

/-- The cells of a live block of the call's own. -/
theorem OwnB.cells {cx : Cx} {ρ : Nat → Loc} {A : Nat → Prop} {w : World} {l : Loc} {c : Cs} (h : OwnB cx ρ A w l c) (hc : c.len ≠ 0) :
    l.size ≠ 0 ∧ ∀ j, j < c.len → ∃ u, w.cell? ⟨l.blk, l.off + j, none⟩ = some u ∧ (c.at j).Rel ρ A w u := by
  obtain ⟨h1, h2⟩ := h
  rcases h2 with h2 | ⟨_, _, _, _, cs, T, fz, hh, _, _, hcs⟩
  · omega
  · refine ⟨by omega, fun j hj => ?_⟩
    obtain ⟨u, hu, hr⟩ := hcs j hj
    exact ⟨u, by simp only [World.cell?, hh, Option.isSome_none, Bool.false_eq_true, if_false]; exact hu, hr⟩

/-! ### Views: what a value reads as for one that only reads -/
inductive View (H : Nat → Option Bk) : AV → AV → Prop
  | same (x : AV) : View H x x
  | sg (id off len : Nat) (b : Bk) (k : IntKind) (xs : List Nat) : H id = some b → b.intsOf = some (k, xs) → off + len ≤ xs.length → View H (.one (.sg id off len)) (.one (.bs false k ((xs.drop off).take len)))
  | nilB (ex : Bool) (k : IntKind) : View H (.one .nil) (.one (.bs ex k []))
  | nilBB (ex : Bool) : View H (.one .nil) (.one (.bss ex []))
  | ex (k : IntKind) (xs : List Nat) : View H (.one (.bs true k xs)) (.one (.bs false k xs))
  | exx (xss : List (List Nat)) : View H (.one (.bss true xss)) (.one (.bss false xss))
  | sgs (id off len : Nat) (b : Bk) (l : List SV) (xss : List (List Nat)) : H id = some b → (b = .own (.mix l) ∨ b = .grw (.mix l)) → off + len ≤ l.length → xss.length = len →
      (∀ i, i < len → View H (.one (l.getD (off + i) .u)) (.one (.bs false .u8 (xss.getD i [])))) → View H (.one (.sg id off len)) (.one (.bss false xss))
  | two (a b a' b' : AV) : View H a a' → View H b b' → View H (.two a b) (.two a' b')

theorem View.rel {cx : Cx} {F : Nat → Option AV} {H : Nat → Option Bk} {a : Act} {w : World} {ρ : Nat → Loc} {A A' : Nat → Prop} (hs : StRel cx F H a w ρ A) (hA : ∀ b, A' b → A b)
    (hown : ∀ id b, H id = some b → b.live → (ρ id).own = true → (ρ id).size ≠ 0 → ¬ A' (ρ id).blk) {x y : AV} (h : View H x y) : ∀ {v : Value}, x.Rel ρ A w v → y.Rel ρ A' w v := by
  have blk : ∀ id b, H id = some b → b.live → (ρ id).size ≠ 0 → ¬ A' (ρ id).blk := by
    intro id b hb hl hz
    cases ho : (ρ id).own with
    | true => exact hown id b hb hl ho hz
    | false =>
      have hrel := hs.hp id b hb
      have own : ∀ c, OwnB cx ρ A w (ρ id) c → False := fun c hc => by
        rcases hc.2 with h2 | h2
        · exact hz h2
        · rw [ho] at h2; cases h2.1
      cases b with
      | own c => exact (own c hrel).elim
      | grw c =>
        rcases hrel with hrel | ⟨_, _, h2⟩
        · exact (own c hrel).elim
        · rcases h2 with h2 | h2
          · exact absurd h2 hz
          · exact fun h' => h2.1 (hA _ h')
      | dead => exact hl.elim
  induction h with
  | same x => intro v hv; exact hv.mono (fun _ _ => rfl) (fun _ _ _ => rfl) (Nat.le_refl _) (fun b _ h => hA b h)
  | sg id off len b k xs hb hi hl =>
    intro v hv
    exact hs.view hb hi hl hv A' (fun hz => blk id b hb (Bk.live_intsOf hi) hz)
  | nilB ex k =>
    rintro v ⟨ad, rfl⟩
    exact ⟨ad, 0, rfl, Nat.le_refl _, fun _ => rfl, .inl rfl⟩
  | nilBB ex =>
    rintro v ⟨ad, rfl⟩
    exact ⟨ad, 0, rfl, Nat.le_refl _, fun _ => rfl, .inl rfl⟩
  | ex k xs =>
    intro v hv
    obtain ⟨ad, cap, h1, h2, _, h4⟩ := ImmB.mono hv (fun _ _ _ => rfl) (Nat.le_refl _) (fun b _ h => hA b h)
    exact ⟨ad, cap, h1, h2, (fun h => nomatch h), h4⟩
  | exx xss =>
    intro v hv
    have hv' : (AV.one (.bss true xss)).Rel ρ A' w v := AV.Rel.mono hv (fun _ _ => rfl) (fun _ _ _ => rfl) (Nat.le_refl _) (fun b _ h => hA b h)
    obtain ⟨ad, cap, h1, h2, _, h4⟩ := hv'
    exact ⟨ad, cap, h1, h2, (fun h => nomatch h), h4⟩
  | sgs id off len b l xss hb hm hl hlen hel ih =>
    rintro v ⟨ad, cap, hv, hcap, h0⟩
    refine ⟨ad, cap, by rw [hlen]; exact hv, by omega, (fun h => nomatch h), ?_⟩
    rcases h0 with h0 | ⟨had, hsz⟩
    · exact .inl h0
    by_cases hc0 : cap = 0
    · exact .inl hc0
    have hz : (ρ id).size ≠ 0 := by omega
    have hlive : b.live := by rcases hm with rfl | rfl <;> trivial
    have hcells : (ρ id).blk < w.heap.size ∧ ∀ j, j < l.length → ∃ u, w.cell? ⟨(ρ id).blk, (ρ id).off + j, none⟩ = some u ∧ ((Cs.mix l).at j).Rel ρ A w u := by
      have own : OwnB cx ρ A w (ρ id) (.mix l) → (ρ id).blk < w.heap.size ∧ ∀ j, j < l.length → ∃ u, w.cell? ⟨(ρ id).blk, (ρ id).off + j, none⟩ = some u ∧ ((Cs.mix l).at j).Rel ρ A w u := by
        rintro ⟨_, h2⟩
        rcases h2 with h2 | ⟨_, ha, _, _, cs, T, fz, hh, _, _, hcs⟩
        · exact absurd h2 hz
        · refine ⟨hs.A1 _ ha, fun j hj => ?_⟩
          obtain ⟨u, hu, hr⟩ := hcs j hj
          exact ⟨u, by simp only [World.cell?, hh, Option.isSome_none, Bool.false_eq_true, if_false]; exact hu, hr⟩
      have hrel := hs.hp id b hb
      rcases hm with rfl | rfl
      · exact own hrel
      · rcases hrel with hrel | ⟨_, _, h2⟩
        · exact own hrel
        · rcases h2 with h2 | ⟨_, hlt, hcs⟩
          · exact absurd h2 hz
          · exact ⟨hlt, hcs⟩
    refine .inr ⟨(ρ id).blk, (ρ id).off + off, had, blk id b hb hlive hz, hcells.1, fun i hi => ?_⟩
    rw [hlen] at hi
    obtain ⟨u, hu, hr⟩ := hcells.2 (off + i) (by omega)
    refine ⟨u, by rw [Nat.add_assoc]; exact hu, ?_⟩
    exact ih i hi (v := u) hr
  | two a b a' b' _ _ iha ihb =>
    rintro v ⟨x, y, hv, hx, hy⟩
    exact ⟨x, y, hv, iha hx, ihb hy⟩

/-- Neither slices nor pointers. -/
def SV.pure : SV → Bool
  | .b _ | .n _ _ | .z _ | .str _ | .u | .nil => true
  | _ => false
def Cs.pure : Cs → Bool
  | .ints _ _ => true
  | .mix l => l.all SV.pure
def AV.pure : AV → Bool
  | .one s => s.pure
  | .row c => c.pure
  | .two a b => a.pure && b.pure
theorem SV.pure_rel {s : SV} (h : s.pure = true) {ρ ρ' : Nat → Loc} {A A' : Nat → Prop} {w w' : World} {v : Value} (hv : s.Rel ρ A w v) : s.Rel ρ' A' w' v := by
  cases s <;> first | exact hv | (simp [SV.pure] at h; done)
theorem AV.pure_rel {x : AV} : x.pure = true → ∀ {ρ ρ' : Nat → Loc} {A A' : Nat → Prop} {w w' : World} {v : Value}, x.Rel ρ A w v → x.Rel ρ' A' w' v := by
  induction x with
  | one s => intro h _ _ _ _ _ _ _ hv; exact SV.pure_rel h hv
  | row c =>
    rintro h _ _ _ _ _ _ v ⟨cs, hv, hl, hc⟩
    refine ⟨cs, hv, hl, fun j hj => ?_⟩
    obtain ⟨u, hu, hr⟩ := hc j hj
    refine ⟨u, hu, SV.pure_rel ?_ hr⟩
    cases c with
    | ints k xs => rfl
    | mix l =>
      simp only [Cs.len] at hj
      simp only [Cs.at, List.getD_eq_getElem?_getD, hj, List.getElem?_eq_getElem, Option.getD_some]
      exact List.all_eq_true.1 h _ (List.getElem_mem hj)
  | two a b iha ihb =>
    rintro h _ _ _ _ _ _ v ⟨x, y, hv, hx, hy⟩
    simp only [AV.pure, Bool.and_eq_true] at h
    exact ⟨x, y, hv, iha h.1 hx, ihb h.2 hy⟩

/-! ### Return -/
def ResRun (P : Program) (a : Act) (w : World) : ResultVar → Value → Prop
  | .tmp t, v => a.tmps.getD t undef = v
  | .cell t T, v => ∃ ad, asAddr (a.tmps.getD t undef) = Sem.pure ad ∧ (loadVar T ad).run P w = .ok v w

theorem results_one {P : Program} {fn : Func} {a : Act} {w : World} {r : ResultVar} {v : Value} (hr : fn.results = #[r]) (h : ResRun P a w r v) : (results fn a.tmps).run P w = .ok v w := by
  unfold results
  rw [hr]
  cases r with
  | tmp t => simp only [ResRun] at h; subst h; simp
  | cell t T =>
    obtain ⟨ad, h1, h2⟩ := h
    rw [Array.getD_eq_getD_getElem?] at h1
    simp [h1, h2]
theorem results_two {P : Program} {fn : Func} {a : Act} {w : World} {r s : ResultVar} {v u : Value} (hr : fn.results = #[r, s]) (h : ResRun P a w r v) (h' : ResRun P a w s u) :
    (results fn a.tmps).run P w = .ok (.tuple #[v, u]) w := by
  unfold results
  rw [hr]
  cases r with
  | tmp t =>
    simp only [ResRun] at h; subst h
    cases s with
    | tmp t' => simp only [ResRun] at h'; subst h'; simp
    | cell t' T =>
      obtain ⟨ad, h1, h2⟩ := h'
      rw [Array.getD_eq_getD_getElem?] at h1
      simp [h1, h2]
  | cell t T =>
    obtain ⟨ad, h1, h2⟩ := h
    rw [Array.getD_eq_getD_getElem?] at h1
    cases s with
    | tmp t' => simp only [ResRun] at h'; subst h'; simp [h1, h2]
    | cell t' T =>
      obtain ⟨ad', h1', h2'⟩ := h'
      rw [Array.getD_eq_getD_getElem?] at h1'
      simp [h1, h2, h1', h2']
theorem results_none {P : Program} {fn : Func} {a : Act} {w : World} (hr : fn.results = #[]) : (results fn a.tmps).run P w = .ok (.tuple #[]) w := by
  unfold results
  rw [hr]
  simp

/-- A result variable reads so. -/
inductive ResIs (P : Program) (S : Ls) : ResultVar → AV → Prop
  | tmp (t : Nat) (x : AV) : lk t S.fr = some x → ResIs P S (.tmp t) x
  | row (t T id : Nat) (c : Cs) (d : TypeDesc) (by' : Nat) (z : Cs) : lk t S.fr = some (.one (.p id 0)) → lk id S.hp = some (.own c) → TyI P T d c.len by' z → TypeDesc.isAgg d = true → c.len ≠ 0 → ResIs P S (.cell t T) (.row c)
  | cell (t T id : Nat) (c : Cs) (d : TypeDesc) (n by' : Nat) (z : Cs) : lk t S.fr = some (.one (.p id 0)) → lk id S.hp = some (.own c) → TyI P T d n by' z → TypeDesc.isAgg d = false → c.len ≠ 0 → ResIs P S (.cell t T) (.one (c.at 0))

theorem ResIs.run {cx : Cx} {S : Ls} {a : Act} {w : World} {ρ : Nat → Loc} {A : Nat → Prop} (hs : StRel cx S.F S.H a w ρ A) {r : ResultVar} {x : AV} (h : ResIs cx.P S r x) : ∃ v, ResRun cx.P a w r v ∧ x.Rel ρ A w v := by
  cases h with
  | tmp t x ht => exact ⟨_, rfl, hs.fr t x ht⟩
  | row t T id c d by' z ht hid hT hd hc =>
    have hp := hs.fr t _ ht
    simp only [AV.Rel, SV.Rel, Nat.add_zero] at hp
    obtain ⟨_, hcells⟩ := OwnB.cells (hs.hp id _ hid) hc
    obtain ⟨cs, h1, h2, h3⟩ := run_loadCells_rel (P := cx.P) hcells
    refine ⟨.agg cs, ⟨_, by rw [hp]; rfl, ?_⟩, cs, rfl, h2, h3⟩
    unfold loadVar
    simp only [Sem.run_bind, hT.run_isAgg w, hd, Result.andThen_ok, if_true, hT.run_size w, h1, Sem.run_pure]
  | cell t T id c d n by' z ht hid hT hd hc =>
    have hp := hs.fr t _ ht
    simp only [AV.Rel, SV.Rel, Nat.add_zero] at hp
    obtain ⟨_, hcells⟩ := OwnB.cells (hs.hp id _ hid) hc
    obtain ⟨u, hu, hr⟩ := hcells 0 (by omega)
    refine ⟨u, ⟨_, by rw [hp]; rfl, ?_⟩, hr⟩
    unfold loadVar
    rw [Nat.add_zero] at hu
    simp only [Sem.run_bind, hT.run_isAgg w, hd, Result.andThen_ok, Bool.false_eq_true, if_false, run_load, hu]

theorem FrameOK.below {w0 w : World} (h : FrameOK (fun _ => False) w0 w) : Below w0.heap.size w0 w := ⟨h.os, h.tape, h.output, h.size, fun b hb => h.block b hb (fun h => h)⟩

theorem bodyPost_of {P : Program} {fn : Func} {R : Ending → World → Prop} {a : Act} {w : World} {e : Exit} {v : Value} (he : e = .ret ∨ e = .normal) (hd : a.defers = []) (hr : (results fn a.tmps).run P w = .ok v w) (h : R (.returned v) w) : bodyPost P fn R e a w := by
  rcases he with rfl | rfl <;> exact ⟨hd, v, hr, h⟩

section ret
variable {P : Program} {fn : Func} {nt : Nat} {w0 : World} {O : Nat → Prop} {S : Ls} {e : Exit}
theorem retV {x res : AV} (he : e = .ret ∨ e = .normal) (hres : ∀ a w ρ A, StRel (cxV P nt w0 O) S.F S.H a w ρ A → ∃ v, (results fn a.tmps).run P w = .ok v w ∧ x.Rel ρ A w v) (hv : View S.H x res) (hid : res.ids = []) :
    Holds (cxV P nt w0 O) S (bodyPost P fn (fun e w' => ∃ r, e = .returned r ∧ res.Rel ρz O w' r ∧ Below w0.heap.size w0 w') e) := by
  intro ρ A a w hs
  obtain ⟨v, h1, h2⟩ := hres a w ρ A hs
  refine bodyPost_of he hs.df h1 ⟨v, rfl, ?_, hs.fm.below⟩
  have hown : ∀ id b, S.H id = some b → b.live → (ρ id).own = true → (ρ id).size ≠ 0 → ¬ O (ρ id).blk := by
    intro id b hb hl ho hz
    have hrel := hs.hp id b hb
    have own : ∀ c, OwnB (cxV P nt w0 O) ρ A w (ρ id) c → ¬ O (ρ id).blk := fun c hc => by
      rcases hc.2 with h2 | h2
      · exact absurd h2 hz
      · exact h2.2.2.1
    cases b with
    | own c => exact own c hrel
    | grw c =>
      rcases hrel with hrel | ⟨ho', _⟩
      · exact own c hrel
      · rw [ho] at ho'; cases ho'
    | dead => exact hl.elim
  exact (View.rel hs hs.O hown hv h2).mono (fun id hid' => by rw [hid] at hid'; cases hid') (fun _ _ _ => rfl) (Nat.le_refl _) (fun _ _ h => h)

theorem Holds.ret1 {r : ResultVar} {x res : AV} (he : e = .ret ∨ e = .normal) (hf : fn.results = #[r]) (hr : ResIs P S r x) (hv : View S.H x res) (hid : res.ids = []) :
    Holds (cxV P nt w0 O) S (bodyPost P fn (fun e w' => ∃ r, e = .returned r ∧ res.Rel ρz O w' r ∧ Below w0.heap.size w0 w') e) :=
  retV he (fun a w ρ A hs => by
    obtain ⟨v, h1, h2⟩ := ResIs.run hs hr
    exact ⟨v, results_one hf h1, h2⟩) hv hid
theorem Holds.ret2 {r s : ResultVar} {x y res : AV} (he : e = .ret ∨ e = .normal) (hf : fn.results = #[r, s]) (hr : ResIs P S r x) (hr' : ResIs P S s y) (hv : View S.H (.two x y) res) (hid : res.ids = []) :
    Holds (cxV P nt w0 O) S (bodyPost P fn (fun e w' => ∃ r, e = .returned r ∧ res.Rel ρz O w' r ∧ Below w0.heap.size w0 w') e) :=
  retV he (fun a w ρ A hs => by
    obtain ⟨v, h1, h2⟩ := ResIs.run hs hr
    obtain ⟨v', h1', h2'⟩ := ResIs.run hs hr'
    exact ⟨_, results_two hf h1 h1', _, _, rfl, h2, h2'⟩) hv hid
end ret

end Go.Fx
