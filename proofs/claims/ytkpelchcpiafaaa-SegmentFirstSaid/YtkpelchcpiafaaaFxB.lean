/-
  FxB: what one operation does to an abstract state ('Doing'); regions in text order, and regions that draw their order.
-/
import Derived.Test.YtkpelchcpiafaaaFxA
namespace Go.Fx
open Go.RowKit (Below)

/-- What an operation leaves: its value, blocks that are new or turned (the first entry of a key counts), and the keys that must be fresh. -/
structure Ent where
  av : AV
  up : List (Nat × Bk)
  fresh : List Nat

def ovr (up : List (Nat × Bk)) (H : Nat → Option Bk) : Nat → Option Bk := fun i => match lk i up with | some b => some b | none => H i

structure Nom (cx : Cx) (d : Nat) (F : Nat → Option AV) (H : Nat → Option Bk) : Prop where
  e : d ∉ cx.E
  h : H d = none
  f : ∀ t v, F t = some v → d ∉ v.ids
  g : ∀ i b, H i = some b → d ∉ b.ids

def StepOp (P : Program) (ops : Array Oper) (o : Oper) (a : Act) (w : World) (K : Act → World → Prop) (Q : Exit → Act → World → Prop) : Prop :=
  if Region.wanted o (yielded ops a.tmps) = true then o.wp P a w K Q else K (a.put o.dst undef) w

def Doing (cx : Cx) (ops : Array Oper) (o : Oper) (F : Nat → Option AV) (H : Nat → Option Bk) (e : Ent) : Prop :=
  ∀ F' H', (∀ t v, F t = some v → F' t = some v) → (∀ i b, H i = some b → H' i = some b) → (∀ d ∈ e.fresh, Nom cx d F' H') →
    ∀ ρ A a w, StRel cx F' H' a w ρ A → ∀ (K : Act → World → Prop) (Q : Exit → Act → World → Prop),
      (∀ v w' ρ' A', StRel cx (updO F' o.dst e.av) (ovr e.up H') (a.put o.dst v) w' ρ' A' → K (a.put o.dst v) w') → StepOp cx.P ops o a w K Q

def Ls.eff (S : Ls) (d : Option Nat) (e : Ent) : Ls :=
  ⟨match d with | some d => (d, e.av) :: S.fr | none => S.fr, e.up ++ S.hp⟩
def Ls.del (S : Ls) (ds : List Nat) : Ls :=
  ⟨S.fr.filter fun x => !ds.contains x.1, S.hp.filter fun x => !ds.contains x.1⟩

theorem Ls.F_eff (S : Ls) (d : Option Nat) (e : Ent) : (S.eff d e).F = updO S.F d e.av := by
  cases d with
  | none => rfl
  | some d => funext t; simp only [Ls.F, Ls.eff, updO, upd, lk]
theorem lk_append {α : Type} (t : Nat) (l r : List (Nat × α)) : lk t (l ++ r) = match lk t l with | some b => some b | none => lk t r := by
  induction l with
  | nil => rfl
  | cons x l ih =>
    obtain ⟨s, v⟩ := x
    simp only [List.cons_append, lk]
    split
    · rfl
    · exact ih
theorem Ls.H_eff (S : Ls) (d : Option Nat) (e : Ent) : (S.eff d e).H = ovr e.up S.H := by
  funext i; simp only [Ls.H, Ls.eff, ovr, lk_append]; cases lk i e.up <;> rfl
theorem lk_filter {α : Type} {t : Nat} {ds : List Nat} {v : α} : ∀ {l : List (Nat × α)}, lk t (l.filter fun x => !ds.contains x.1) = some v → lk t l = some v ∧ t ∉ ds
  | [], h => by simp [lk] at h
  | (s, x) :: l, h => by
    by_cases hs : ds.contains s = true
    · rw [List.filter_cons_of_neg (by simpa using hs)] at h
      obtain ⟨h1, h2⟩ := lk_filter h
      have : t ≠ s := fun he => h2 (by subst he; simpa using hs)
      exact ⟨by simp only [lk]; rw [if_neg this]; exact h1, h2⟩
    · rw [List.filter_cons_of_pos (by simpa using hs)] at h
      simp only [lk] at h ⊢
      split at h
      · rename_i he
        refine ⟨by simpa [he] using h, by subst he; simpa using hs⟩
      · rename_i he
        obtain ⟨h1, h2⟩ := lk_filter h
        exact ⟨by rw [if_neg he]; exact h1, h2⟩
theorem lk_mem {α : Type} {t : Nat} {v : α} : ∀ {l : List (Nat × α)}, lk t l = some v → (t, v) ∈ l
  | [], h => by simp [lk] at h
  | (s, x) :: l, h => by
    simp only [lk] at h
    split at h
    · rename_i he; cases h; subst he; exact List.mem_cons_self
    · exact List.mem_cons_of_mem _ (lk_mem h)

/-- Is d mentioned nowhere (in any entry)? -/
def Ls.nomB (S : Ls) (E : List Nat) (d : Nat) : Bool :=
  !E.contains d && S.fr.all (fun x => !x.2.ids.contains d) && S.hp.all (fun x => x.1 != d && !x.2.ids.contains d)

theorem Ls.nomB_spec {S : Ls} {cx : Cx} {d : Nat} (h : S.nomB cx.E d = true) : Nom cx d S.F S.H := by
  simp only [Ls.nomB, Bool.and_eq_true, Bool.not_eq_true', List.all_eq_true, List.contains_eq_mem, decide_eq_false_iff_not, bne_iff_ne, ne_eq] at h
  obtain ⟨⟨h1, h2⟩, h3⟩ := h
  refine ⟨h1, ?_, fun t v hv => h2 _ (lk_mem hv), fun i b hb => (h3 _ (lk_mem hb)).2⟩
  cases hh : S.H d with
  | none => rfl
  | some b => exact absurd rfl (h3 _ (lk_mem hh)).1

/-- Whatever a state stands for: there G holds. -/
def Holds (cx : Cx) (S : Ls) (G : Act → World → Prop) : Prop := ∀ ρ A a w, StRel cx S.F S.H a w ρ A → G a w

theorem StepOp.wpOp {P : Program} {ops : Array Oper} {Q : Exit → Act → World → Prop} {i : Nat} {o : Oper} {K : Act → World → Prop} {a : Act} {w : World} (ho : ops[i]? = some o)
    (h : StepOp P ops o a w K Q) : Go.wpOp P ops Q i K a w := by
  unfold Go.wpOp
  rw [ho]
  unfold StepOp at h
  show if Region.wanted o (yielded ops a.tmps) = true then _ else _
  split
  · rename_i hw; rw [if_pos hw] at h; exact .inl h
  · rename_i hw; rw [if_neg hw] at h; exact h

/-- ONE OPERATION, in the text's order. -/
theorem Holds.op {cx : Cx} {S : Ls} {ops : Array Oper} {Q : Exit → Act → World → Prop} {i : Nat} {l : List Nat} {o : Oper} {e : Ent} (ho : ops[i]? = some o)
    (hd : Doing cx ops o S.F S.H e) (hf : e.fresh.all (S.nomB cx.E) = true) (hk : Holds cx (S.eff o.dst e) (wpOps cx.P ops Q l)) : Holds cx S (wpOps cx.P ops Q (i :: l)) := by
  intro ρ A a w hs
  rw [wpOps_cons]
  refine StepOp.wpOp ho (hd S.F S.H (fun _ _ h => h) (fun _ _ h => h) (fun d hd' => Ls.nomB_spec (List.all_eq_true.1 hf d hd')) ρ A a w hs _ _ ?_)
  intro v w' ρ' A' hs'
  refine hk ρ' A' _ _ ?_
  rw [Ls.F_eff, Ls.H_eff]
  exact hs'

theorem Holds.ops_nil {cx : Cx} {S : Ls} {ops : Array Oper} {Q : Exit → Act → World → Prop} (h : Holds cx S (Q .normal)) : Holds cx S (wpOps cx.P ops Q []) :=
  fun ρ A a w hs => h ρ A a w hs

/-! ### A region that draws its order -/
section draw
variable (cx : Cx) (ops : Array Oper)

/-- The certificate: operation by operation, in the text's order; 'ks': what each may touch (its slot, its blocks), 'ds': what stands in no order to it. -/
def Cert : Nat → Ls → List (Ent × List Nat × List Nat) → Prop
  | k, _, [] => k = ops.size
  | k, S, (e, ks, ds) :: r => ∃ o, ops[k]? = some o ∧ Doing cx ops o (S.del ds).F (S.del ds).H e ∧
      (e.fresh.all (S.nomB cx.E) = true ∧ ((match o.dst with | some d => ks.contains d | none => true) && e.fresh.all ks.contains && e.up.all (fun x => ks.contains x.1)) = true ∧
        (ds.all (fun d => !e.av.ids.contains d && e.up.all (fun x => x.1 != d && !x.2.ids.contains d)) && (match o.dst with | some d => !ds.contains d | none => true)) = true) ∧
      Cert (k + 1) (S.eff o.dst e) r

def effAll : Nat → Ls → List (Ent × List Nat × List Nat) → Ls
  | _, S, [] => S
  | k, S, (e, _, _) :: r => effAll (k + 1) (S.eff ((ops[k]?).bind (·.dst)) e) r

/-- What stands ahead of each operation, as lists. -/
def befL (l : List Oper) : List (List Nat) :=
  l.foldl (init := []) fun acc o =>
    acc ++ [o.after.toList.foldl (init := []) fun s e => if Region.binds .any e then (e.on :: acc.getD e.on []).foldl (fun s j => if s.contains j then s else j :: s) s else s]

def befOK (l : List Oper) (bs : List (List Nat)) : Bool :=
  (List.range l.length).all fun i => ((l[i]?).map fun o => o.after.all fun e => !Region.binds .any e || decide (e.on < i)).getD false && (bs.getD i []).all fun j =>
    decide (j < i) && ((l[i]?).map fun o => o.after.any fun e => Region.binds .any e && (e.on == j || (decide (e.on < i) && (bs.getD e.on []).contains j))).getD false

def chkB (l : List Oper) (bs : List (List Nat)) (info : List (List Nat × List Nat)) : Bool :=
  befOK l bs && (List.range l.length).all fun i => (List.range l.length).all fun j =>
    i == j || (bs.getD i []).contains j || (bs.getD j []).contains i || ((info.getD j ([], [])).1).all ((info.getD i ([], [])).2).contains

end draw

/-- D holds with each operation what stands ahead of it. -/
theorem bef_in {l : List Oper} {bs : List (List Nat)} (h : befOK l bs = true) {D : Nat → Bool}
    (hD : ∀ i o, D i = true → l[i]? = some o → ∀ e ∈ o.after, Region.binds .any e = true → D e.on = true) :
    ∀ i, (∀ o, l[i]? = some o → ∀ e ∈ o.after, Region.binds .any e = true → D e.on = true) → i < l.length → ∀ j ∈ bs.getD i [], D j = true := by
  intro i
  induction i using Nat.strongRecOn with
  | _ i ih =>
    intro hi hlt j hj
    have h0 := List.all_eq_true.1 h i (by simpa using hlt)
    rw [Bool.and_eq_true] at h0
    have h1 := List.all_eq_true.1 h0.2 j hj
    rw [Bool.and_eq_true] at h1
    replace h1 := h1.2
    obtain ⟨o, ho⟩ : ∃ o, l[i]? = some o := ⟨l[i], by simp [hlt]⟩
    simp only [ho, Option.map_some, Option.getD_some, Array.any_eq_true', Bool.and_eq_true, Bool.or_eq_true, beq_iff_eq, decide_eq_true_eq, List.contains_eq_mem] at h1
    obtain ⟨e, he, hb, h2⟩ := h1
    have hDe := hi o ho e he hb
    rcases h2 with rfl | ⟨hlt', hj'⟩
    · exact hDe
    · exact ih e.on hlt' (fun o' ho' => hD e.on o' hDe ho') (by omega) j (by simpa using hj')

section fold
variable (ops : List Oper) (es : List (Ent × List Nat × List Nat))
def dstAt (k : Nat) : Option Nat := (ops[k]?).bind (·.dst)
def avAt (k : Nat) : AV := ((es[k]?).map (·.1.av)).getD (.one .u)
def upAt (k : Nat) : List (Nat × Bk) := ((es[k]?).map (·.1.up)).getD []
def EF (D : Nat → Bool) (F : Nat → Option AV) : Nat → Nat → Option AV
  | 0 => F
  | k + 1 => if D k then updO (EF D F k) (dstAt ops k) (avAt es k) else EF D F k
def EH (D : Nat → Bool) (H : Nat → Option Bk) : Nat → Nat → Option Bk
  | 0 => H
  | k + 1 => if D k then ovr (upAt es k) (EH D H k) else EH D H k
variable {ops es}
theorem updO_ne {α : Type} {f : Nat → Option α} {d : Option Nat} {v : α} {t : Nat} (h : d ≠ some t) : updO f d v t = f t := by
  cases d with
  | none => rfl
  | some d => simp only [updO, upd]; rw [if_neg fun he => h (by rw [he])]
theorem ovr_ne {up : List (Nat × Bk)} {H : Nat → Option Bk} {i : Nat} (h : ∀ x ∈ up, x.1 ≠ i) : ovr up H i = H i := by
  unfold ovr
  cases hh : lk i up with
  | none => rfl
  | some b => exact absurd rfl (h _ (lk_mem hh))
theorem EF_same {D D' : Nat → Bool} {F : Nat → Option AV} {t : Nat} : ∀ k, (∀ j, j < k → D j ≠ D' j → dstAt ops j ≠ some t) → EF ops es D F k t = EF ops es D' F k t
  | 0, _ => rfl
  | k + 1, h => by
    have ih := EF_same (F := F) k fun j hj => h j (by omega)
    simp only [EF]
    by_cases hd : dstAt ops k = some t
    · have : D k = D' k := by
        cases h1 : D k <;> cases h2 : D' k <;> first | rfl | exact absurd hd (h k (by omega) (by simp [h1, h2]))
      rw [this]
      split
      · rw [hd]; simp [updO, upd]
      · exact ih
    · have e1 : ∀ (c : Bool) (f : Nat → Option AV), (if c then updO f (dstAt ops k) (avAt es k) else f) t = f t := by
        intro c f; cases c
        · rfl
        · exact updO_ne hd
      rw [e1, e1]; exact ih
theorem EH_same {D D' : Nat → Bool} {H : Nat → Option Bk} {i : Nat} : ∀ k, (∀ j, j < k → D j ≠ D' j → ∀ x ∈ upAt es j, x.1 ≠ i) → EH es D H k i = EH es D' H k i
  | 0, _ => rfl
  | k + 1, h => by
    have ih := EH_same (H := H) k fun j hj => h j (by omega)
    simp only [EH]
    by_cases hd : D k = D' k
    · rw [hd]
      split
      · unfold ovr; rw [ih]
      · exact ih
    · have hx := h k (by omega) hd
      have e1 : ∀ (c : Bool) (f : Nat → Option Bk), (if c then ovr (upAt es k) f else f) i = f i := by
        intro c f; cases c
        · rfl
        · exact ovr_ne hx
      rw [e1, e1]; exact ih
theorem EF_stop {D : Nat → Bool} {F : Nat → Option AV} {i : Nat} (hD : ∀ j, i ≤ j → D j = false) : ∀ m, EF ops es D F (i + m) = EF ops es D F i
  | 0 => rfl
  | m + 1 => by
    rw [← Nat.add_assoc]
    simp only [EF]
    rw [hD _ (by omega)]
    exact EF_stop hD m
theorem EH_stop {D : Nat → Bool} {H : Nat → Option Bk} {i : Nat} (hD : ∀ j, i ≤ j → D j = false) : ∀ m, EH es D H (i + m) = EH es D H i
  | 0 => rfl
  | m + 1 => by
    rw [← Nat.add_assoc]
    simp only [EH]
    rw [hD _ (by omega)]
    exact EH_stop hD m
/-- One more, whose slot no later one of D has. -/
theorem EF_add {D : Nat → Bool} {F : Nat → Option AV} {i : Nat} (hi : D i = false) {n : Nat} (hn : i < n) (hl : ∀ j, i < j → j < n → D j = true → ∀ t, dstAt ops i = some t → dstAt ops j ≠ some t) :
    EF ops es (fun j => j == i || D j) F n = updO (EF ops es D F n) (dstAt ops i) (avAt es i) := by
  funext t
  by_cases hd : dstAt ops i = some t
  · have key : ∀ m, i + 1 + m ≤ n → EF ops es (fun j => j == i || D j) F (i + 1 + m) t = some (avAt es i) := by
      intro m
      induction m with
      | zero =>
        intro _
        simp only [EF, beq_self_eq_true, Bool.true_or, if_true]
        rw [hd]; simp [updO, upd]
      | succ m ih =>
        intro hm
        rw [← Nat.add_assoc]
        simp only [EF]
        split
        · rename_i hj
          have hne : (i + 1 + m == i) = false := by simp; omega
          rw [hne, Bool.false_or] at hj
          rw [updO_ne (hl _ (by omega) (by omega) hj t hd)]
          exact ih (by omega)
        · exact ih (by omega)
    have := key (n - (i + 1)) (by omega)
    rw [show i + 1 + (n - (i + 1)) = n from by omega] at this
    rw [this, hd]; simp [updO, upd]
  · rw [updO_ne hd]
    refine EF_same n fun j _ hne => ?_
    by_cases hji : j = i
    · subst hji; exact hd
    · exact absurd (by simp [hji]) hne
theorem EH_add {D : Nat → Bool} {H : Nat → Option Bk} {i : Nat} (hi : D i = false) {n : Nat} (hn : i < n) (hl : ∀ j, i < j → j < n → D j = true → ∀ x ∈ upAt es i, ∀ y ∈ upAt es j, y.1 ≠ x.1) :
    EH es (fun j => j == i || D j) H n = ovr (upAt es i) (EH es D H n) := by
  funext t
  cases hu : lk t (upAt es i) with
  | some b =>
    have hmem := lk_mem hu
    have key : ∀ m, i + 1 + m ≤ n → EH es (fun j => j == i || D j) H (i + 1 + m) t = some b := by
      intro m
      induction m with
      | zero =>
        intro _
        simp only [EH, beq_self_eq_true, Bool.true_or, if_true]
        simp [ovr, hu]
      | succ m ih =>
        intro hm
        rw [← Nat.add_assoc]
        simp only [EH]
        split
        · rename_i hj
          have hne : (i + 1 + m == i) = false := by simp; omega
          rw [hne, Bool.false_or] at hj
          rw [ovr_ne fun y hy => hl _ (by omega) (by omega) hj _ hmem y hy]
          exact ih (by omega)
        · exact ih (by omega)
    have := key (n - (i + 1)) (by omega)
    rw [show i + 1 + (n - (i + 1)) = n from by omega] at this
    rw [this]; simp [ovr, hu]
  | none =>
    have hx : ∀ x ∈ upAt es i, x.1 ≠ t := by
      intro x hx he
      subst he
      have : ∀ (l : List (Nat × Bk)), x ∈ l → lk x.1 l ≠ none := by
        intro l
        induction l with
        | nil => intro h; cases h
        | cons y l ih =>
          intro h
          obtain ⟨s, v⟩ := y
          simp only [lk]
          split
          · simp
          · rename_i hne
            rcases List.mem_cons.1 h with h | h
            · subst h; exact absurd rfl hne
            · exact ih h
      exact this _ hx hu
    have e0 : ovr (upAt es i) (EH es D H n) t = EH es D H n t := ovr_ne hx
    rw [e0]
    refine EH_same n fun j _ hne => ?_
    by_cases hji : j = i
    · subst hji; exact hx
    · exact absurd (by simp [hji]) hne
end fold

/-- What the certificate says of its k-th operation. -/
theorem Cert.at {cx : Cx} {ops : Array Oper} : ∀ (es : List (Ent × List Nat × List Nat)) (k : Nat) (S : Ls), Cert cx ops k S es → k + es.length = ops.size ∧
    ∀ j e ks ds, es[j]? = some (e, ks, ds) → ∃ o, ops[k + j]? = some o ∧
      Doing cx ops o ((effAll ops k S (es.take j)).del ds).F ((effAll ops k S (es.take j)).del ds).H e ∧
      (e.fresh.all ((effAll ops k S (es.take j)).nomB cx.E) = true ∧ ((match o.dst with | some d => ks.contains d | none => true) && e.fresh.all ks.contains && e.up.all (fun x => ks.contains x.1)) = true ∧
        (ds.all (fun d => !e.av.ids.contains d && e.up.all (fun x => x.1 != d && !x.2.ids.contains d)) && (match o.dst with | some d => !ds.contains d | none => true)) = true)
  | [], k, S, h => ⟨by simpa [Cert] using h, fun j e ks ds hj => by simp at hj⟩
  | (e, ks, ds) :: r, k, S, h => by
    obtain ⟨o, ho, hd, hc, hr⟩ := h
    obtain ⟨h1, h2⟩ := Cert.at r (k + 1) _ hr
    refine ⟨by simp only [List.length_cons]; omega, ?_⟩
    intro j e' ks' ds' hj
    cases j with
    | zero =>
      simp only [List.getElem?_cons_zero, Option.some.injEq, Prod.mk.injEq] at hj
      obtain ⟨rfl, rfl, rfl⟩ := hj
      exact ⟨o, ho, hd, hc⟩
    | succ j =>
      simp only [List.getElem?_cons_succ] at hj
      obtain ⟨o', ho', hh⟩ := h2 j e' ks' ds' hj
      refine ⟨o', by rw [← ho']; congr 1; omega, ?_⟩
      simpa only [List.take_succ_cons, effAll, ho, Option.bind_some] using hh

theorem effAll_FH {ops : Array Oper} : ∀ (es : List (Ent × List Nat × List Nat)) (k : Nat) (S : Ls),
    (∀ j, j < es.length → True) → ((effAll ops k S es).F = EF (ops.toList.drop k) es (fun _ => true) S.F es.length ∧ (effAll ops k S es).H = EH es (fun _ => true) S.H es.length) := by
  -- by snoc: effAll over es ++ [x]
  have snoc : ∀ (es : List (Ent × List Nat × List Nat)) (x : Ent × List Nat × List Nat) (k : Nat) (S : Ls),
      effAll ops k S (es ++ [x]) = (effAll ops k S es).eff ((ops[k + es.length]?).bind (·.dst)) x.1 := by
    intro es
    induction es with
    | nil => intro x k S; obtain ⟨e, ks, ds⟩ := x; rfl
    | cons y es ih =>
      intro x k S
      obtain ⟨e, ks, ds⟩ := y
      simp only [List.cons_append, effAll, List.length_cons]
      rw [ih]
      rw [show k + 1 + es.length = k + (es.length + 1) from by omega]
  have congrF : ∀ (l : List Oper) (es es' : List (Ent × List Nat × List Nat)) (F : Nat → Option AV) (n : Nat), (∀ j, j < n → es[j]? = es'[j]?) → EF l es (fun _ => true) F n = EF l es' (fun _ => true) F n := by
    intro l es es' F n
    induction n with
    | zero => intro _; rfl
    | succ n ih =>
      intro h
      simp only [EF, if_true]
      rw [ih fun j hj => h j (by omega)]
      simp only [avAt, h n (by omega)]
  have congrH : ∀ (es es' : List (Ent × List Nat × List Nat)) (H : Nat → Option Bk) (n : Nat), (∀ j, j < n → es[j]? = es'[j]?) → EH es (fun _ => true) H n = EH es' (fun _ => true) H n := by
    intro es es' H n
    induction n with
    | zero => intro _; rfl
    | succ n ih =>
      intro h
      simp only [EH, if_true]
      rw [ih fun j hj => h j (by omega)]
      simp only [upAt, h n (by omega)]
  suffices H : ∀ (n : Nat) (es : List (Ent × List Nat × List Nat)), es.length = n → ∀ (k : Nat) (S : Ls), ((effAll ops k S es).F = EF (ops.toList.drop k) es (fun _ => true) S.F es.length ∧ (effAll ops k S es).H = EH es (fun _ => true) S.H es.length) from
    fun es k S _ => H es.length es rfl k S
  intro n
  induction n with
  | zero => intro es hes k S; obtain rfl : es = [] := List.length_eq_zero_iff.1 hes; exact ⟨rfl, rfl⟩
  | succ n ih =>
    intro es hes k S
    obtain ⟨es', x, rfl⟩ : ∃ es' x, es = es' ++ [x] := ⟨es.dropLast, es.getLast (by intro h; simp [h] at hes), (List.dropLast_concat_getLast _).symm⟩
    have hl : es'.length = n := by simpa using hes
    obtain ⟨h1, h2⟩ := ih es' hl k S
    rw [snoc, Ls.F_eff, Ls.H_eff, h1, h2]
    have hx : (es' ++ [x])[es'.length]? = some x := by simp
    constructor
    · simp only [List.length_append, List.length_singleton, EF, if_true]
      rw [congrF _ es' (es' ++ [x]) _ _ fun j hj => (List.getElem?_append_left hj).symm]
      congr 1
      · simp [dstAt]
      · simp [avAt]
    · simp only [List.length_append, List.length_singleton, EH, if_true]
      rw [congrH es' (es' ++ [x]) _ _ fun j hj => (List.getElem?_append_left hj).symm]
      simp [upAt]

theorem befOK_of_chk {l : List Oper} {bs : List (List Nat)} {info : List (List Nat × List Nat)} (h : chkB l bs info = true) : befOK l bs = true ∧
    ∀ i j, i < l.length → j < l.length → i ≠ j → j ∉ bs.getD i [] → i ∉ bs.getD j [] → ∀ x ∈ (info.getD j ([], [])).1, x ∈ (info.getD i ([], [])).2 := by
  simp only [chkB, Bool.and_eq_true] at h
  refine ⟨h.1, fun i j hi hj hne h1 h2 x hx => ?_⟩
  have h3 := List.all_eq_true.1 (List.all_eq_true.1 h.2 i (by simpa using hi)) j (by simpa using hj)
  simp only [Bool.or_eq_true, beq_iff_eq, List.contains_eq_mem, decide_eq_true_eq] at h3
  rcases h3 with ((h3 | h3) | h3) | h3
  · exact absurd h3 hne
  · exact absurd h3 h1
  · exact absurd h3 h2
  · simpa using List.all_eq_true.1 h3 x hx

theorem bef_lt {l : List Oper} {bs : List (List Nat)} (h : befOK l bs = true) {i j : Nat} (hi : i < l.length) (hj : j ∈ bs.getD i []) : j < i := by
  have h0 := List.all_eq_true.1 h i (by simpa using hi)
  rw [Bool.and_eq_true] at h0
  have h1 := List.all_eq_true.1 h0.2 j hj
  rw [Bool.and_eq_true] at h1
  simpa using h1.1

theorem edge_lt {l : List Oper} {bs : List (List Nat)} (h : befOK l bs = true) {i : Nat} {o : Oper} (ho : l[i]? = some o) : ∀ e ∈ o.after, Region.binds .any e = true → e.on < i := by
  have hi : i < l.length := by
    rcases Nat.lt_or_ge i l.length with h | h
    · exact h
    · simp [List.getElem?_eq_none h] at ho
  have h0 := List.all_eq_true.1 h i (by simpa using hi)
  rw [Bool.and_eq_true] at h0
  have h1 := h0.1
  simp only [ho, Option.map_some, Option.getD_some, Array.all_eq_true'] at h1
  intro e he hb
  have := h1 e he
  simpa [hb] using this

theorem effAll_mem {ops : Array Oper} : ∀ (es : List (Ent × List Nat × List Nat)) (k : Nat) (S : Ls), (∀ x ∈ S.fr, x ∈ (effAll ops k S es).fr) ∧ (∀ x ∈ S.hp, x ∈ (effAll ops k S es).hp) ∧
    ∀ j e ks ds, es[j]? = some (e, ks, ds) → (∀ t, (ops[k + j]?).bind (·.dst) = some t → (t, e.av) ∈ (effAll ops k S es).fr) ∧ (∀ x ∈ e.up, x ∈ (effAll ops k S es).hp)
  | [], k, S => ⟨fun _ h => h, fun _ h => h, fun j e ks ds h => by simp at h⟩
  | (e, ks, ds) :: r, k, S => by
    obtain ⟨h1, h2, h3⟩ := effAll_mem (ops := ops) r (k + 1) (S.eff ((ops[k]?).bind (·.dst)) e)
    refine ⟨fun x hx => h1 x ?_, fun x hx => h2 x (List.mem_append_right _ hx), ?_⟩
    · simp only [Ls.eff]; split
      · exact List.mem_cons_of_mem _ hx
      · exact hx
    · intro j e' ks' ds' hj
      cases j with
      | zero =>
        simp only [List.getElem?_cons_zero, Option.some.injEq, Prod.mk.injEq] at hj
        obtain ⟨rfl, rfl, rfl⟩ := hj
        refine ⟨fun t ht => h1 _ ?_, fun x hx => h2 _ (List.mem_append_left _ hx)⟩
        rw [Nat.add_zero] at ht
        rw [ht]; exact List.mem_cons_self
      | succ j =>
        simp only [List.getElem?_cons_succ] at hj
        have := h3 j e' ks' ds' hj
        rw [show k + 1 + j = k + (j + 1) by omega] at this
        exact this

theorem EF_cases {ops : List Oper} {es : List (Ent × List Nat × List Nat)} {D : Nat → Bool} {F : Nat → Option AV} {t : Nat} {v : AV} : ∀ n, EF ops es D F n t = some v → F t = some v ∨ ∃ j, j < n ∧ D j = true ∧ dstAt ops j = some t ∧ v = avAt es j
  | 0, h => .inl h
  | n + 1, h => by
    simp only [EF] at h
    split at h
    · rename_i hd
      by_cases ht : dstAt ops n = some t
      · rw [ht] at h
        simp [updO, upd] at h
        exact .inr ⟨n, by omega, hd, ht, h.symm⟩
      · rw [updO_ne ht] at h
        rcases EF_cases n h with h | ⟨j, hj, h⟩
        · exact .inl h
        · exact .inr ⟨j, by omega, h⟩
    · rcases EF_cases n h with h | ⟨j, hj, h⟩
      · exact .inl h
      · exact .inr ⟨j, by omega, h⟩
theorem EH_cases {es : List (Ent × List Nat × List Nat)} {D : Nat → Bool} {H : Nat → Option Bk} {t : Nat} {v : Bk} : ∀ n, EH es D H n t = some v → H t = some v ∨ ∃ j, j < n ∧ D j = true ∧ (t, v) ∈ upAt es j
  | 0, h => .inl h
  | n + 1, h => by
    simp only [EH] at h
    split at h
    · rename_i hd
      unfold ovr at h
      split at h
      · rename_i b hb
        cases h
        exact .inr ⟨n, by omega, hd, lk_mem hb⟩
      · rcases EH_cases n h with h | ⟨j, hj, h⟩
        · exact .inl h
        · exact .inr ⟨j, by omega, h⟩
    · rcases EH_cases n h with h | ⟨j, hj, h⟩
      · exact .inl h
      · exact .inr ⟨j, by omega, h⟩

theorem filter_less {D D' : Nat → Bool} {i : Nat} (h : ∀ j, D' j = (j == i || D j)) (hi : D i = false) : ∀ (r : List Nat), i ∈ r → r.Nodup → (r.filter fun j => !D' j).length < (r.filter fun j => !D j).length := by
  have le : ∀ (r : List Nat), (r.filter fun j => !D' j).length ≤ (r.filter fun j => !D j).length := by
    intro r
    induction r with
    | nil => exact Nat.le_refl _
    | cons y r ihy =>
      have hy := h y
      by_cases hyi : y = i
      · subst hyi
        rw [List.filter_cons_of_neg (by rw [hy]; simp), List.filter_cons_of_pos (by rw [hi]; rfl)]
        simp only [List.length_cons]; omega
      · cases hDy : D y with
        | true => rw [List.filter_cons_of_neg (by rw [hy, hDy]; simp), List.filter_cons_of_neg (by rw [hDy]; simp)]; exact ihy
        | false => rw [List.filter_cons_of_pos (by rw [hy, hDy]; simp [hyi]), List.filter_cons_of_pos (by rw [hDy]; simp)]; simp only [List.length_cons]; omega
  intro r
  induction r with
  | nil => intro h; cases h
  | cons x r ihr =>
    intro hm hnd
    rw [List.nodup_cons] at hnd
    have hx := h x
    by_cases hxi : x = i
    · subst hxi
      rw [List.filter_cons_of_neg (by rw [hx]; simp), List.filter_cons_of_pos (by rw [hi]; rfl)]
      have := le r
      simp only [List.length_cons]; omega
    · have hm' : i ∈ r := by
        rcases List.mem_cons.1 hm with h | h
        · exact absurd h.symm hxi
        · exact h
      have := ihr hm' hnd.2
      cases hDx : D x with
      | true => rw [List.filter_cons_of_neg (by rw [hx, hDx]; simp), List.filter_cons_of_neg (by rw [hDx]; simp)]; exact this
      | false => rw [List.filter_cons_of_pos (by rw [hx, hDx]; simp [hxi]), List.filter_cons_of_pos (by rw [hDx]; simp)]; simp only [List.length_cons]; omega

theorem EF_none {ops : List Oper} {es : List (Ent × List Nat × List Nat)} {D : Nat → Bool} {F : Nat → Option AV} (h : ∀ i, D i = false) : ∀ n, EF ops es D F n = F
  | 0 => rfl
  | n + 1 => by simp only [EF, h, Bool.false_eq_true, if_false]; exact EF_none h n
theorem EH_none {es : List (Ent × List Nat × List Nat)} {D : Nat → Bool} {H : Nat → Option Bk} (h : ∀ i, D i = false) : ∀ n, EH es D H n = H
  | 0 => rfl
  | n + 1 => by simp only [EH, h, Bool.false_eq_true, if_false]; exact EH_none h n

theorem wpAny_cert {ops : Array Oper} (cx : Cx) {Q : Exit → Act → World → Prop} {S : Ls} {es : List (Ent × List Nat × List Nat)} {l : List Oper} (hl : ops.toList = l) (bs : List (List Nat))
    (hC : Cert cx ops 0 S es) (hchk : chkB l bs (es.map (·.2)) = true) (hQ : Holds cx (effAll ops 0 S es) (Q .normal)) :
    ∀ (fuel : Nat) (listed : Array Bool), listed.size = ops.size →
      (∀ i o, listed.getD i false = true → l[i]? = some o → ∀ e ∈ o.after, Region.binds .any e = true → listed.getD e.on false = true) →
      ((List.range ops.size).filter fun i => !listed.getD i false).length ≤ fuel →
      ∀ ρ A a w, StRel cx (EF l es (fun i => listed.getD i false) S.F ops.size) (EH es (fun i => listed.getD i false) S.H ops.size) a w ρ A →
        wpAny cx.P .any ops Q fuel listed a w := by
  obtain ⟨hlen, hat⟩ := Cert.at es 0 S hC
  rw [Nat.zero_add] at hlen
  obtain ⟨hbef, hun⟩ := befOK_of_chk hchk
  have hll : l.length = ops.size := by rw [← hl]; simp
  have hFH := effAll_FH (ops := ops) es 0 S (fun _ _ => trivial)
  rw [List.drop_zero, hl, hlen] at hFH
  -- when all are listed
  have fin : ∀ listed : Array Bool, (∀ i, i < ops.size → listed.getD i false = true) → ∀ ρ A a w,
      StRel cx (EF l es (fun i => listed.getD i false) S.F ops.size) (EH es (fun i => listed.getD i false) S.H ops.size) a w ρ A → Q .normal a w := by
    intro listed hall ρ A a w hs
    refine hQ ρ A a w ?_
    rw [hFH.1, hFH.2]
    have e1 : EF l es (fun i => listed.getD i false) S.F ops.size = EF l es (fun _ => true) S.F ops.size := by
      funext t; exact EF_same _ fun j hj hne => absurd (hall j hj) hne
    have e2 : EH es (fun i => listed.getD i false) S.H ops.size = EH es (fun _ => true) S.H ops.size := by
      funext t; exact EH_same _ fun j hj hne => absurd (hall j hj) hne
    rw [← e1, ← e2]; exact hs
  -- one that is ready
  have one : ∀ (listed : Array Bool), listed.size = ops.size →
      (∀ i o, listed.getD i false = true → l[i]? = some o → ∀ e ∈ o.after, Region.binds .any e = true → listed.getD e.on false = true) →
      ∀ i ∈ Region.ready .any ops listed, ∀ ρ A a w, StRel cx (EF l es (fun i => listed.getD i false) S.F ops.size) (EH es (fun i => listed.getD i false) S.H ops.size) a w ρ A →
      ∀ K : Act → World → Prop, (∀ ρ A a w, StRel cx (EF l es (fun j => j == i || listed.getD j false) S.F ops.size) (EH es (fun j => j == i || listed.getD j false) S.H ops.size) a w ρ A → K a w) →
      wpOp cx.P ops Q i K a w := by
    intro listed hsz hclosed i hi ρ A a w hs K hK
    obtain ⟨hnot, o, ho, hall⟩ := mem_ready.1 hi
    have hilt : i < ops.size := by
      rcases Nat.lt_or_ge i ops.size with h | h
      · exact h
      · simp [Array.getElem?_eq_none h] at ho
    have hDi : listed.getD i false = false := by
      have : i < listed.size := by omega
      simp only [Array.getD, this, ↓reduceDIte] at hnot ⊢
      exact hnot
    have hol : l[i]? = some o := by rw [← hl]; simpa using ho
    have hbi := bef_in hbef (D := fun i => listed.getD i false) hclosed i (fun o' ho' e he hb => by
      rw [hol] at ho'; cases ho'; exact hall e he hb) (by omega)
    have hbj : ∀ j, j < ops.size → listed.getD j false = true → i ∉ bs.getD j [] := fun j hj hDj hmem => by
      have := bef_in hbef (D := fun i => listed.getD i false) hclosed j (fun o' ho' e he hb => hclosed j o' hDj ho' e he hb) (by omega) i hmem
      simp only [hDi] at this; cases this
    obtain ⟨⟨e, ks, ds⟩, hei⟩ : ∃ x, es[i]? = some x := ⟨es[i]'(by omega), by simp [show i < es.length by omega]⟩
    obtain ⟨o', ho', hdo, hfr, hks, hds⟩ := hat i e ks ds hei
    rw [Nat.zero_add, ho] at ho'
    cases ho'
    have hinfo : ∀ j, (es.map (·.2)).getD j ([], []) = ((es[j]?).map (·.2)).getD ([], []) := fun j => by simp [List.getD_eq_getElem?_getD]
    have un : ∀ j, j < ops.size → (j < i ∧ listed.getD j false = false ∨ i < j ∧ listed.getD j false = true) → ∀ e' ks' ds', es[j]? = some (e', ks', ds') → (∀ x ∈ ks', x ∈ ds) ∧ (∀ x ∈ ks, x ∈ ds') := by
      intro j hj hcase e' ks' ds' hej
      have hne : i ≠ j := by rcases hcase with h | h <;> omega
      have h1 : j ∉ bs.getD i [] := fun hmem => by
        have h2 := hbi j hmem
        rcases hcase with ⟨_, hD⟩ | ⟨hlt, hD⟩
        · simp only [hD] at h2; cases h2
        · have := bef_lt hbef (by omega) hmem; omega
      have h2 : i ∉ bs.getD j [] := fun hmem => by
        rcases hcase with ⟨hlt, hD⟩ | ⟨hlt, hD⟩
        · have := bef_lt hbef (by omega) hmem; omega
        · exact hbj j hj hD hmem
      have h3 := hun i j (by omega) (by omega) hne h1 h2
      have h4 := hun j i (by omega) (by omega) hne.symm h2 h1
      simp only [hinfo, hei, hej, Option.map_some, Option.getD_some] at h3 h4
      exact ⟨h3, h4⟩
    -- what the j-th holds
    have keys : ∀ j, j < ops.size → ∃ e' ks' ds' oj, es[j]? = some (e', ks', ds') ∧ ops[j]? = some oj ∧ (∀ t, dstAt l j = some t → t ∈ ks') ∧ (∀ x ∈ upAt es j, x.1 ∈ ks') ∧
        (∀ d ∈ ds', d ∉ (avAt es j).ids ∧ (∀ x ∈ upAt es j, x.1 ≠ d ∧ d ∉ x.2.ids) ∧ dstAt l j ≠ some d) := by
      intro j hj
      obtain ⟨⟨e', ks', ds'⟩, hej⟩ : ∃ x, es[j]? = some x := ⟨es[j]'(by omega), by simp [show j < es.length by omega]⟩
      obtain ⟨oj, hoj, _, _, hks', hds'⟩ := hat j e' ks' ds' hej
      rw [Nat.zero_add] at hoj
      have holj : l[j]? = some oj := by rw [← hl]; simpa using hoj
      simp only [Bool.and_eq_true, List.all_eq_true, List.contains_eq_mem, decide_eq_true_eq] at hks' hds'
      refine ⟨e', ks', ds', oj, hej, hoj, ?_, ?_, ?_⟩
      · intro t ht
        simp only [dstAt, holj, Option.bind_some] at ht
        have := hks'.1.1
        rw [ht] at this
        simpa using this
      · intro x hx
        simp only [upAt, hej, Option.map_some, Option.getD_some] at hx
        simpa using hks'.2 x hx
      · intro d hd
        have h1 := hds'.1 d hd
        simp only [Bool.not_eq_true', decide_eq_false_iff_not, bne_iff_ne, ne_eq] at h1
        refine ⟨by simp only [avAt, hej, Option.map_some, Option.getD_some]; exact h1.1, ?_, ?_⟩
        · intro x hx
          simp only [upAt, hej, Option.map_some, Option.getD_some] at hx
          exact h1.2 x hx
        · intro ht
          simp only [dstAt, holj, Option.bind_some] at ht
          have := hds'.2
          rw [ht] at this
          simp [hd] at this
    obtain ⟨e₀, ks₀, ds₀, o₀, he₀, ho₀, hkd, hku, hsep⟩ := keys i hilt
    rw [hei] at he₀
    simp only [Option.some.injEq, Prod.mk.injEq] at he₀
    obtain ⟨rfl, rfl, rfl⟩ := he₀
    -- the text's state ahead of i, as folds
    have hT := effAll_FH (ops := ops) (es.take i) 0 S (fun _ _ => trivial)
    rw [List.drop_zero, hl, List.length_take, Nat.min_eq_left (by omega)] at hT
    have hTF : EF l (es.take i) (fun _ => true) S.F i = EF l es (fun j => decide (j < i)) S.F ops.size := by
      have c1 : ∀ n, n ≤ i → EF l (es.take i) (fun _ => true) S.F n = EF l es (fun j => decide (j < i)) S.F n := by
        intro n
        induction n with
        | zero => intro _; rfl
        | succ n ih =>
          intro hn
          simp only [EF, if_true]
          rw [ih (by omega), if_pos (by simp; omega)]
          congr 1
          simp [avAt, show n < i by omega]
      rw [c1 i (Nat.le_refl _)]
      have := EF_stop (ops := l) (es := es) (D := fun j => decide (j < i)) (F := S.F) (i := i) (fun j hj => by simp; omega) (ops.size - i)
      rw [show i + (ops.size - i) = ops.size by omega] at this
      exact this.symm
    have hTH : EH (es.take i) (fun _ => true) S.H i = EH es (fun j => decide (j < i)) S.H ops.size := by
      have c1 : ∀ n, n ≤ i → EH (es.take i) (fun _ => true) S.H n = EH es (fun j => decide (j < i)) S.H n := by
        intro n
        induction n with
        | zero => intro _; rfl
        | succ n ih =>
          intro hn
          simp only [EH, if_true]
          rw [ih (by omega), if_pos (by simp; omega)]
          congr 1
          simp [upAt, show n < i by omega]
      rw [c1 i (Nat.le_refl _)]
      have := EH_stop (es := es) (D := fun j => decide (j < i)) (H := S.H) (i := i) (fun j hj => by simp; omega) (ops.size - i)
      rw [show i + (ops.size - i) = ops.size by omega] at this
      exact this.symm
    -- the two states agree off ds
    have part : ∀ j, j < ops.size → (decide (j < i) : Bool) ≠ listed.getD j false → j ≠ i → (j < i ∧ listed.getD j false = false ∨ i < j ∧ listed.getD j false = true) := by
      intro j _ hne hji
      cases hD : listed.getD j false
      · refine .inl ⟨?_, rfl⟩
        rw [hD] at hne
        simpa using hne
      · refine .inr ⟨?_, rfl⟩
        rw [hD] at hne
        simp at hne; omega
    have agF : ∀ t v, ((effAll ops 0 S (es.take i)).del ds).F t = some v → EF l es (fun i => listed.getD i false) S.F ops.size t = some v := by
      intro t v hv
      obtain ⟨hv', hnd⟩ := lk_filter (α := AV) hv
      have hv2 : (effAll ops 0 S (es.take i)).F t = some v := hv'
      rw [hT.1, hTF] at hv2
      rw [← hv2]
      refine EF_same _ fun j hj hne ht => ?_
      by_cases hji : j = i
      · subst hji; simp [hDi] at hne
      obtain ⟨e', ks', ds', oj, hej, _, hd1, _, _⟩ := keys j hj
      exact hnd ((un j hj (part j hj (Ne.symm hne) hji) e' ks' ds' hej).1 t (hd1 t ht))
    have agH : ∀ t v, ((effAll ops 0 S (es.take i)).del ds).H t = some v → EH es (fun i => listed.getD i false) S.H ops.size t = some v := by
      intro t v hv
      obtain ⟨hv', hnd⟩ := lk_filter (α := Bk) hv
      have hv2 : (effAll ops 0 S (es.take i)).H t = some v := hv'
      rw [hT.2, hTH] at hv2
      rw [← hv2]
      refine EH_same _ fun j hj hne x hx hxt => ?_
      by_cases hji : j = i
      · subst hji; simp [hDi] at hne
      obtain ⟨e', ks', ds', oj, hej, _, _, hd2, _⟩ := keys j hj
      exact hnd ((un j hj (part j hj (Ne.symm hne) hji) e' ks' ds' hej).1 t (hxt ▸ hd2 x hx))
    refine StepOp.wpOp ho (hdo _ _ agF agH ?_ ρ A a w hs K Q ?_)
    · -- what must be fresh is fresh
      intro d hd
      have hn := Ls.nomB_spec (List.all_eq_true.1 hfr d hd)
      have hdk : d ∈ ks := by
        simp only [Bool.and_eq_true, List.all_eq_true, List.contains_eq_mem, decide_eq_true_eq] at hks
        exact hks.1.2 d hd
      have hB := List.all_eq_true.1 hfr d hd
      simp only [Ls.nomB, Bool.and_eq_true, Bool.not_eq_true', List.all_eq_true, List.contains_eq_mem, decide_eq_false_iff_not, bne_iff_ne, ne_eq] at hB
      obtain ⟨⟨_, hBf⟩, hBh⟩ := hB
      obtain ⟨m1, m2, m3⟩ := effAll_mem (ops := ops) (es.take i) 0 S
      -- of what has come up
      have ent : ∀ j, j < ops.size → listed.getD j false = true → (∀ t, dstAt l j = some t → d ∉ (avAt es j).ids) ∧ ∀ x ∈ upAt es j, x.1 ≠ d ∧ d ∉ x.2.ids := by
        intro j hj hDj
        obtain ⟨e', ks', ds', oj, hej, hoj, hd1, hd2, hs3⟩ := keys j hj
        rcases Nat.lt_trichotomy j i with hlt | rfl | hgt
        · have := m3 j e' ks' ds' (by rw [List.getElem?_take]; simp [hlt, hej])
          rw [Nat.zero_add] at this
          refine ⟨fun t ht => ?_, fun x hx => ?_⟩
          · have h1 := hBf _ (this.1 t (by rw [← hl] at ht; simpa [dstAt] using ht))
            simpa [avAt, hej] using h1
          · simp only [upAt, hej, Option.map_some, Option.getD_some] at hx
            exact hBh _ (this.2 x hx)
        · rw [hDi] at hDj; cases hDj
        · have := hs3 d ((un j hj (.inr ⟨hgt, hDj⟩) e' ks' ds' hej).2 d hdk)
          exact ⟨fun _ _ => this.1, this.2.1⟩
      refine ⟨hn.e, ?_, ?_, ?_⟩
      · cases hh : EH es (fun i => listed.getD i false) S.H ops.size d with
        | none => rfl
        | some b =>
          rcases EH_cases _ hh with h | ⟨j, hj, hDj, hm⟩
          · exact absurd rfl (hBh _ (m2 _ (lk_mem h))).1
          · exact absurd rfl ((ent j hj hDj).2 _ hm).1
      · intro t v hv
        rcases EF_cases _ hv with h | ⟨j, hj, hDj, hdt, rfl⟩
        · exact hBf _ (m1 _ (lk_mem h))
        · exact (ent j hj hDj).1 t hdt
      · intro t b hb
        rcases EH_cases _ hb with h | ⟨j, hj, hDj, hm⟩
        · exact (hBh _ (m2 _ (lk_mem h))).2
        · exact ((ent j hj hDj).2 _ hm).2
    · intro v w' ρ' A' hs'
      refine hK ρ' A' _ _ ?_
      have e1 := EF_add (ops := l) (es := es) (D := fun j => listed.getD j false) (F := S.F) (i := i) hDi hilt (by
        intro j hij hj hDj t ht ht'
        obtain ⟨e', ks', ds', oj, hej, _, hd1, _, hs3⟩ := keys j hj
        exact (hs3 t ((un j hj (.inr ⟨hij, hDj⟩) e' ks' ds' hej).2 t (hkd t ht))).2.2 ht')
      have e2 := EH_add (es := es) (D := fun j => listed.getD j false) (H := S.H) (i := i) hDi hilt (by
        intro j hij hj hDj x hx y hy
        obtain ⟨e', ks', ds', oj, hej, _, hd1, _, hs3⟩ := keys j hj
        exact ((hs3 x.1 ((un j hj (.inr ⟨hij, hDj⟩) e' ks' ds' hej).2 x.1 (hku x hx))).2.1 y hy).1)
      rw [e1, e2]
      have a1 : dstAt l i = o.dst := by simp [dstAt, hol]
      have a2 : avAt es i = e.av := by simp [avAt, hei]
      have a3 : upAt es i = e.up := by simp [upAt, hei]
      rw [a1, a2, a3]
      exact hs'
  -- if none is ready all are listed
  have done : ∀ listed : Array Bool, listed.size = ops.size → Region.ready .any ops listed = [] → ∀ i, i < ops.size → listed.getD i false = true := by
    intro listed hsz hr i
    induction i using Nat.strongRecOn with
    | _ i ih =>
      intro hi
      cases hD : listed.getD i false with
      | true => rfl
      | false =>
        exfalso
        have hol : l[i]? = some ops[i] := by rw [← hl]; simp [hi]
        have : i ∈ Region.ready .any ops listed := mem_ready.2 ⟨by
            have : i < listed.size := by omega
            simp only [Array.getD, this, ↓reduceDIte] at hD ⊢; exact hD, ops[i], by simp [hi], fun e he hb => by
            have hlt := edge_lt hbef hol e he hb
            exact ih e.on hlt (by omega)⟩
        rw [hr] at this; cases this
  intro fuel
  induction fuel with
  | zero =>
    intro listed hsz hclosed hcount ρ A a w hs
    have hall : ∀ i, i < ops.size → listed.getD i false = true := by
      intro i hi
      cases hD : listed.getD i false with
      | true => rfl
      | false =>
        have h0 := List.eq_nil_of_length_eq_zero (Nat.le_zero.1 hcount)
        have : i ∈ (List.range ops.size).filter fun i => !listed.getD i false := List.mem_filter.2 ⟨by simpa using hi, by rw [hD]; rfl⟩
        rw [h0] at this; cases this
    refine ⟨?_, fin listed hall ρ A a w hs⟩
    cases hr : Region.ready .any ops listed with
    | nil => rfl
    | cons i r =>
      have hi : i ∈ Region.ready .any ops listed := by rw [hr]; exact List.mem_cons_self
      obtain ⟨hnot, o, ho, _⟩ := mem_ready.1 hi
      have hilt : i < ops.size := by
        rcases Nat.lt_or_ge i ops.size with h | h
        · exact h
        · simp [Array.getElem?_eq_none h] at ho
      have := hall i hilt
      have hl' : i < listed.size := by omega
      simp only [Array.getD, hl', ↓reduceDIte] at hnot this
      rw [hnot] at this; cases this
  | succ fuel ih =>
    intro listed hsz hclosed hcount ρ A a w hs
    refine ⟨fun hr => fin listed (done listed hsz hr) ρ A a w hs, fun i hi => ?_⟩
    have hi' := hi
    obtain ⟨hnot, o, ho, hall⟩ := mem_ready.1 hi'
    have hilt : i < ops.size := by
      rcases Nat.lt_or_ge i ops.size with h | h
      · exact h
      · simp [Array.getElem?_eq_none h] at ho
    have hget : ∀ j, (listed.setIfInBounds i true).getD j false = (j == i || listed.getD j false) := by
      intro j
      by_cases hji : j = i
      · subst hji
        simp [Array.getD, show j < listed.size by omega]
      · simp only [Array.getD_eq_getD_getElem?]
        rw [Array.getElem?_setIfInBounds_ne (Ne.symm hji)]
        simp [hji]
    refine one listed hsz hclosed i hi ρ A a w hs _ fun ρ' A' a' w' hs' => ?_
    refine ih (listed.setIfInBounds i true) (by simpa using hsz) ?_ ?_ ρ' A' a' w' ?_
    · intro k ok hk hok e he hb
      rw [hget] at hk ⊢
      by_cases hki : k = i
      · subst hki
        have : l[k]? = some o := by rw [← hl]; simpa using ho
        rw [this] at hok; cases hok
        simp [hall e he hb]
      · have := hclosed k ok (by simpa [hki] using hk) hok e he hb
        simp [this]
    · have hDi : listed.getD i false = false := by
        have : i < listed.size := by omega
        simp only [Array.getD, this, ↓reduceDIte] at hnot ⊢
        exact hnot
      have : ((List.range ops.size).filter fun j => !(listed.setIfInBounds i true).getD j false).length < ((List.range ops.size).filter fun j => !listed.getD j false).length := by
        exact filter_less hget hDi _ (by simpa using hilt) List.nodup_range
      omega
    · have e1 : (fun j => (listed.setIfInBounds i true).getD j false) = fun j => j == i || listed.getD j false := funext hget
      rw [e1]; exact hs'

/-- A REGION THAT DRAWS ITS ORDER, by its certificate. -/
theorem Holds.draw {cx : Cx} {S : Ls} {id : Nat} {l : List Oper} {Q : Exit → Act → World → Prop} (hm : cx.P.follows .mixedOrders = true) (es : List (Ent × List Nat × List Nat)) (bs : List (List Nat))
    (info : List (List Nat × List Nat)) (hi : es.map (·.2) = info) (hchk : chkB l bs info = true)
    (hC : Cert cx l.toArray 0 S es) (hQ : Holds cx (effAll l.toArray 0 S es) (Q .normal)) : Holds cx S ((Code.region id l.toArray true).wp cx.P Q) := by
  intro ρ A a w hs
  refine wp_region_any hm ?_
  have hs0 : StRel cx S.F S.H a { w with drawn := w.drawn + 1 } ρ A := hs.below (Below.drew (Below.refl _ _))
  subst hi
  refine wpAny_cert (ops := l.toArray) (l := l) cx (by simp) bs hC hchk hQ l.toArray.size (Array.replicate l.toArray.size false) (by simp) ?_ ?_ ρ A a _ ?_
  · intro i o h
    exfalso
    revert h
    simp only [Array.getD_eq_getD_getElem?, Array.getElem?_replicate]
    split <;> simp
  · exact Nat.le_trans (List.length_filter_le _ _) (by simp)
  · have f0 : ∀ i, (Array.replicate l.toArray.size false).getD i false = false := by
      intro i
      simp only [Array.getD_eq_getD_getElem?, Array.getElem?_replicate]
      split <;> rfl
    rw [EF_none f0, EH_none f0]; exact hs0

end Go.Fx
