/-
  FxC: the rules for code (sequence, test, block, loop, label), forgetting, entry and return, and calls by contract.
-/
import Derived.Test.YtkpelchcpiafaaaFxB
import Derived.ScopeJumps
namespace Go.Fx
open Go.RowKit (Below)

def Rep (cx : Cx) (S : Ls) (a : Act) (w : World) : Prop := ∃ ρ A, StRel cx S.F S.H a w ρ A

section rules
variable {cx : Cx} {S : Ls} {Q : Exit → Act → World → Prop}
theorem Holds.seq {x y : Code} (h : Holds cx S (x.wp cx.P (Exit.then (y.wp cx.P Q) Q))) : Holds cx S ((Code.seq x y).wp cx.P Q) :=
  fun ρ A a w hs => wp_seq (h ρ A a w hs)
theorem Holds.skip (h : Holds cx S (Q .normal)) : Holds cx S (Code.skip.wp cx.P Q) := fun ρ A a w hs => wp_skip (h ρ A a w hs)
theorem Holds.label {l : Nat} (h : Holds cx S (Q .normal)) : Holds cx S ((Code.label l).wp cx.P Q) := fun ρ A a w hs => wp_label (h ρ A a w hs)
theorem Holds.exit {id : Nat} (h : Holds cx S (Q (.exit id))) : Holds cx S ((Code.exit id).wp cx.P Q) := fun ρ A a w hs => wp_exit (h ρ A a w hs)
theorem Holds.goto {l : Nat} (h : Holds cx S (Q (.goto l))) : Holds cx S ((Code.goto l).wp cx.P Q) := fun ρ A a w hs => wp_goto (h ρ A a w hs)
theorem Holds.ret (h : Holds cx S (Q .ret)) : Holds cx S (Code.ret.wp cx.P Q) := fun ρ A a w hs => wp_ret (h ρ A a w hs)
theorem Holds.block {id : Nat} {c : Code} (h : Holds cx S (c.wp cx.P (Exit.inBlock id Q))) : Holds cx S ((Code.block id c).wp cx.P Q) :=
  fun ρ A a w hs => wp_block (h ρ A a w hs)
theorem Holds.scope0 {c : Code} (h : Holds cx S (c.wp cx.P (Exit.noGoto Q))) : Holds cx S ((Code.scope c).wp cx.P Q) :=
  fun ρ A a w hs => wp_scope_straight (h ρ A a w hs)
theorem Holds.region {id : Nat} {l : List Oper} (h : Holds cx S (wpOps cx.P l.toArray Q (List.range l.length))) : Holds cx S ((Code.region id l.toArray false).wp cx.P Q) :=
  fun ρ A a w hs => wp_region (by simpa using h ρ A a w hs)
theorem Holds.cond {t : Nat} {x y : Code} (b : Bool) (hc : lk t S.fr = some (.one (.b b))) (ht : b = true → Holds cx S (x.wp cx.P Q)) (hf : b = false → Holds cx S (y.wp cx.P Q)) :
    Holds cx S ((Code.cond (.tmp t) x y).wp cx.P Q) :=
  fun ρ A a w hs => wp_cond_split (t := b) (hs.fr t _ hc) (fun h => ht h ρ A a w hs) (fun h => hf h ρ A a w hs)
theorem Holds.condT {t : Nat} {x y : Code} (hc : lk t S.fr = some (.one (.b true))) (h : Holds cx S (x.wp cx.P Q)) : Holds cx S ((Code.cond (.tmp t) x y).wp cx.P Q) :=
  Holds.cond true hc (fun _ => h) (fun h => by cases h)
theorem Holds.condF {t : Nat} {x y : Code} (hc : lk t S.fr = some (.one (.b false))) (h : Holds cx S (y.wp cx.P Q)) : Holds cx S ((Code.cond (.tmp t) x y).wp cx.P Q) :=
  Holds.cond false hc (fun h => by cases h) (fun _ => h)
end rules

/-! ### Loops, by an index -/
section ix
variable {P : Program} {a : Act} {w : World} {Q : Exit → Act → World → Prop} {α : Type}
theorem wp_loop_ix {c : Code} (R : α → Act → World → Prop) (μ : α → Nat) (x : α) (h₀ : R x a w)
    (round : ∀ x a w, R x a w → c.wp P (Exit.then (fun a' w' => ∃ y, R y a' w' ∧ μ y < μ x) Q) a w) : (Code.loop c).wp P Q a w := by
  intro b k cs
  have key : ∀ n x a w, μ x = n → R x a w →
      ∃ e a' w', Q e a' w' ∧ Arrives P (lone (b.at a (.code c :: .inLoop c :: k)) cs w) b k cs e a' w' := by
    intro n
    induction n using Nat.strongRecOn with
    | _ n ih =>
      intro x a w hn hI
      obtain ⟨e, a₁, w₁, hq, harr⟩ := round x a w hI b (.inLoop c :: k) cs
      cases e with
      | normal =>
        obtain ⟨y, hI₁, hlt⟩ := hq
        obtain ⟨e₂, a₂, w₂, hq₂, harr₂⟩ := ih (μ y) (hn ▸ hlt) y a₁ w₁ rfl hI₁
        exact ⟨e₂, a₂, w₂, hq₂, .of_steps (Steps.trans harr (.one step_inLoop)) harr₂⟩
      | exit id => exact ⟨_, a₁, w₁, hq, .pass (x := .inLoop c) rfl (fun _ _ => .inl (by simp)) harr⟩
      | goto l => exact ⟨_, a₁, w₁, hq, .pass (x := .inLoop c) rfl (fun _ _ => .inl (by simp)) harr⟩
      | ret => exact ⟨_, a₁, w₁, hq, .pass (x := .inLoop c) rfl (fun _ _ => .inl (by simp)) harr⟩
      | panic ch => exact ⟨_, a₁, w₁, hq, .pass (x := .inLoop c) rfl (fun _ _ => .inl (by simp)) harr⟩
      | outgrown => exact ⟨_, a₁, w₁, hq, .pass (x := .inLoop c) rfl (fun _ _ => .inl (by simp)) harr⟩
  obtain ⟨e, a', w', hq, harr⟩ := key _ x a w rfl h₀
  exact ⟨e, a', w', hq, .of_steps (.one step_loop) harr⟩

theorem wp_scope_ix {c rest : Code} (l : Nat) (R : α → Act → World → Prop) (μ : α → Nat) (hf : findLabel c l = some rest)
    (first : c.wp P (Exit.jump l (fun a w => ∃ x, R x a w) Q) a w)
    (pass : ∀ x a w, R x a w → rest.wp P (Exit.jump l (fun a' w' => ∃ y, R y a' w' ∧ μ y < μ x) Q) a w) : (Code.scope c).wp P Q a w := by
  intro b k cs
  have hg : gotoIn l (.inScope c :: k) = some (.code rest :: .inScope c :: k) := by simp [gotoIn, hf]
  have key : ∀ n x a w, μ x = n → R x a w → ∃ e a' w', Q e a' w' ∧ Arrives P (lone (b.at a (.code rest :: .inScope c :: k)) cs w) b k cs e a' w' := by
    intro n
    induction n using Nat.strongRecOn with
    | _ n ih =>
      intro x a w hn hJ
      obtain ⟨e, a₁, w₁, hq, harr⟩ := pass x a w hJ b (.inScope c :: k) cs
      cases e with
      | normal => exact ⟨.normal, a₁, w₁, hq, Steps.trans harr (.one step_inScope)⟩
      | exit id => exact ⟨.exit id, a₁, w₁, hq, fun k' hk => harr k' (by simp [exitTo, hk])⟩
      | goto l' =>
        obtain ⟨rfl, y, hJ', hlt⟩ := hq
        obtain ⟨e₂, a₂, w₂, hq₂, harr₂⟩ := ih _ (by omega) y a₁ w₁ rfl hJ'
        exact ⟨e₂, a₂, w₂, hq₂, .of_steps (harr _ hg) harr₂⟩
      | ret => exact ⟨_, a₁, w₁, hq, harr⟩
      | panic ch => exact ⟨_, a₁, w₁, hq, harr⟩
      | outgrown => exact ⟨_, a₁, w₁, hq, harr⟩
  obtain ⟨e, a₁, w₁, hq, harr⟩ := first b (.inScope c :: k) cs
  cases e with
  | normal => exact ⟨.normal, a₁, w₁, hq, .head step_scope (Steps.trans harr (.one step_inScope))⟩
  | exit id => exact ⟨.exit id, a₁, w₁, hq, fun k' hk => .head step_scope (harr k' (by simp [exitTo, hk]))⟩
  | goto l' =>
    obtain ⟨rfl, x, hJ'⟩ := hq
    obtain ⟨e₂, a₂, w₂, hq₂, harr₂⟩ := key _ x a₁ w₁ rfl hJ'
    exact ⟨e₂, a₂, w₂, hq₂, .of_steps (.head step_scope (harr _ hg)) harr₂⟩
  | ret => exact ⟨_, a₁, w₁, hq, .of_steps (.one step_scope) harr⟩
  | panic ch => exact ⟨_, a₁, w₁, hq, .of_steps (.one step_scope) harr⟩
  | outgrown => exact ⟨_, a₁, w₁, hq, .of_steps (.one step_scope) harr⟩
end ix

/-! ### Forgetting, and renaming blocks -/
def rn (τ : List (Nat × Nat)) (id : Nat) : Nat := (lk id τ).getD id

def SV.ren (τ : List (Nat × Nat)) : SV → SV
  | .p id off => .p (rn τ id) off
  | .sg id off len => .sg (rn τ id) off len
  | .fn f caps => .fn f (caps.map (rn τ))
  | s => s
def Cs.ren (τ : List (Nat × Nat)) : Cs → Cs
  | .ints k xs => .ints k xs
  | .mix l => .mix (l.map (SV.ren τ))
def AV.ren (τ : List (Nat × Nat)) : AV → AV
  | .one s => .one (s.ren τ)
  | .row c => .row (c.ren τ)
  | .two a b => .two (a.ren τ) (b.ren τ)
def Bk.ren (τ : List (Nat × Nat)) : Bk → Bk
  | .own c => .own (c.ren τ)
  | .grw c => .grw (c.ren τ)
  | .dead => .dead

theorem SV.rel_ren {τ : List (Nat × Nat)} {ρ : Nat → Loc} {A : Nat → Prop} {w : World} {s : SV} {v : Value} (h : (s.ren τ).Rel ρ A w v) : s.Rel (fun id => ρ (rn τ id)) A w v := by
  cases s with
  | fn f caps =>
    simp only [SV.ren, SV.Rel, List.map_map] at h ⊢
    exact h
  | _ => exact h
theorem Cs.len_ren {τ : List (Nat × Nat)} {c : Cs} : (c.ren τ).len = c.len := by cases c <;> simp [Cs.ren, Cs.len]
theorem Cs.at_ren {τ : List (Nat × Nat)} {c : Cs} {j : Nat} (h : j < c.len) : (c.ren τ).at j = (c.at j).ren τ := by
  cases c with
  | ints k xs => rfl
  | mix l =>
    simp only [Cs.len] at h
    simp [Cs.ren, Cs.at, List.getD_eq_getElem?_getD, h]
theorem AV.rel_ren {τ : List (Nat × Nat)} {ρ : Nat → Loc} {A : Nat → Prop} {w : World} {x : AV} : ∀ {v : Value}, (x.ren τ).Rel ρ A w v → x.Rel (fun id => ρ (rn τ id)) A w v := by
  induction x with
  | one s => intro v h; exact SV.rel_ren h
  | row c =>
    rintro v ⟨cs, hv, hl, hc⟩
    rw [Cs.len_ren] at hl hc
    refine ⟨cs, hv, hl, fun j hj => ?_⟩
    obtain ⟨u, hu, hr⟩ := hc j hj
    rw [Cs.at_ren hj] at hr
    exact ⟨u, hu, SV.rel_ren hr⟩
  | two a b iha ihb =>
    rintro v ⟨x, y, hv, hx, hy⟩
    exact ⟨x, y, hv, iha hx, ihb hy⟩
theorem OwnB.ren {cx : Cx} {τ : List (Nat × Nat)} {ρ : Nat → Loc} {A : Nat → Prop} {w : World} {l : Loc} {c : Cs} (h : OwnB cx ρ A w l (c.ren τ)) : OwnB cx (fun id => ρ (rn τ id)) A w l c := by
  obtain ⟨h1, h2⟩ := h
  rw [Cs.len_ren] at h1 h2
  refine ⟨h1, h2.imp id ?_⟩
  rintro ⟨ho, ha, hO, hm, cs, T, fz, hh, hoff, hfz, hc⟩
  refine ⟨ho, ha, hO, hm, cs, T, fz, hh, hoff, hfz, fun j hj => ?_⟩
  obtain ⟨u, hu, hr⟩ := hc j hj
  rw [Cs.at_ren hj] at hr
  exact ⟨u, hu, SV.rel_ren hr⟩
theorem Bk.rel_ren {cx : Cx} {τ : List (Nat × Nat)} {ρ : Nat → Loc} {A : Nat → Prop} {w : World} {l : Loc} {b : Bk} (h : (b.ren τ).Rel cx ρ A w l) : b.Rel cx (fun id => ρ (rn τ id)) A w l := by
  cases b with
  | own c => exact OwnB.ren h
  | grw c =>
    rcases h with h | ⟨ho, hsz, h2⟩
    · exact .inl h.ren
    · refine .inr ⟨ho, by rw [hsz, Cs.len_ren], h2.imp id ?_⟩
      rintro ⟨ha, hlt, hc⟩
      rw [Cs.len_ren] at hc
      refine ⟨ha, hlt, fun j hj => ?_⟩
      obtain ⟨u, hu, hr⟩ := hc j hj
      rw [Cs.at_ren hj] at hr
      exact ⟨u, hu, SV.rel_ren hr⟩
  | dead => trivial
theorem Bk.live_ren {τ : List (Nat × Nat)} {b : Bk} : (b.ren τ).live = b.live := by cases b <;> rfl

def SubF (τ : List (Nat × Nat)) (S : Ls) : List (Nat × AV) → Prop
  | [] => True
  | (t, v) :: r => lk t S.fr = some (v.ren τ) ∧ SubF τ S r
def SubH (τ : List (Nat × Nat)) (S : Ls) : List (Nat × Bk) → Prop
  | [] => True
  | (i, b) :: r => lk (rn τ i) S.hp = some (b.ren τ) ∧ SubH τ S r
/-- T says no more than S, its block i being S's block 'rn τ i'. -/
structure Sub (cx : Cx) (τ : List (Nat × Nat)) (S T : Ls) : Prop where
  f : SubF τ S T.fr
  h : SubH τ S T.hp
  inj : (T.hp.all fun x => T.hp.all fun y => x.1 == y.1 || rn τ x.1 != rn τ y.1) = true
  e : (cx.E.all fun i => rn τ i == i) = true

theorem SubF.at {τ : List (Nat × Nat)} {S : Ls} : ∀ {l : List (Nat × AV)}, SubF τ S l → ∀ t v, lk t l = some v → lk t S.fr = some (v.ren τ)
  | [], _, t, v, h => by simp [lk] at h
  | (s, x) :: l, hl, t, v, h => by
    simp only [lk] at h
    split at h
    · rename_i he; cases h; subst he; exact hl.1
    · exact SubF.at hl.2 t v h
theorem SubH.at {τ : List (Nat × Nat)} {S : Ls} : ∀ {l : List (Nat × Bk)}, SubH τ S l → ∀ i b, lk i l = some b → lk (rn τ i) S.hp = some (b.ren τ)
  | [], _, t, v, h => by simp [lk] at h
  | (s, x) :: l, hl, t, v, h => by
    simp only [lk] at h
    split at h
    · rename_i he; cases h; subst he; exact hl.1
    · exact SubH.at hl.2 t v h

theorem Sub.rep {cx : Cx} {τ : List (Nat × Nat)} {S T : Ls} (h : Sub cx τ S T) {a : Act} {w : World} (hr : Rep cx S a w) : Rep cx T a w := by
  obtain ⟨ρ, A, hs⟩ := hr
  refine ⟨fun id => ρ (rn τ id), A, hs.df, hs.sz, fun t v hv => AV.rel_ren (hs.fr t _ (h.f.at t v hv)), fun i b hb => Bk.rel_ren (hs.hp _ _ (h.h.at i b hb)), ?_, hs.A1, hs.O, hs.fm, fun i hi => ?_⟩
  · intro i j bi bj hbi hbj li lj hne oi oj zi zj
    refine hs.sep _ _ _ _ (h.h.at i bi hbi) (h.h.at j bj hbj) (by rw [Bk.live_ren]; exact li) (by rw [Bk.live_ren]; exact lj) ?_ oi oj zi zj
    have := List.all_eq_true.1 (List.all_eq_true.1 h.inj _ (lk_mem hbi)) _ (lk_mem hbj)
    simpa [hne] using this
  · have := List.all_eq_true.1 h.e i hi
    have e : rn τ i = i := by simpa using this
    show ρ (rn τ i) = _
    rw [e]; exact hs.E i hi

theorem Holds.forget {cx : Cx} {S T : Ls} {G : Act → World → Prop} (τ : List (Nat × Nat)) (h : Sub cx τ S T) (hG : Holds cx T G) : Holds cx S G := by
  intro ρ A a w hs
  obtain ⟨ρ', A', hs'⟩ := h.rep ⟨ρ, A, hs⟩
  exact hG ρ' A' a w hs'

/-- A LOOP: 'I x' holds at every round's head; 'Ok x' is what is known of x; 'μ' goes down. -/
theorem Holds.loop {cx : Cx} {S : Ls} {Q : Exit → Act → World → Prop} {c : Code} {α : Type} (I : α → Ls) (Ok : α → Prop) (μ : α → Nat) (x : α) (h0 : Ok x) (τ : List (Nat × Nat)) (hs : Sub cx τ S (I x))
    (round : ∀ x, Ok x → Holds cx (I x) (c.wp cx.P (Exit.then (fun a w => ∃ y, (Ok y ∧ Rep cx (I y) a w) ∧ μ y < μ x) Q))) : Holds cx S ((Code.loop c).wp cx.P Q) := by
  intro ρ A a w hr
  refine wp_loop_ix (fun x a w => Ok x ∧ Rep cx (I x) a w) μ x ⟨h0, hs.rep ⟨ρ, A, hr⟩⟩ ?_
  rintro x a w ⟨hok, ρ, A, hr⟩
  exact round x hok ρ A a w hr

/-- The end of a round. -/
theorem Holds.again {cx : Cx} {S : Ls} {α : Type} {I : α → Ls} {Ok : α → Prop} {μ : α → Nat} {x : α} (y : α) (hok : Ok y) (hlt : μ y < μ x) (τ : List (Nat × Nat)) (h : Sub cx τ S (I y)) :
    Holds cx S (fun a w => ∃ y, (Ok y ∧ Rep cx (I y) a w) ∧ μ y < μ x) :=
  fun ρ A _ _ hs => ⟨y, ⟨hok, h.rep ⟨ρ, A, hs⟩⟩, hlt⟩

/-- A LABEL that is jumped back to. -/
theorem Holds.scope {cx : Cx} {S : Ls} {Q : Exit → Act → World → Prop} {c rest : Code} {α : Type} (l : Nat) (I : α → Ls) (Ok : α → Prop) (μ : α → Nat) (hf : findLabel c l = some rest)
    (pass : ∀ x, Ok x → Holds cx (I x) (rest.wp cx.P (Exit.jump l (fun a w => ∃ y, (Ok y ∧ Rep cx (I y) a w) ∧ μ y < μ x) Q)))
    (first : (∀ (S' : Ls) (x : α) (τ : List (Nat × Nat)), Ok x → Sub cx τ S' (I x) → Holds cx S' (rest.wp cx.P (Exit.jump l (fun a w => ∃ x, Ok x ∧ Rep cx (I x) a w) Q))) →
      Holds cx S (c.wp cx.P (Exit.jump l (fun a w => ∃ x, Ok x ∧ Rep cx (I x) a w) Q))) : Holds cx S ((Code.scope c).wp cx.P Q) := by
  intro ρ A a w hr
  refine wp_scope_ix l (fun x a w => Ok x ∧ Rep cx (I x) a w) μ hf ?_ ?_
  · refine first ?_ ρ A a w hr
    intro S' x τ hok hsub ρ' A' a' w' hs'
    obtain ⟨ρ2, A2, hs2⟩ := hsub.rep ⟨ρ', A', hs'⟩
    refine wp_mono (pass x hok ρ2 A2 a' w' hs2) ?_
    intro e a w hq
    cases e with
    | goto l' => obtain ⟨h1, y, h2, _⟩ := hq; exact ⟨h1, y, h2⟩
    | _ => exact hq
  · rintro x a w ⟨hok, ρ, A, hr⟩
    exact pass x hok ρ A a w hr

/-- At the jump. -/
theorem Holds.jump {cx : Cx} {S : Ls} {α : Type} {I : α → Ls} {Ok : α → Prop} {μ : α → Nat} {x : α} {l : Nat} {Q : Exit → Act → World → Prop} (y : α) (hok : Ok y) (hlt : μ y < μ x) (τ : List (Nat × Nat)) (h : Sub cx τ S (I y)) :
    Holds cx S (Exit.jump l (fun a w => ∃ y, (Ok y ∧ Rep cx (I y) a w) ∧ μ y < μ x) Q (.goto l)) :=
  fun ρ A _ _ hs => ⟨rfl, y, ⟨hok, h.rep ⟨ρ, A, hs⟩⟩, hlt⟩

/-! ### Ghosts -/
/-- A nil slice may be taken for one that grows. -/
theorem Holds.grow {cx : Cx} {S : Ls} {G : Act → World → Prop} (t d : Nat) (c : Cs) (hc : c.len = 0) (ht : lk t S.fr = some (.one .nil)) (hn : S.nomB cx.E d = true)
    (h : Holds cx ⟨(t, .one (.sg d 0 0)) :: S.fr, (d, .own c) :: S.hp⟩ G) : Holds cx S G := by
  intro ρ A a w hs
  have hd := Ls.nomB_spec hn
  refine h (fun i => if i = d then ⟨0, 0, 0, false⟩ else ρ i) A a w ⟨hs.df, hs.sz, ?_, ?_, ?_, hs.A1, hs.O, hs.fm, ?_⟩
  · intro s v hv
    simp only [Ls.F, lk] at hv
    split at hv
    · rename_i he
      subst he
      cases hv
      obtain ⟨b, hb⟩ := hs.fr s _ ht
      exact ⟨b, 0, hb, Nat.le_refl _, .inl rfl⟩
    · refine (hs.fr s v hv).mono (fun id hid => ?_) (fun _ _ _ => rfl) (Nat.le_refl _) (fun _ _ h => h)
      rw [if_neg]; rintro rfl; exact hd.f s v hv hid
  · intro i b hb
    simp only [Ls.H, lk] at hb
    split at hb
    · rename_i he
      subst he
      cases hb
      simp only [if_true]
      exact ⟨by simp [hc], .inl rfl⟩
    · rename_i he
      simp only [if_neg he]
      have := hs.hp i b hb
      refine this.mono (fun id hid => ?_) (fun _ _ _ => rfl) (Nat.le_refl _) (fun _ _ h => h) (fun _ _ _ => rfl) (fun hl ho hz => hs.liveA hb hl ho hz)
      rw [if_neg]; rintro rfl; exact hd.g i b hb hid
  · intro i j bi bj hbi hbj li lj hne oi oj zi zj
    by_cases h1 : i = d
    · simp [h1] at zi
    by_cases h2 : j = d
    · simp [h2] at zj
    have hbi' : S.H i = some bi := by simpa only [Ls.H, lk, if_neg h1] using hbi
    have hbj' : S.H j = some bj := by simpa only [Ls.H, lk, if_neg h2] using hbj
    simp only [h1, h2, if_false] at oi oj zi zj ⊢
    exact hs.sep i j bi bj hbi' hbj' li lj hne oi oj zi zj
  · intro i hi
    have : i ≠ d := by rintro rfl; exact hd.e hi
    simp only [this, if_false]
    exact hs.E i hi

/-- A block of integers of the call's own, or one that grows. -/
def Bk.intsOf : Bk → Option (IntKind × List Nat)
  | .own (.ints k xs) => some (k, xs)
  | .grw (.ints k xs) => some (k, xs)
  | _ => none

theorem Bk.live_intsOf {b : Bk} {k : IntKind} {xs : List Nat} (h : b.intsOf = some (k, xs)) : b.live := by
  cases b with
  | dead => simp [Bk.intsOf] at h
  | _ => trivial

/-- What a slice over such a block reads as, in the world as it stands. -/
theorem StRel.view {cx : Cx} {F : Nat → Option AV} {H : Nat → Option Bk} {a : Act} {w : World} {ρ : Nat → Loc} {A : Nat → Prop} (hs : StRel cx F H a w ρ A) {id off len : Nat} {b : Bk} {k : IntKind} {xs : List Nat}
    (hb : H id = some b) (hi : b.intsOf = some (k, xs)) (hl : off + len ≤ xs.length) {v : Value} (hv : (SV.sg id off len).Rel ρ A w v) (A' : Nat → Prop)
    (hA : (ρ id).size ≠ 0 → ¬ A' (ρ id).blk) : ImmB A' w false k ((xs.drop off).take len) v := by
  obtain ⟨ad, cap, hv, hcap, h0⟩ := hv
  have hlen : ((xs.drop off).take len).length = len := by simp; omega
  unfold ImmB Imm
  rw [hlen]
  refine ⟨ad, cap, hv, hcap, (fun h => nomatch h), ?_⟩
  rcases h0 with h0 | ⟨had, hsz⟩
  · exact .inl h0
  by_cases hc0 : cap = 0
  · exact .inl hc0
  refine .inr ?_
  have hz : (ρ id).size ≠ 0 := by omega
  have hcells : (ρ id).blk < w.heap.size ∧ ∀ j, j < xs.length → w.cell? ⟨(ρ id).blk, (ρ id).off + j, none⟩ = some (.int k (xs.getD j 0)) ∧ fits k (xs.getD j 0) := by
    have own : ∀ c : Cs, c = .ints k xs → OwnB cx ρ A w (ρ id) c → (ρ id).blk < w.heap.size ∧ ∀ j, j < xs.length → w.cell? ⟨(ρ id).blk, (ρ id).off + j, none⟩ = some (.int k (xs.getD j 0)) ∧ fits k (xs.getD j 0) := by
      rintro c rfl ⟨_, h2⟩
      rcases h2 with h2 | ⟨_, ha, _, _, cs, T, fz, hh, _, _, hcs⟩
      · exact absurd h2 hz
      · refine ⟨hs.A1 _ ha, fun j hj => ?_⟩
        obtain ⟨u, hu, hr⟩ := hcs j hj
        simp only [Cs.at, SV.Rel] at hr
        obtain ⟨rfl, hft⟩ := hr
        exact ⟨by simp only [World.cell?, hh, hu, Option.isSome_none, Bool.false_eq_true, if_false], hft⟩
    have hrel := hs.hp id b hb
    cases b with
    | own c =>
      cases c with
      | ints k' xs' => simp only [Bk.intsOf, Option.some.injEq, Prod.mk.injEq] at hi; obtain ⟨rfl, rfl⟩ := hi; exact own _ rfl hrel
      | mix l => simp [Bk.intsOf] at hi
    | grw c =>
      cases c with
      | ints k' xs' =>
        simp only [Bk.intsOf, Option.some.injEq, Prod.mk.injEq] at hi; obtain ⟨rfl, rfl⟩ := hi
        rcases hrel with hrel | ⟨_, hsz', h2⟩
        · exact own _ rfl hrel
        · rcases h2 with h2 | ⟨_, hlt, hcs⟩
          · exact absurd h2 hz
          · refine ⟨hlt, fun j hj => ?_⟩
            obtain ⟨u, hu, hr⟩ := hcs j hj
            simp only [Cs.at, SV.Rel] at hr
            rw [hu, hr.1]
            exact ⟨rfl, hr.2⟩
      | mix l => simp [Bk.intsOf] at hi
    | dead => simp [Bk.intsOf] at hi
  refine ⟨(ρ id).blk, (ρ id).off + off, had, hA hz, hcells.1, fun i hi' => ?_⟩
  obtain ⟨hcell, hft⟩ := hcells.2 (off + i) (by omega)
  refine ⟨_, by rw [Nat.add_assoc]; exact hcell, ?_⟩
  simp only [List.getD_eq_getElem?_getD, List.getElem?_take, List.getElem?_drop] at hft ⊢
  rw [if_pos hi']
  exact ⟨rfl, hft⟩

/-- A slice of the call's own is written no more: it is a value from here on. -/
theorem Holds.freeze {cx : Cx} {S : Ls} {G : Act → World → Prop} (t id : Nat) {off len : Nat} {b : Bk} {k : IntKind} {xs : List Nat} (ht : lk t S.fr = some (.one (.sg id off len)))
    (hb : lk id S.hp = some b) (hi : b.intsOf = some (k, xs)) (hl : off + len ≤ xs.length) (_hM : ∀ i, ¬ cx.M i)
    (h : Holds cx ⟨(t, .one (.bs false k ((xs.drop off).take len))) :: S.fr, (id, .dead) :: S.hp⟩ G) : Holds cx S G := by
  intro ρ A a w hs
  by_cases hz : (ρ id).own = true ∧ (ρ id).size ≠ 0
  · refine h ρ (fun i => A i ∧ i ≠ (ρ id).blk) a w ⟨hs.df, hs.sz, ?_, ?_, ?_, fun i hi => hs.A1 i hi.1, ?_, hs.fm, hs.E⟩
    · intro s v hv
      simp only [Ls.F, lk] at hv
      split at hv
      · rename_i he
        subst he
        cases hv
        exact hs.view hb hi hl (hs.fr s _ ht) _ (fun _ h => h.2 rfl)
      · exact (hs.fr s v hv).mono (fun _ _ => rfl) (fun _ _ _ => rfl) (Nat.le_refl _) (fun _ _ h => h.1)
    · intro i b' hb'
      simp only [Ls.H, lk] at hb'
      split at hb'
      · cases hb'; trivial
      · rename_i hne
        refine (hs.hp i b' hb').mono (fun _ _ => rfl) (fun _ _ _ => rfl) (Nat.le_refl _) (fun _ _ h => h.1) (fun _ _ _ => rfl) (fun hl' ho' hz' => ⟨hs.liveA hb' hl' ho' hz', ?_⟩)
        exact hs.sep i id b' b hb' hb hl' (Bk.live_intsOf hi) hne ho' hz.1 hz' hz.2
    · intro i j bi bj hbi hbj li lj hne oi oj zi zj
      have f : ∀ i b, lk i ((id, Bk.dead) :: S.hp) = some b → b.live → S.H i = some b := by
        intro i b hb hl
        simp only [lk] at hb
        split at hb
        · cases hb; exact hl.elim
        · exact hb
      exact hs.sep i j bi bj (f i bi hbi li) (f j bj hbj lj) li lj hne oi oj zi zj
    · intro i hi
      refine ⟨hs.O i hi, ?_⟩
      rintro rfl
      have hrel := hs.hp id b hb
      have own : ∀ c, OwnB cx ρ A w (ρ id) c → False := fun c hc => by
        rcases hc.2 with h2 | h2
        · exact hz.2 h2
        · exact h2.2.2.1 hi
      cases b with
      | own c => exact own c hrel
      | grw c =>
        rcases hrel with hrel | ⟨ho, _⟩
        · exact own c hrel
        · rw [hz.1] at ho; cases ho
      | dead => simp [Bk.intsOf] at hi
  · refine h ρ A a w ⟨hs.df, hs.sz, ?_, ?_, ?_, hs.A1, hs.O, hs.fm, hs.E⟩
    · intro s v hv
      simp only [Ls.F, lk] at hv
      split at hv
      · rename_i he
        subst he
        cases hv
        refine hs.view hb hi hl (hs.fr s _ ht) _ (fun hz' => ?_)
        have ho : (ρ id).own = false := by
          cases ho : (ρ id).own with
          | false => rfl
          | true => exact absurd ⟨ho, hz'⟩ hz
        have hrel := hs.hp id b hb
        have own : ∀ c, OwnB cx ρ A w (ρ id) c → False := fun c hc => by
          rcases hc.2 with h2 | h2
          · exact hz' h2
          · rw [ho] at h2; cases h2.1
        cases b with
        | own c => exact (own c hrel).elim
        | grw c =>
          rcases hrel with hrel | ⟨_, _, h2⟩
          · exact (own c hrel).elim
          · rcases h2 with h2 | h2
            · exact absurd h2 hz'
            · exact h2.1
        | dead => simp [Bk.intsOf] at hi
      · exact hs.fr s v hv
    · intro i b' hb'
      simp only [Ls.H, lk] at hb'
      split at hb'
      · cases hb'; trivial
      · exact hs.hp i b' hb'
    · intro i j bi bj hbi hbj li lj hne oi oj zi zj
      have f : ∀ i b, lk i ((id, Bk.dead) :: S.hp) = some b → b.live → S.H i = some b := by
        intro i b hb hl
        simp only [lk] at hb
        split at hb
        · cases hb; exact hl.elim
        · exact hb
      exact hs.sep i j bi bj (f i bi hbi li) (f j bj hbj lj) li lj hne oi oj zi zj

end Go.Fx
