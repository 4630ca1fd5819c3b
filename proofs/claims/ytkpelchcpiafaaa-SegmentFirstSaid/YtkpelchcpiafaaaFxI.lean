/-
  FxI: what a call has made, and writes no more, is seen as what nobody writes.
-/
import Derived.Test.YtkpelchcpiafaaaFxH
namespace Go.Fx
set_option linter.unusedVariables false
set_option linter.unusedSimpArgs false
theorem Holds.freezeV {cx : Cx} {S : Ls} {G : Act → World → Prop} (t id : Nat) {x : AV} {y : SV} {c : Cs} (ht : lk t S.fr = some x) (hb : lk id S.hp = some (.own c)) (hv : View (fun i => if i = id then some (.own c) else none) x (.one y))
    (h : Holds cx ⟨(t, .one y) :: S.fr, (id, .dead) :: S.hp⟩ G) : Holds cx S G := by
  intro ρ A a w hs
  have hsub : ∀ i b, (if i = id then some (Bk.own c) else none) = some b → S.H i = some b := by
    intro i b hi
    split at hi
    · rename_i he; subst he; cases hi; exact hb
    · cases hi
  have hs' := hs.sub (F' := S.F) (H' := fun i => if i = id then some (.own c) else none) (fun _ _ h => h) hsub
  by_cases hz : (ρ id).own = true ∧ (ρ id).size ≠ 0
  · refine h ρ (fun i => A i ∧ i ≠ (ρ id).blk) a w ⟨hs.df, hs.sz, ?_, ?_, ?_, fun i hi => hs.A1 i hi.1, ?_, hs.fm, hs.E⟩
    · intro s v hv'
      simp only [Ls.F, lk] at hv'
      split at hv'
      · rename_i he
        subst he
        cases hv'
        refine View.rel hs' (A' := fun i => A i ∧ i ≠ (ρ id).blk) (fun _ h => h.1) (fun i b hi _ _ _ hA => ?_) hv (hs.fr s _ ht)
        split at hi
        · rename_i he; subst he; exact hA.2 rfl
        · cases hi
      · exact (hs.fr s v hv').mono (fun _ _ => rfl) (fun _ _ _ => rfl) (Nat.le_refl _) (fun _ _ h => h.1)
    · intro i b' hb'
      simp only [Ls.H, lk] at hb'
      split at hb'
      · cases hb'; trivial
      · rename_i hne
        refine (hs.hp i b' hb').mono (fun _ _ => rfl) (fun _ _ _ => rfl) (Nat.le_refl _) (fun _ _ h => h.1) (fun _ _ _ => rfl) (fun hl' ho' hz' => ⟨hs.liveA hb' hl' ho' hz', ?_⟩)
        exact hs.sep i id b' _ hb' hb hl' trivial hne ho' hz.1 hz' hz.2
    · intro i j bi bj hbi hbj li lj hne oi oj zi zj
      have f : ∀ i b, lk i ((id, Bk.dead) :: S.hp) = some b → b.live → S.H i = some b := by
        intro i b hb hl
        simp only [lk] at hb
        split at hb
        · cases hb; exact hl.elim
        · exact hb
      exact hs.sep i j bi bj (f i bi hbi li) (f j bj hbj lj) li lj hne oi oj zi zj
    · intro i hi
      refine ⟨hs.O i hi, ?_⟩
      rintro rfl
      rcases (hs.hp id _ hb).2 with h2 | h2
      · exact hz.2 h2
      · exact h2.2.2.1 hi
  · refine h ρ A a w ⟨hs.df, hs.sz, ?_, ?_, ?_, hs.A1, hs.O, hs.fm, hs.E⟩
    · intro s v hv'
      simp only [Ls.F, lk] at hv'
      split at hv'
      · rename_i he
        subst he
        cases hv'
        refine View.rel hs' (A' := A) (fun _ h => h) (fun i b hi _ ho hz' => ?_) hv (hs.fr s _ ht)
        split at hi
        · rename_i he; subst he; exact absurd ⟨ho, hz'⟩ hz
        · cases hi
      · exact hs.fr s v hv'
    · intro i b' hb'
      simp only [Ls.H, lk] at hb'
      split at hb'
      · cases hb'; trivial
      · exact hs.hp i b' hb'
    · intro i j bi bj hbi hbj li lj hne oi oj zi zj
      have f : ∀ i b, lk i ((id, Bk.dead) :: S.hp) = some b → b.live → S.H i = some b := by
        intro i b hb hl
        simp only [lk] at hb
        split at hb
        · cases hb; exact hl.elim
        · exact hb
      exact hs.sep i j bi bj (f i bi hbi li) (f j bj hbj lj) li lj hne oi oj zi zj
theorem OpsFrom.freezeV {cx : Cx} {fr : List (Nat × AV)} {hp : List (Nat × Bk)} {ops rest : List Oper} {i : Nat} {Q : Exit → Act → World → Prop} (t id : Nat) {x : AV} {y : SV} {c : Cs} (ht : lk t fr = some x) (hb : lk id hp = some (.own c)) (hv : View (fun i => if i = id then some (.own c) else none) x (.one y))
    (h : OpsFrom cx ⟨(t, .one y) :: fr, (id, .dead) :: hp⟩ ops i rest Q) : OpsFrom cx ⟨fr, hp⟩ ops i rest Q :=
  fun hr => Holds.freezeV (S := ⟨fr, hp⟩) t id ht hb hv (h hr)
theorem App.mL2 {xss : List (List Nat)} {z z' : List Nat} : App (.mix (xss.map fun xs => .bs false .u8 xs)) (.mix [.bs false .u8 z, .bs false .u8 z']) (.mix ((xss ++ [z, z']).map fun xs => .bs false .u8 xs)) := by
  rw [List.map_append]; exact App.m
/-- A block of the call's own is given up. -/
theorem StRel.giveUp {cx : Cx} {F : Nat → Option AV} {H : Nat → Option Bk} {a : Act} {w : World} {ρ : Nat → Loc} {A : Nat → Prop} (hs : StRel cx F H a w ρ A) {id : Nat} {c : Cs} (hb : H id = some (.own c)) :
    StRel cx F (upd H id .dead) a w ρ (fun i => A i ∧ ¬ ((ρ id).own = true ∧ (ρ id).size ≠ 0 ∧ i = (ρ id).blk)) := by
  refine ⟨hs.df, hs.sz, fun t v hv => (hs.fr t v hv).mono (fun _ _ => rfl) (fun _ _ _ => rfl) (Nat.le_refl _) (fun _ _ h => h.1), ?_, ?_, fun i hi => hs.A1 i hi.1, ?_, hs.fm, hs.E⟩
  · intro i b' hb'
    simp only [upd] at hb'
    split at hb'
    · cases hb'; trivial
    · rename_i hne
      refine (hs.hp i b' hb').mono (fun _ _ => rfl) (fun _ _ _ => rfl) (Nat.le_refl _) (fun _ _ h => h.1) (fun _ _ _ => rfl) (fun hl' ho' hz' => ⟨hs.liveA hb' hl' ho' hz', ?_⟩)
      rintro ⟨h1, h2, h3⟩
      exact hs.sep i id b' _ hb' hb hl' trivial hne ho' h1 hz' h2 h3
  · intro i j bi bj hbi hbj li lj hne oi oj zi zj
    have f : ∀ i b, upd H id .dead i = some b → b.live → H i = some b := by
      intro i b hb hl
      simp only [upd] at hb
      split at hb
      · cases hb; exact hl.elim
      · exact hb
    exact hs.sep i j bi bj (f i bi hbi li) (f j bj hbj lj) li lj hne oi oj zi zj
  · intro i hi
    refine ⟨hs.O i hi, ?_⟩
    rintro ⟨h1, h2, rfl⟩
    rcases (hs.hp id _ hb).2 with h3 | h3
    · exact h2 h3
    · exact h3.2.2.1 hi
section
variable {cx : Cx} {ops : Array Oper} {o : Oper} {F : Nat → Option AV} {H : Nat → Option Bk}
/-- ... whose answer may bear slices: a block that goes in is given up. -/
theorem Y.callK {f id : Nat} {c : Cs} {x : Operand} {xs : List Operand} {ats : Array TypeId} {us : List AV} {res : AV} (hc : VC cx.P f us res) (hf : FnOK cx.P f) (hu : Up cx ops F o) (ho : o.op = .call { callee := .value x, args := xs.toArray, argTypes := ats }) (hx : evF F x = some (.one (.fn f [])))
    {vs : List AV} (he : EvL F xs vs) (hb : H id = some (.own c)) (hv : ViewL (fun i => if i = id then some (.own c) else none) vs us) (hid : us.all (fun u => u.ids.isEmpty) = true) (hp : res.ids = []) : Doing cx ops o F H ⟨res, [(id, .dead)], []⟩ := by
  intro F' H' hF hH _ ρ A a w hst K Q hK
  have hst0 := hst.sub hF hH
  unfold StepOp
  rw [if_pos (hu.wanted hst0)]
  have hxr := ev_rel hst0 hx
  simp only [AV.Rel, SV.Rel, List.map_nil] at hxr
  have hst1 : StRel cx F (fun i => if i = id then some (.own c) else none) a w ρ A := hst0.sub (fun _ _ h => h) (fun i b h => by
    split at h
    · rename_i he; subst he; cases h; exact hb
    · cases h)
  have hst2 := hst.giveUp (hH _ _ hb)
  have hrl := relL_view hst1 (A' := fun i => A i ∧ ¬ ((ρ id).own = true ∧ (ρ id).size ≠ 0 ∧ i = (ρ id).blk)) (fun _ h => h.1) (fun i b h _ ho hz hA => by
    split at h
    · rename_i he; subst he; exact hA.2 ⟨ho, hz, rfl⟩
    · cases h) he hv (fun u hu => by simpa using List.all_eq_true.1 hid u hu)
  unfold Oper.wp
  rw [run_call hf ho hxr]
  simp only [Oper.upon, Array.append_empty]
  refine (hc _ w _ hst2.A1 hrl).mono ?_
  rintro e w' ⟨r, rfl, hr, hb'⟩
  refine hK r w' ρ (fun i => A i ∧ ¬ ((ρ id).own = true ∧ (ρ id).size ≠ 0 ∧ i = (ρ id).blk)) ?_
  rw [ovr_cons, ovr_nil]
  exact (hst2.below hb').put hu.d (hr.mono (fun i hi => by rw [hp] at hi; cases hi) (fun _ _ _ => rfl) (Nat.le_refl _) (fun _ _ h => h))
end
end Go.Fx
