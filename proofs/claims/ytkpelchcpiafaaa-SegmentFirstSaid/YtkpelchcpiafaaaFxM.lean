/-
  FxM: operations that make memory, and that write it.
-/
import Derived.Test.YtkpelchcpiafaaaFxG
namespace Go.Fx
set_option linter.unusedVariables false
set_option linter.unusedSimpArgs false
open Go.RowKit (Below)

/-! ### How a state goes on -/
theorem ovr_nil (H : Nat → Option Bk) : ovr [] H = H := rfl
theorem ovr_cons (d : Nat) (b : Bk) (r : List (Nat × Bk)) (H : Nat → Option Bk) : ovr ((d, b) :: r) H = upd (ovr r H) d b := by
  funext i
  by_cases h : i = d <;> simp [ovr, lk, upd, h]

/-- A world with one block more. -/
structure Pushed (w w' : World) (o : Obj) : Prop where
  heap : w'.heap = w.heap.push o
  os : w'.os = w.os
  tape : w'.tape = w.tape
  output : w'.output = w.output

theorem Pushed.below {w w' : World} {o : Obj} (h : Pushed w w' o) : Below w.heap.size w w' :=
  ⟨h.os, h.tape, h.output, by rw [h.heap]; simp, fun b hb => by rw [h.heap, Array.getElem?_push]; rw [if_neg (by omega)]⟩

theorem StRel.alloc {cx : Cx} {F : Nat → Option AV} {H : Nat → Option Bk} {a : Act} {w w' : World} {ρ : Nat → Loc} {A : Nat → Prop} (hs : StRel cx F H a w ρ A) {d : Nat} (hn : Nom cx d F H) {cs : Array Value} {T : TypeId} {fz : Nat × Nat}
    (hp : Pushed w w' (.cells cs T fz)) (hfz : Unfrozen fz cs.size) {c : Cs} (hc : c.len ≤ cs.size) (hrel : ∀ j, j < c.len → ∃ u, cs[j]? = some u ∧ (c.at j).Rel ρ A w u) (hid : d ∉ c.ids) {bk : Bk} (hbk : bk = .own c ∨ bk = .grw c) :
    StRel cx F (upd H d bk) a w' (upd' ρ d ⟨w.heap.size, 0, cs.size, true⟩) (fun b => A b ∨ b = w.heap.size) := by
  have hs' := hs.below hp.below
  have hsz : w'.heap.size = w.heap.size + 1 := by rw [hp.heap]; simp
  have hOf : ∀ b, cx.O b → b < w.heap.size := fun b hb => hs.A1 b (hs.O b hb)
  have hρ : ∀ i, i ≠ d → upd' ρ d ⟨w.heap.size, 0, cs.size, true⟩ i = ρ i := fun i hi => by simp [upd', hi]
  have mono : ∀ {x : AV} {v : Value}, d ∉ x.ids → x.Rel ρ A w v → x.Rel (upd' ρ d ⟨w.heap.size, 0, cs.size, true⟩) (fun b => A b ∨ b = w.heap.size) w' v := by
    intro x v hx h
    refine h.mono (fun id hi => hρ id (fun e => hx (e ▸ hi))) (fun b hb _ => hp.below.block b hb) hp.below.size (fun b hb h => ?_)
    rcases h with h | h
    · exact h
    · omega
  have monoS : ∀ {x : SV} {v : Value}, d ∉ x.ids → x.Rel ρ A w v → x.Rel (upd' ρ d ⟨w.heap.size, 0, cs.size, true⟩) (fun b => A b ∨ b = w.heap.size) w' v := by
    intro x v hx h
    exact mono (x := .one x) hx h
  refine ⟨hs.df, hs.sz, fun t v hv => mono (hn.f t v hv) (hs.fr t v hv), ?_, ?_, ?_, fun b hb => .inl (hs.O b hb), hs'.fm, ?_⟩
  · intro i b hb
    simp only [upd] at hb
    split at hb
    · rename_i he
      subst he
      cases hb
      have hown : OwnB cx (upd' ρ i ⟨w.heap.size, 0, cs.size, true⟩) (fun b => A b ∨ b = w.heap.size) w' (upd' ρ i ⟨w.heap.size, 0, cs.size, true⟩ i) c := by
        simp only [upd', if_true]
        refine ⟨hc, ?_⟩
        by_cases hz : cs.size = 0
        · exact .inl hz
        refine .inr ⟨rfl, .inr rfl, fun h => Nat.lt_irrefl _ (hOf _ h), .inl hs.fm.size, cs, T, fz, by rw [hp.heap]; simp, by simp, hfz, fun j hj => ?_⟩
        obtain ⟨u, hu, hr⟩ := hrel j hj
        exact ⟨u, by simpa using hu, monoS (fun h => hid (Cs.ids_at hj h)) hr⟩
      rcases hbk with rfl | rfl
      · exact hown
      · exact .inl hown
    · rename_i hne
      rw [hρ i hne]
      refine (hs.hp i b hb).mono (fun id hi => hρ id (fun e => hn.g i b hb (e ▸ hi))) (fun b hb _ => hp.below.block b hb) hp.below.size (fun b hb h => ?_) ?_ ?_
      · rcases h with h | h
        · exact h
        · omega
      · intro hl ho hz
        exact hp.below.block _ (hs.A1 _ (hs.liveA hb hl ho hz))
      · intro hl ho hz
        exact .inl (hs.liveA hb hl ho hz)
  · intro i j bi bj hbi hbj li lj hne oi oj zi zj
    simp only [upd] at hbi hbj
    by_cases h1 : i = d
    · have h2 : j ≠ d := fun h => hne (h1.trans h.symm)
      rw [if_neg h2] at hbj
      subst h1
      rw [hρ j h2] at oj zj ⊢
      have := hs.A1 _ (hs.liveA hbj lj oj zj)
      simp only [upd', if_true]
      omega
    · rw [if_neg h1] at hbi
      rw [hρ i h1] at oi zi ⊢
      by_cases h2 : j = d
      · subst h2
        have := hs.A1 _ (hs.liveA hbi li oi zi)
        simp only [upd', if_true]
        omega
      · rw [if_neg h2] at hbj
        rw [hρ j h2] at oj zj ⊢
        exact hs.sep i j bi bj hbi hbj li lj hne oi oj zi zj
  · intro b hb
    rcases hb with hb | hb
    · have := hs.A1 b hb; omega
    · omega
  · intro i hi
    have : i ≠ d := fun e => hn.e (e ▸ hi)
    rw [hρ i this]; exact hs.E i hi

theorem StRel.kill {cx : Cx} {F : Nat → Option AV} {H : Nat → Option Bk} {a : Act} {w : World} {ρ : Nat → Loc} {A : Nat → Prop} (hs : StRel cx F H a w ρ A) (id : Nat) : StRel cx F (upd H id .dead) a w ρ A := by
  refine ⟨hs.df, hs.sz, hs.fr, ?_, ?_, hs.A1, hs.O, hs.fm, hs.E⟩
  · intro i b hb
    simp only [upd] at hb
    split at hb
    · cases hb; trivial
    · exact hs.hp i b hb
  · intro i j bi bj hbi hbj li lj
    have f : ∀ i b, upd H id Bk.dead i = some b → b.live → H i = some b := by
      intro i b hb hl
      simp only [upd] at hb
      split at hb
      · cases hb; exact hl.elim
      · exact hb
    exact hs.sep i j bi bj (f i bi hbi li) (f j bj hbj lj) li lj

/-- A block of the call's own is written. -/
theorem StRel.writeF {cx : Cx} {F : Nat → Option AV} {H : Nat → Option Bk} {a : Act} {w w' : World} {ρ : Nat → Loc} {A : Nat → Prop} (hs : StRel cx F H a w ρ A) {id : Nat} {b : Bk} (hb : H id = some b) (hl : b.live) (ho : (ρ id).own = true) (hz : (ρ id).size ≠ 0)
    {cs cs' : Array Value} {T : TypeId} {fz fz' : Nat × Nat} (hfz' : Unfrozen fz cs.size → Unfrozen fz' cs.size) (hh : w.heap[(ρ id).blk]? = some (.cells cs T fz)) (hsz : cs'.size = cs.size) (hw : w' = { w with heap := w.heap.setIfInBounds (ρ id).blk (.cells cs' T fz') })
    {c' : Cs} (hc : c'.len ≤ (ρ id).size) (hrel : ∀ j, j < c'.len → ∃ u, cs'[(ρ id).off + j]? = some u ∧ (c'.at j).Rel ρ A w u) {bk : Bk} (hbk : bk = .own c' ∨ bk = .grw c') : StRel cx F (upd H id bk) a w' ρ A := by
  subst hw
  have hown0 : ¬ cx.O (ρ id).blk ∧ (cx.w0.heap.size ≤ (ρ id).blk ∨ cx.M (ρ id).blk) ∧ ∃ cs T fz, w.heap[(ρ id).blk]? = some (.cells cs T fz) ∧ (ρ id).off + (ρ id).size ≤ cs.size ∧ Unfrozen fz cs.size := by
    have own : ∀ c, OwnB cx ρ A w (ρ id) c → ¬ cx.O (ρ id).blk ∧ (cx.w0.heap.size ≤ (ρ id).blk ∨ cx.M (ρ id).blk) ∧ ∃ cs T fz, w.heap[(ρ id).blk]? = some (.cells cs T fz) ∧ (ρ id).off + (ρ id).size ≤ cs.size ∧ Unfrozen fz cs.size := fun c hc => by
      rcases hc.2 with h2 | ⟨_, _, h3, h4, cs, T, fz, h5, h6, h7, _⟩
      · exact absurd h2 hz
      · exact ⟨h3, h4, cs, T, fz, h5, h6, h7⟩
    have hrel := hs.hp id b hb
    cases b with
    | own c => exact own c hrel
    | grw c =>
      rcases hrel with hrel | ⟨ho', _⟩
      · exact own c hrel
      · rw [ho] at ho'; cases ho'
    | dead => exact hl.elim
  obtain ⟨hnO, hM, cs0, T0, fz0, hh0, hoff, hfz⟩ := hown0
  rw [hh] at hh0
  simp only [Option.some.injEq, Obj.cells.injEq] at hh0
  obtain ⟨rfl, rfl, rfl⟩ := hh0
  have hAb : A (ρ id).blk := hs.liveA hb hl ho hz
  have hlt := hs.A1 _ hAb
  have keep : ∀ b', b' ≠ (ρ id).blk → (w.heap.setIfInBounds (ρ id).blk (.cells cs' T fz'))[b']? = w.heap[b']? := fun b' hne => Array.getElem?_setIfInBounds_ne (Ne.symm hne)
  have keepA : ∀ b', b' < w.heap.size → ¬ A b' → (w.heap.setIfInBounds (ρ id).blk (.cells cs' T fz'))[b']? = w.heap[b']? := fun b' _ hA => keep b' (fun e => hA (e ▸ hAb))
  have hsize : w.heap.size ≤ (w.heap.setIfInBounds (ρ id).blk (.cells cs' T fz')).size := by simp
  refine ⟨hs.df, hs.sz, fun t v hv => (hs.fr t v hv).mono (fun _ _ => rfl) keepA hsize (fun _ _ h => h), ?_, ?_, fun b hb => Nat.lt_of_lt_of_le (hs.A1 b hb) hsize, hs.O, ?_, hs.E⟩
  · intro i b' hb'
    simp only [upd] at hb'
    split at hb'
    · rename_i he
      subst he
      cases hb'
      have hown : OwnB cx ρ A { w with heap := w.heap.setIfInBounds (ρ i).blk (.cells cs' T fz') } (ρ i) c' := by
        refine ⟨hc, .inr ⟨ho, hAb, hnO, hM, cs', T, fz', ?_, by omega, by rw [hsz]; exact hfz' hfz, fun j hj => ?_⟩⟩
        · simp only [Array.getElem?_setIfInBounds, if_true, if_pos hlt]
        · obtain ⟨u, hu, hr⟩ := hrel j hj
          exact ⟨u, hu, hr.mono (fun _ _ => rfl) keepA hsize (fun _ _ h => h)⟩
      rcases hbk with rfl | rfl
      · exact hown
      · exact .inl hown
    · rename_i hne
      refine (hs.hp i b' hb').mono (fun _ _ => rfl) keepA hsize (fun _ _ h => h) ?_ (fun hl' ho' hz' => hs.liveA hb' hl' ho' hz')
      intro hl' ho' hz'
      exact keep _ (hs.sep i id b' b hb' hb hl' hl hne ho' ho hz' hz)
  · intro i j bi bj hbi hbj li lj hne oi oj zi zj
    have f : ∀ i b', upd H id bk i = some b' → ∃ b'', H i = some b'' ∧ (b'.live → b''.live) := by
      intro i b' hb'
      simp only [upd] at hb'
      split at hb'
      · rename_i he; subst he; exact ⟨b, hb, fun _ => hl⟩
      · exact ⟨b', hb', fun h => h⟩
    obtain ⟨bi', hbi', fi⟩ := f i bi hbi
    obtain ⟨bj', hbj', fj⟩ := f j bj hbj
    exact hs.sep i j bi' bj' hbi' hbj' (fi li) (fj lj) hne oi oj zi zj
  · refine ⟨hs.fm.os, hs.fm.tape, hs.fm.output, Nat.le_trans hs.fm.size hsize, fun b' hlt' hM' => ?_⟩
    refine (keep b' ?_).trans (hs.fm.block b' hlt' hM')
    rintro rfl
    rcases hM with h | h
    · omega
    · exact hM' h

/-- ... and keeps what is frozen. -/
theorem StRel.write {cx : Cx} {F : Nat → Option AV} {H : Nat → Option Bk} {a : Act} {w w' : World} {ρ : Nat → Loc} {A : Nat → Prop} (hs : StRel cx F H a w ρ A) {id : Nat} {b : Bk} (hb : H id = some b) (hl : b.live) (ho : (ρ id).own = true) (hz : (ρ id).size ≠ 0)
    {cs cs' : Array Value} {T : TypeId} {fz : Nat × Nat} (hh : w.heap[(ρ id).blk]? = some (.cells cs T fz)) (hsz : cs'.size = cs.size) (hw : w' = { w with heap := w.heap.setIfInBounds (ρ id).blk (.cells cs' T fz) })
    {c' : Cs} (hc : c'.len ≤ (ρ id).size) (hrel : ∀ j, j < c'.len → ∃ u, cs'[(ρ id).off + j]? = some u ∧ (c'.at j).Rel ρ A w u) {bk : Bk} (hbk : bk = .own c' ∨ bk = .grw c') : StRel cx F (upd H id bk) a w' ρ A :=
  hs.writeF hb hl ho hz (fz' := fz) (fun h => h) hh hsz hw hc hrel hbk

/-- A block's rest is handed on under another name. -/
theorem StRel.move {cx : Cx} {F : Nat → Option AV} {H : Nat → Option Bk} {a : Act} {w : World} {ρ : Nat → Loc} {A : Nat → Prop} (hs : StRel cx F H a w ρ A) {id d off : Nat} {c c' : Cs} (hb : H id = some (.own c)) (hn : Nom cx d F H) (hoff : off ≤ c.len) (hclen : c'.len = c.len - off) (hat : ∀ j, j < c'.len → c'.at j = c.at (off + j)) :
    StRel cx F (upd (upd H id .dead) d (.own c')) a w (upd' ρ d ⟨(ρ id).blk, (ρ id).off + off, (ρ id).size - off, (ρ id).own⟩) A := by
  have hdid : d ≠ id := fun e => by rw [e] at hn; rw [hn.h] at hb; cases hb
  have hρ : ∀ i, i ≠ d → upd' ρ d ⟨(ρ id).blk, (ρ id).off + off, (ρ id).size - off, (ρ id).own⟩ i = ρ i := fun i hi => by simp [upd', hi]
  have f : ∀ i b', upd (upd H id Bk.dead) d (.own c') i = some b' → b'.live → i = d ∨ (i ≠ d ∧ i ≠ id ∧ H i = some b') := by
    intro i b' hb' hl
    simp only [upd] at hb'
    split at hb'
    · rename_i he; exact .inl he
    · rename_i h1
      split at hb'
      · cases hb'; exact hl.elim
      · rename_i h2; exact .inr ⟨h1, h2, hb'⟩
  refine ⟨hs.df, hs.sz, fun t v hv => (hs.fr t v hv).mono (fun i hi => hρ i (fun e => hn.f t v hv (e ▸ hi))) (fun _ _ _ => rfl) (Nat.le_refl _) (fun _ _ h => h), ?_, ?_, hs.A1, hs.O, hs.fm, ?_⟩
  · intro i b' hb'
    simp only [upd] at hb'
    split at hb'
    · rename_i he
      subst he
      cases hb'
      have hnc : ∀ j, j < c.len → ∀ k ∈ (c.at j).ids, k ≠ i := fun j hj k hk e => hn.g id _ hb (by rw [← e]; exact Cs.ids_at hj hk)
      simp only [upd', if_true]
      obtain ⟨h1, h2⟩ := hs.hp id _ hb
      refine ⟨by rw [hclen]; show c.len - off ≤ (ρ id).size - off; omega, ?_⟩
      rcases h2 with h2 | ⟨ho, ha, hO, hM, cs, T, fz, hh, hof, hfz, hc⟩
      · exact .inl (by show (ρ id).size - off = 0; omega)
      · refine .inr ⟨ho, ha, hO, hM, cs, T, fz, hh, by show (ρ id).off + off + ((ρ id).size - off) ≤ cs.size; omega, hfz, fun j hj => ?_⟩
        rw [hclen] at hj
        obtain ⟨u, hu, hr⟩ := hc (off + j) (by omega)
        refine ⟨u, by show cs[(ρ id).off + off + j]? = some u; rw [Nat.add_assoc]; exact hu, ?_⟩
        rw [hat _ (by omega)]
        exact hr.mono (fun k hk => hρ k (hnc _ (by omega) k hk)) (fun _ _ _ => rfl) (Nat.le_refl _) (fun _ _ h => h)
    · rename_i h1
      split at hb'
      · cases hb'; trivial
      · rw [hρ i h1]
        exact (hs.hp i b' hb').mono (fun k hk => hρ k (fun e => hn.g i b' hb' (e ▸ hk))) (fun _ _ _ => rfl) (Nat.le_refl _) (fun _ _ h => h) (fun _ _ _ => rfl) (fun hl' ho' hz' => hs.liveA hb' hl' ho' hz')
  · intro i j bi bj hbi hbj li lj hne oi oj zi zj
    rcases f i bi hbi li with rfl | ⟨i1, i2, hi⟩
    · rcases f j bj hbj lj with rfl | ⟨j1, j2, hj⟩
      · exact absurd rfl hne
      · rw [hρ j j1] at oj zj ⊢
        simp only [upd', if_true] at oi zi ⊢
        exact hs.sep id j _ bj hb hj trivial lj (Ne.symm j2) oi oj (by omega) zj
    · rw [hρ i i1] at oi zi ⊢
      rcases f j bj hbj lj with rfl | ⟨j1, j2, hj⟩
      · simp only [upd', if_true] at oj zj ⊢
        exact hs.sep i id bi _ hi hb li trivial i2 oi oj zi (by omega)
      · rw [hρ j j1] at oj zj ⊢
        exact hs.sep i j bi bj hi hj li lj hne oi oj zi zj
  · intro i hi
    have : i ≠ d := fun e => hn.e (e ▸ hi)
    rw [hρ i this]; exact hs.E i hi

end Go.Fx
