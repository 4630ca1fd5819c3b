/-
  FxR: the return of a call that writes into its caller's blocks, and of one that hands back a slice of its own.
-/
import Derived.Test.YtkpelchcpiafaaaFxQ
namespace Go.Fx
open Go.RowKit (Below)

theorem AV.ren_rel' {τ : List (Nat × Nat)} {ρ : Nat → Loc} {A : Nat → Prop} {w : World} {x : AV} : ∀ {v : Value}, (x.ren τ).Rel ρ A w v → x.Rel (fun id => ρ (rn τ id)) A w v := by
  have sv : ∀ {s : SV} {v : Value}, (s.ren τ).Rel ρ A w v → s.Rel (fun id => ρ (rn τ id)) A w v := by
    intro s v h
    cases s with
    | fn f caps => simp only [SV.ren, SV.Rel, List.map_map] at h ⊢; exact h
    | _ => exact h
  induction x with
  | one s => intro v h; exact sv h
  | row c =>
    rintro v ⟨cs, hv, hl, hc⟩
    rw [Cs.len_ren] at hl
    refine ⟨cs, hv, hl, fun j hj => ?_⟩
    obtain ⟨u, hu, hr⟩ := hc j (by rw [Cs.len_ren]; exact hj)
    rw [Cs.at_ren hj] at hr
    exact ⟨u, hu, sv hr⟩
  | two a b iha ihb =>
    rintro v ⟨x, y, hv, hx, hy⟩
    exact ⟨x, y, hv, iha hx, ihb hy⟩

/-- The results as a list. -/
inductive ResL (P : Program) (S : Ls) : List ResultVar → AV → Prop
  | none : ResL P S [] (.one .u)
  | one (r : ResultVar) (x : AV) : ResIs P S r x → ResL P S [r] x
  | two (r s : ResultVar) (x y : AV) : ResIs P S r x → ResIs P S s y → ResL P S [r, s] (.two x y)

theorem ResL.run {cx : Cx} {S : Ls} {fn : Func} {a : Act} {w : World} {ρ : Nat → Loc} {A : Nat → Prop} (hs : StRel cx S.F S.H a w ρ A) {rs : List ResultVar} (hf : fn.results = rs.toArray) {x : AV} (h : ResL cx.P S rs x) :
    ∃ v, (results fn a.tmps).run cx.P w = .ok v w ∧ x.Rel ρ A w v := by
  cases h with
  | none => exact ⟨_, results_none hf, rfl⟩
  | one r x hr =>
    obtain ⟨v, h1, h2⟩ := ResIs.run hs hr
    exact ⟨v, results_one hf h1, h2⟩
  | two r s x y hr hr' =>
    obtain ⟨v, h1, h2⟩ := ResIs.run hs hr
    obtain ⟨v', h1', h2'⟩ := ResIs.run hs hr'
    exact ⟨_, results_two hf h1 h1', _, _, rfl, h2, h2'⟩

section
variable {P : Program} {fn : Func} {nt : Nat} {w0 : World} {O : Nat → Prop} {S : Ls} {e : Exit}

theorem Holds.retF {rs : List ResultVar} {x res : AV} {id : Nat} {k : IntKind} {xs : List Nat} (he : e = .ret ∨ e = .normal) (hf : fn.results = rs.toArray) (hr : ResL P S rs x) (hx : res.ren [(0, id)] = x) (hid : res.ids.all (· == 0) = true) (hb : lk id S.hp = some (.own (.ints k xs))) :
    Holds (cxV P nt w0 O) S (bodyPost P fn (fun e w' => ∃ r l, e = .returned r ∧ res.Rel (fun _ => l) O w' r ∧ Below w0.heap.size w0 w' ∧ FreshB w0.heap.size w' l k xs) e) := by
  intro ρ A a w hs
  obtain ⟨v, h1, h2⟩ := hr.run hs hf
  subst hx
  refine bodyPost_of he hs.df h1 ⟨v, ρ id, rfl, ?_, hs.fm.below, ?_⟩
  · refine (AV.ren_rel' h2).mono (fun i hi => ?_) (fun _ _ _ => rfl) (Nat.le_refl _) (fun b _ h => hs.O b h)
    have : i = 0 := by simpa using List.all_eq_true.1 hid i hi
    subst this
    simp [rn, lk]
  · obtain ⟨g1, g2⟩ := hs.hp id _ hb
    refine ⟨g1, ?_⟩
    rcases g2 with g2 | ⟨k1, k2, k3, k4, cs, T, fz, k5, k6, k7, k8⟩
    · exact .inl g2
    · refine .inr ⟨k1, ?_, hs.A1 _ k2, cs, T, fz, k5, k6, k7, fun j hj => ?_⟩
      · rcases k4 with k4 | k4
        · exact k4
        · exact k4.elim
      · obtain ⟨u, hu, hr⟩ := k8 j hj
        simp only [Cs.at, SV.Rel] at hr
        rw [hu, hr.1]
        exact ⟨rfl, hr.2⟩

theorem Holds.retU {ρ : Nat → Loc} {E E' : List (Nat × Cs)} {res : AV} (he : e = .ret ∨ e = .normal) (hres : ∀ a w ρ' A, StRel (cxU P nt w0 O ρ E) S.F S.H a w ρ' A → ∃ v, (results fn a.tmps).run P w = .ok v w ∧ res.Rel ρ' A w v) (hp : res.pure = true)
    (hE : E'.map (·.1) = E.map (·.1)) (hb : ∀ x ∈ E', lk x.1 S.hp = some (.own x.2) ∧ x.2.len ≠ 0 ∧ (x.2.ids.all fun i => (E.map (·.1)).contains i) = true) :
    Holds (cxU P nt w0 O ρ E) S (bodyPost P fn (fun e w' => ∃ r, e = .returned r ∧
      res.Rel ρ (fun b => O b ∨ ∃ x ∈ E, (ρ x.1).blk = b) w' r ∧ FrameOK (fun b => ∃ x ∈ E, (ρ x.1).blk = b) w0 w' ∧
      (∀ x ∈ E', ∃ cs T fz, w'.heap[(ρ x.1).blk]? = some (.cells cs T fz) ∧ (ρ x.1).off + (ρ x.1).size ≤ cs.size ∧ Unfrozen fz cs.size ∧ x.2.len ≤ (ρ x.1).size ∧
        ∀ j, j < x.2.len → ∃ u, cs[(ρ x.1).off + j]? = some u ∧ (x.2.at j).Rel ρ (fun b => O b ∨ ∃ y ∈ E, (ρ y.1).blk = b) w' u)) e) := by
  intro ρ' A a w hs
  obtain ⟨v, h1, h2⟩ := hres a w ρ' A hs
  have hEe : ∀ i ∈ E.map (·.1), ρ' i = ρ i := hs.E
  have real : ∀ x ∈ E', x.1 ∈ E.map (·.1) ∧ x.2.len ≤ (ρ' x.1).size ∧ A (ρ' x.1).blk ∧ ∃ cs T fz, w.heap[(ρ' x.1).blk]? = some (.cells cs T fz) ∧ (ρ' x.1).off + (ρ' x.1).size ≤ cs.size ∧ Unfrozen fz cs.size ∧
      ∀ j, j < x.2.len → ∃ u, cs[(ρ' x.1).off + j]? = some u ∧ (x.2.at j).Rel ρ' A w u := by
    intro x hx
    obtain ⟨g1, g2, _⟩ := hb x hx
    obtain ⟨g3, g4⟩ := hs.hp _ _ g1
    have hm : x.1 ∈ E.map (·.1) := by rw [← hE]; exact List.mem_map.2 ⟨x, hx, rfl⟩
    rcases g4 with g4 | ⟨k1, k2, k3, k4, k5⟩
    · omega
    · exact ⟨hm, g3, k2, k5⟩
  refine bodyPost_of he hs.df h1 ⟨v, rfl, AV.pure_rel hp h2, hs.fm, fun x hx => ?_⟩
  obtain ⟨hm, g1, _, cs, T, fz, g2, g3, g4, g5⟩ := real x hx
  rw [hEe _ hm] at g1 g2 g3 g5
  refine ⟨cs, T, fz, g2, g3, g4, g1, fun j hj => ?_⟩
  obtain ⟨u, hu, hr⟩ := g5 j hj
  refine ⟨u, hu, hr.mono (fun i hi => ?_) (fun _ _ _ => rfl) (Nat.le_refl _) ?_⟩
  · have := List.all_eq_true.1 (hb x hx).2.2 i (Cs.ids_at hj hi)
    exact (hEe i (by simpa using this)).symm
  · rintro b _ (hO | ⟨y, hy, rfl⟩)
    · exact hs.O b hO
    · have hy' : y.1 ∈ E'.map (·.1) := by rw [hE]; exact List.mem_map.2 ⟨y, hy, rfl⟩
      obtain ⟨z, hz, hzy⟩ := List.mem_map.1 hy'
      obtain ⟨hm', _, hA, _⟩ := real z hz
      rw [hzy, hEe _ (hzy ▸ hm')] at hA
      exact hA
end
end Go.Fx
