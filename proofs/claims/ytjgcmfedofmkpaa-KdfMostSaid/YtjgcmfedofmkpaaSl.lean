/-
  Rules: a call that writes into blocks of its caller's and hands back a slice that nobody writes; no slice as no bytes.
-/
import Derived.Test.YtjgcmfedofmkpaaSk
namespace Go.Proofs.Ytjgcmfedofmkpaa
open Go Go.Fx
open Go.RowKit (Below)
set_option linter.unusedVariables false
set_option linter.unusedSimpArgs false
section
variable {cx : Cx} {ops : Array Oper} {o : Oper} {F : Nat → Option AV} {H : Nat → Option Bk}
theorem Y.callUI {f : Nat} {x : Operand} {xs : List Operand} {ats : Array TypeId} {vs : List AV} {ids : List Nat} {res : AV} {E E' : List (Nat × Cs)} (hc : UC cx.P f (vs ++ ptrs ids) E res E') (hf : FnOK cx.P f) (hu : Up cx ops F o)
    (ho : o.op = .call { callee := .value x, args := xs.toArray, argTypes := ats }) (hx : evF F x = some (.one (.fn f ids))) (he : EvL F xs vs) (hE : OwnL H E) (hE' : E'.map (·.1) = E.map (·.1)) (_hnd : (E.map (·.1)).Nodup) (hp : res.ids = []) :
    Doing cx ops o F H ⟨res, E'.map (fun x => (x.1, Bk.own x.2)), []⟩ := by
  intro F' H' hF hH _ ρ A a w hst K Q hK
  have hst0 := hst.sub hF hH
  unfold StepOp
  rw [if_pos (hu.wanted hst0)]
  have hxr := ev_rel hst0 hx
  simp only [AV.Rel, SV.Rel] at hxr
  have real : ∀ y ∈ E, (ρ y.1).own = true ∧ (ρ y.1).size ≠ 0 ∧ A (ρ y.1).blk ∧ ¬ cx.O (ρ y.1).blk ∧ (cx.w0.heap.size ≤ (ρ y.1).blk ∨ cx.M (ρ y.1).blk) ∧ y.2.len ≤ (ρ y.1).size ∧ ∃ cs T fz, w.heap[(ρ y.1).blk]? = some (.cells cs T fz) ∧ (ρ y.1).off + (ρ y.1).size ≤ cs.size ∧ Unfrozen fz cs.size ∧
      ∀ j, j < y.2.len → ∃ u, cs[(ρ y.1).off + j]? = some u ∧ (y.2.at j).Rel ρ A w u := by
    intro y hy
    obtain ⟨h1, h2⟩ := hE y hy
    obtain ⟨h3, h4⟩ := hst0.hp _ _ h1
    rcases h4 with h4 | ⟨g1, g2, g3, g4, g5⟩
    · omega
    · exact ⟨g1, by omega, g2, g3, g4, h3, g5⟩
  let O' : Nat → Prop := fun b => A b ∧ ∀ y ∈ E, (ρ y.1).blk ≠ b
  have hAeq : ∀ b, (O' b ∨ ∃ y ∈ E, (ρ y.1).blk = b) → A b := by
    rintro b (h | ⟨y, hy, rfl⟩)
    · exact h.1
    · exact (real y hy).2.2.1
  have hAeq' : ∀ b, A b → (O' b ∨ ∃ y ∈ E, (ρ y.1).blk = b) := by
    intro b hb
    by_cases h : ∃ y ∈ E, (ρ y.1).blk = b
    · exact .inr h
    · exact .inl ⟨hb, fun y hy e => h ⟨y, hy, e⟩⟩
  have hcall := hc ρ O' w (xs.map a.eval ++ ids.map fun id => Value.pointer (some ⟨(ρ id).blk, (ρ id).off, none⟩)) (fun b hb => hst.A1 b hb.1)
    (fun y hy => by
      obtain ⟨g1, g2, g3, g4, g5, g6, cs, T, fz, g7, g8, g9, g10⟩ := real y hy
      refine ⟨g1, g2, fun h => h.2 y hy rfl, g6, cs, T, fz, g7, g8, g9, fun j hj => ?_⟩
      obtain ⟨u, hu', hr⟩ := g10 j hj
      exact ⟨u, hu', hr.mono (fun _ _ => rfl) (fun _ _ _ => rfl) (Nat.le_refl _) (fun b _ h => hAeq b h)⟩)
    (fun y hy z hz hne => by
      obtain ⟨g1, g2, _⟩ := real y hy
      obtain ⟨k1, k2, _⟩ := real z hz
      exact hst0.sep _ _ _ _ (hE y hy).1 (hE z hz).1 trivial trivial hne g1 k1 g2 k2)
    (relL_append (relL_ev hst0 hAeq he) (relL_ptrs ids))
  unfold Oper.wp
  rw [run_call hf ho hxr]
  simp only [Oper.upon]
  rw [show (xs.map a.eval ++ ids.map fun id => Value.pointer (some ⟨(ρ id).blk, (ρ id).off, none⟩)).toArray = (xs.map a.eval).toArray ++ (ids.map fun id => Value.pointer (some ⟨(ρ id).blk, (ρ id).off, none⟩)).toArray by simp] at hcall
  refine hcall.mono ?_
  rintro e w' ⟨r, rfl, hr, hfm, hE2⟩
  refine hK r w' ρ A ?_
  have keep : ∀ b, b < w.heap.size → (∀ y ∈ E, (ρ y.1).blk ≠ b) → w'.heap[b]? = w.heap[b]? := fun b hb h => hfm.block b hb (fun ⟨y, hy, e⟩ => h y hy e)
  have keepA : ∀ b, b < w.heap.size → ¬ A b → w'.heap[b]? = w.heap[b]? := fun b hb h => keep b hb fun y hy e => h (e ▸ (real y hy).2.2.1)
  have mem : ∀ i c, (i, c) ∈ E' → ∃ c0, (i, c0) ∈ E := by
    intro i c h
    have : i ∈ E'.map (·.1) := List.mem_map.2 ⟨_, h, rfl⟩
    rw [hE'] at this
    obtain ⟨⟨_, c0⟩, hy, rfl⟩ := List.mem_map.1 this
    exact ⟨c0, hy⟩
  have look : ∀ i b, ovr (E'.map fun x => (x.1, Bk.own x.2)) H' i = some b → (∃ c c0, (i, c) ∈ E' ∧ (i, c0) ∈ E ∧ b = .own c) ∨ ((∀ y ∈ E, y.1 ≠ i) ∧ H' i = some b) := by
    intro i b hb
    unfold ovr at hb
    split at hb
    · rename_i b' hb'
      cases hb
      obtain ⟨c, hc, rfl⟩ := lk_map_mem hb'
      obtain ⟨c0, hc0⟩ := mem i c hc
      exact .inl ⟨c, c0, hc, hc0, rfl⟩
    · rename_i hnone
      refine .inr ⟨fun y hy e => ?_, hb⟩
      subst e
      have : y.1 ∈ E'.map (·.1) := by rw [hE']; exact List.mem_map.2 ⟨_, hy, rfl⟩
      obtain ⟨x', hx', he'⟩ := List.mem_map.1 this
      have : ∀ (l : List (Nat × Cs)), x' ∈ l → lk x'.1 (l.map fun x => (x.1, Bk.own x.2)) ≠ none := by
        intro l
        induction l with
        | nil => intro h; cases h
        | cons z l ih =>
          intro h
          simp only [List.map_cons, lk]
          split
          · simp
          · rename_i hne
            rcases List.mem_cons.1 h with h | h
            · subst h; exact absurd rfl hne
            · exact ih h
      exact this E' hx' (he' ▸ hnone)
  refine StRel.put (F := F') ⟨hst.df, hst.sz, fun t v hv => (hst.fr t v hv).mono (fun _ _ => rfl) keepA hfm.size (fun _ _ h => h), ?_, ?_, fun b hb => Nat.lt_of_lt_of_le (hst.A1 b hb) hfm.size, hst.O, ?_, hst.E⟩ hu.d (hr.mono (fun _ _ => rfl) (fun _ _ _ => rfl) (Nat.le_refl _) (fun b _ h => hAeq' b h))
  · intro i b hb
    rcases look i b hb with ⟨c, c0, hc, hc0, rfl⟩ | ⟨hne, hb'⟩
    · obtain ⟨cs, T, fz, g1, g2, g3, g4, g5⟩ := hE2 (i, c) hc
      obtain ⟨k1, k2, k3, k4, k5, _⟩ := real (i, c0) hc0
      refine ⟨g4, .inr ⟨k1, k3, k4, k5, cs, T, fz, g1, g2, g3, fun j hj => ?_⟩⟩
      obtain ⟨u, hu', hr'⟩ := g5 j hj
      exact ⟨u, hu', hr'.mono (fun _ _ => rfl) (fun _ _ _ => rfl) (Nat.le_refl _) (fun b _ h => hAeq' b h)⟩
    · refine (hst.hp i b hb').mono (fun _ _ => rfl) keepA hfm.size (fun _ _ h => h) ?_ (fun hl ho' hz => hst.liveA hb' hl ho' hz)
      intro hl ho' hz
      refine keep _ (hst.A1 _ (hst.liveA hb' hl ho' hz)) fun y hy => ?_
      obtain ⟨k1, k2, _⟩ := real y hy
      exact hst.sep _ _ _ _ (hH _ _ (hE y hy).1) hb' trivial hl (hne y hy) k1 ho' k2 hz
  · intro i j bi bj hbi hbj li lj hne oi oj zi zj
    have f : ∀ i b, ovr (E'.map fun x => (x.1, Bk.own x.2)) H' i = some b → b.live → ∃ b', H' i = some b' ∧ b'.live := by
      intro i b hb hl
      rcases look i b hb with ⟨c, c0, _, hc0, rfl⟩ | ⟨_, hb'⟩
      · exact ⟨_, hH _ _ (hE _ hc0).1, trivial⟩
      · exact ⟨b, hb', hl⟩
    obtain ⟨bi', hbi', li'⟩ := f i bi hbi li
    obtain ⟨bj', hbj', lj'⟩ := f j bj hbj lj
    exact hst.sep i j bi' bj' hbi' hbj' li' lj' hne oi oj zi zj
  · refine ⟨hfm.os.trans hst.fm.os, hfm.tape.trans hst.fm.tape, hfm.output.trans hst.fm.output, Nat.le_trans hst.fm.size hfm.size, fun b hb hM => ?_⟩
    refine (keep b (Nat.lt_of_lt_of_le hb hst.fm.size) fun y hy e => ?_).trans (hst.fm.block b hb hM)
    obtain ⟨_, _, _, _, k5, _⟩ := real y hy
    rcases k5 with k5 | k5
    · omega
    · exact hM (e ▸ k5)

end
section
variable {P : Program} {fn : Func} {nt : Nat} {w0 : World} {O : Nat → Prop} {S : Ls} {e : Exit}
theorem Holds.retUI {ρ : Nat → Go.Fx.Loc} {E E' : List (Nat × Cs)} {res : AV} (he : e = .ret ∨ e = .normal) (hres : ∀ a w ρ' A, StRel (cxU P nt w0 O ρ E) S.F S.H a w ρ' A → ∃ v, (results fn a.tmps).run P w = .ok v w ∧ res.Rel ρ' A w v) (hp : res.ids = [])
    (hE : E'.map (·.1) = E.map (·.1)) (hb : ∀ x ∈ E', lk x.1 S.hp = some (.own x.2) ∧ x.2.len ≠ 0 ∧ (x.2.ids.all fun i => (E.map (·.1)).contains i) = true) :
    Holds (cxU P nt w0 O ρ E) S (bodyPost P fn (fun e w' => ∃ r, e = .returned r ∧
      res.Rel ρ (fun b => O b ∨ ∃ x ∈ E, (ρ x.1).blk = b) w' r ∧ FrameOK (fun b => ∃ x ∈ E, (ρ x.1).blk = b) w0 w' ∧
      (∀ x ∈ E', ∃ cs T fz, w'.heap[(ρ x.1).blk]? = some (.cells cs T fz) ∧ (ρ x.1).off + (ρ x.1).size ≤ cs.size ∧ Unfrozen fz cs.size ∧ x.2.len ≤ (ρ x.1).size ∧
        ∀ j, j < x.2.len → ∃ u, cs[(ρ x.1).off + j]? = some u ∧ (x.2.at j).Rel ρ (fun b => O b ∨ ∃ y ∈ E, (ρ y.1).blk = b) w' u)) e) := by
  intro ρ' A a w hs
  obtain ⟨v, h1, h2⟩ := hres a w ρ' A hs
  have hEe : ∀ i ∈ E.map (·.1), ρ' i = ρ i := hs.E
  have real : ∀ x ∈ E', x.1 ∈ E.map (·.1) ∧ x.2.len ≤ (ρ' x.1).size ∧ A (ρ' x.1).blk ∧ ∃ cs T fz, w.heap[(ρ' x.1).blk]? = some (.cells cs T fz) ∧ (ρ' x.1).off + (ρ' x.1).size ≤ cs.size ∧ Unfrozen fz cs.size ∧
      ∀ j, j < x.2.len → ∃ u, cs[(ρ' x.1).off + j]? = some u ∧ (x.2.at j).Rel ρ' A w u := by
    intro x hx
    obtain ⟨g1, g2, _⟩ := hb x hx
    obtain ⟨g3, g4⟩ := hs.hp _ _ g1
    have hm : x.1 ∈ E.map (·.1) := by rw [← hE]; exact List.mem_map.2 ⟨x, hx, rfl⟩
    rcases g4 with g4 | ⟨k1, k2, k3, k4, k5⟩
    · omega
    · exact ⟨hm, g3, k2, k5⟩
  have inA : ∀ b, (O b ∨ ∃ x ∈ E, (ρ x.1).blk = b) → A b := by
    rintro b (hO | ⟨y, hy, rfl⟩)
    · exact hs.O b hO
    · have hy' : y.1 ∈ E'.map (·.1) := by rw [hE]; exact List.mem_map.2 ⟨y, hy, rfl⟩
      obtain ⟨z, hz, hzy⟩ := List.mem_map.1 hy'
      obtain ⟨hm', _, hA, _⟩ := real z hz
      rw [hzy, hEe _ (hzy ▸ hm')] at hA
      exact hA
  refine bodyPost_of he hs.df h1 ⟨v, rfl, h2.mono (fun i hi => by rw [hp] at hi; cases hi) (fun _ _ _ => rfl) (Nat.le_refl _) (fun b _ h => inA b h), hs.fm, fun x hx => ?_⟩
  obtain ⟨hm, g1, _, cs, T, fz, g2, g3, g4, g5⟩ := real x hx
  rw [hEe _ hm] at g1 g2 g3 g5
  refine ⟨cs, T, fz, g2, g3, g4, g1, fun j hj => ?_⟩
  obtain ⟨u, hu, hr⟩ := g5 j hj
  refine ⟨u, hu, hr.mono (fun i hi => ?_) (fun _ _ _ => rfl) (Nat.le_refl _) ?_⟩
  · have := List.all_eq_true.1 (hb x hx).2.2 i (Cs.ids_at hj hi)
    exact (hEe i (by simpa using this)).symm
  · rintro b _ (hO | ⟨y, hy, rfl⟩)
    · exact hs.O b hO
    · have hy' : y.1 ∈ E'.map (·.1) := by rw [hE]; exact List.mem_map.2 ⟨y, hy, rfl⟩
      obtain ⟨z, hz, hzy⟩ := List.mem_map.1 hy'
      obtain ⟨hm', _, hA, _⟩ := real z hz
      rw [hzy, hEe _ (hzy ▸ hm')] at hA
      exact hA
end
theorem UC.rensI {P : Program} {f : Nat} {args : List AV} {res : AV} {E E' : List (Nat × Cs)} (τ : List (Nat × Nat)) (h : UC P f args E res E') (hc : ∀ x ∈ E, x.2.ids = []) (hc' : ∀ x ∈ E', x.2.ids = []) (hres : res.ids = [])
    (hne : ∀ x ∈ E, ∀ y ∈ E, x.1 ≠ y.1 → rn τ x.1 ≠ rn τ y.1) : UC P f (args.map (AV.ren τ)) (E.map fun x => (rn τ x.1, x.2)) res (E'.map fun x => (rn τ x.1, x.2)) := by
  intro ρ O w vs hO hE hsep hr
  have noid : ∀ {c : Cs} {j : Nat}, c.ids = [] → j < c.len → ∀ i ∈ (c.at j).ids, ρ i = ρ (rn τ i) := by
    intro c j h hj i hi
    have := Cs.ids_at hj hi
    rw [h] at this; cases this
  have hA : ∀ b, (O b ∨ ∃ x ∈ E, (ρ (rn τ x.1)).blk = b) ↔ (O b ∨ ∃ x ∈ E.map (fun x => (rn τ x.1, x.2)), (ρ x.1).blk = b) := by
    intro b
    simp only [List.mem_map]
    constructor
    · rintro (k | ⟨x, hx, k⟩)
      · exact .inl k
      · exact .inr ⟨_, ⟨x, hx, rfl⟩, k⟩
    · rintro (k | ⟨_, ⟨x, hx, rfl⟩, k⟩)
      · exact .inl k
      · exact .inr ⟨x, hx, k⟩
  have hl : RelL (fun i => ρ (rn τ i)) (fun b => O b ∨ ∃ x ∈ E, (ρ (rn τ x.1)).blk = b) w args vs := by
    have key : ∀ (al : List AV) (vs : List Value), RelL ρ (fun b => O b ∨ ∃ x ∈ E.map (fun x => (rn τ x.1, x.2)), (ρ x.1).blk = b) w (al.map (AV.ren τ)) vs → RelL (fun i => ρ (rn τ i)) (fun b => O b ∨ ∃ x ∈ E, (ρ (rn τ x.1)).blk = b) w al vs := by
      intro al
      induction al with
      | nil => intro vs h; cases vs <;> exact h
      | cons a al ih =>
        intro vs h
        cases vs with
        | nil => exact h.elim
        | cons v vs => exact ⟨(AV.ren_rel' h.1).mono (fun _ _ => rfl) (fun _ _ _ => rfl) (Nat.le_refl _) (fun b _ hb => (hA b).1 hb), ih vs h.2⟩
    exact key args vs hr
  refine (h (fun i => ρ (rn τ i)) O w vs hO ?_ ?_ hl).mono ?_
  · intro x hx
    obtain ⟨h1, h2, h3, h4, cs, T, fz, h5, h6, h7, h8⟩ := hE (rn τ x.1, x.2) (List.mem_map.2 ⟨x, hx, rfl⟩)
    refine ⟨h1, h2, h3, h4, cs, T, fz, h5, h6, h7, fun j hj => ?_⟩
    obtain ⟨u, hu, hr⟩ := h8 j hj
    exact ⟨u, hu, hr.mono (fun i hi => (noid (hc x hx) hj i hi).symm) (fun _ _ _ => rfl) (Nat.le_refl _) (fun b _ hb => (hA b).1 hb)⟩
  · intro x hx y hy hxy
    exact hsep (rn τ x.1, x.2) (List.mem_map.2 ⟨x, hx, rfl⟩) (rn τ y.1, y.2) (List.mem_map.2 ⟨y, hy, rfl⟩) (hne x hx y hy hxy)
  · rintro e w' ⟨r, he, hr, hf, hE'⟩
    refine ⟨r, he, hr.mono (fun i hi => by rw [hres] at hi; cases hi) (fun _ _ _ => rfl) (Nat.le_refl _) (fun b _ hb => (hA b).2 hb), ⟨hf.os, hf.tape, hf.output, hf.size, fun b hb hM => hf.block b hb fun ⟨x, hx, hx'⟩ => hM ⟨_, List.mem_map.2 ⟨x, hx, rfl⟩, hx'⟩⟩, fun x hx => ?_⟩
    obtain ⟨y, hy, rfl⟩ := List.mem_map.1 hx
    obtain ⟨cs, T, fz, h1, h2, h3, h4, h5⟩ := hE' y hy
    refine ⟨cs, T, fz, h1, h2, h3, h4, fun j hj => ?_⟩
    obtain ⟨u, hu, hr⟩ := h5 j hj
    exact ⟨u, hu, hr.mono (fun i hi => noid (hc' y hy) hj i hi) (fun _ _ _ => rfl) (Nat.le_refl _) (fun b _ hb => (hA b).2 hb)⟩
theorem Holds.nilV {cx : Cx} {S : Ls} {G : Act → World → Prop} (t : Nat) (ht : lk t S.fr = some (.one .nil)) (h : Holds cx ⟨(t, .one (.bs false .u8 [])) :: S.fr, S.hp⟩ G) : Holds cx S G := by
  intro ρ A a w hs
  refine h ρ A a w ⟨hs.df, hs.sz, ?_, hs.hp, hs.sep, hs.A1, hs.O, hs.fm, hs.E⟩
  intro s v hv
  simp only [Ls.F, lk] at hv
  split at hv
  · rename_i he
    subst he
    cases hv
    obtain ⟨x, hx⟩ : ∃ x, a.tmps.getD s undef = .slice x 0 0 := hs.fr s _ ht
    exact ⟨x, 0, hx, Nat.le_refl _, fun _ => rfl, .inl rfl⟩
  · exact hs.fr s v hv
theorem Holds.cellNil {cx : Cx} {S : Ls} {G : Act → World → Prop} (d : Nat) (hb : lk d S.hp = some (.own (.mix [.nil]))) (h : Holds cx ⟨S.fr, (d, .own (.mix [.bs false .u8 []])) :: S.hp⟩ G) : Holds cx S G := by
  intro ρ A a w hs
  have look : ∀ i b, lk i ((d, Bk.own (.mix [.bs false .u8 []])) :: S.hp) = some b → (i = d ∧ b = .own (.mix [.bs false .u8 []])) ∨ S.H i = some b := by
    intro i b hi
    simp only [lk] at hi
    split at hi
    · rename_i he; cases hi; exact .inl ⟨he, rfl⟩
    · exact .inr hi
  have live : ∀ i b, lk i ((d, Bk.own (.mix [.bs false .u8 []])) :: S.hp) = some b → b.live → ∃ b', S.H i = some b' ∧ b'.live := by
    intro i b hi hl
    rcases look i b hi with ⟨rfl, rfl⟩ | h'
    · exact ⟨_, hb, trivial⟩
    · exact ⟨_, h', hl⟩
  refine h ρ A a w ⟨hs.df, hs.sz, hs.fr, ?_, ?_, hs.A1, hs.O, hs.fm, hs.E⟩
  · intro i b hi
    rcases look i b hi with ⟨rfl, rfl⟩ | h'
    · obtain ⟨g1, g2⟩ := hs.hp _ _ hb
      refine ⟨g1, ?_⟩
      rcases g2 with g2 | ⟨k1, k2, k3, k4, cs, T, fz, k5, k6, k7, k8⟩
      · exact .inl g2
      · refine .inr ⟨k1, k2, k3, k4, cs, T, fz, k5, k6, k7, fun j hj => ?_⟩
        obtain ⟨u, hu, hr⟩ := k8 j hj
        obtain rfl : j = 0 := by simp only [Cs.len, List.length_singleton] at hj; omega
        obtain ⟨x, hx⟩ : ∃ x, u = .slice x 0 0 := hr
        exact ⟨u, hu, ⟨x, 0, hx, Nat.le_refl _, fun _ => rfl, .inl rfl⟩⟩
    · exact hs.hp _ _ h'
  · intro i j bi bj hi hj li lj hne
    obtain ⟨bi', hi', li'⟩ := live i bi hi li
    obtain ⟨bj', hj', lj'⟩ := live j bj hj lj
    exact hs.sep i j bi' bj' hi' hj' li' lj' hne
theorem mbEq {xs ys : List Nat} (h : xs = ys) {τ : List (Nat × Nat)} : some (Bk.own (.mix [.bs false .u8 xs])) = some (Bk.ren τ (.own (.mix [.bs false .u8 ys]))) := by rw [h]; rfl
end Go.Proofs.Ytjgcmfedofmkpaa
