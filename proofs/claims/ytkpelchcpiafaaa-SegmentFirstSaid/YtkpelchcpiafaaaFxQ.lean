/-
  FxQ: calls that write into their caller's blocks, and calls that hand back a slice of their own.
-/
import Derived.Test.YtkpelchcpiafaaaFxP
namespace Go.Fx
open Go.RowKit (Below)

section
variable {cx : Cx} {ops : Array Oper} {o : Oper} {F : Nat → Option AV} {H : Nat → Option Bk}

def ptrs (ids : List Nat) : List AV := ids.map fun id => .one (.p id 0)

theorem relL_ev {a : Act} {w : World} {ρ : Nat → Loc} {A A' : Nat → Prop} (hs : StRel cx F H a w ρ A) (hA : ∀ b, A' b → A b) {xs : List Operand} {vs : List AV} (he : EvL F xs vs) : RelL ρ A' w vs (xs.map a.eval) := by
  induction he with
  | nil => trivial
  | cons x xs v vs hx _ ih => exact ⟨(ev_rel hs hx).mono (fun _ _ => rfl) (fun _ _ _ => rfl) (Nat.le_refl _) (fun b _ h => hA b h), ih⟩
theorem relL_append {ρ : Nat → Loc} {A : Nat → Prop} {w : World} : ∀ {as bs : List AV} {vs us : List Value}, RelL ρ A w as vs → RelL ρ A w bs us → RelL ρ A w (as ++ bs) (vs ++ us)
  | [], _, [], _, _, h => h
  | _ :: _, _, _ :: _, _, h, h' => ⟨h.1, relL_append h.2 h'⟩
  | [], _, _ :: _, _, h, _ => h.elim
  | _ :: _, _, [], _, h, _ => h.elim
theorem relL_ptrs {ρ : Nat → Loc} {A : Nat → Prop} {w : World} : ∀ (ids : List Nat), RelL ρ A w (ptrs ids) (ids.map fun id => Value.pointer (some ⟨(ρ id).blk, (ρ id).off, none⟩))
  | [] => trivial
  | _ :: ids => ⟨by simp [AV.Rel, SV.Rel], relL_ptrs ids⟩

/-- The caller's blocks that are handed over, as the heap has them. -/
def OwnL (H : Nat → Option Bk) (E : List (Nat × Cs)) : Prop := ∀ x ∈ E, H x.1 = some (.own x.2) ∧ x.2.len ≠ 0

/-- A CALL that writes into blocks of its caller's. -/
theorem Y.callU {f : Nat} {x : Operand} {xs : List Operand} {ats : Array TypeId} {vs : List AV} {ids : List Nat} {res : AV} {E E' : List (Nat × Cs)} (hc : UC cx.P f (vs ++ ptrs ids) E res E') (hf : FnOK cx.P f) (hu : Up cx ops F o)
    (ho : o.op = .call { callee := .value x, args := xs.toArray, argTypes := ats }) (hx : evF F x = some (.one (.fn f ids))) (he : EvL F xs vs) (hE : OwnL H E) (hE' : E'.map (·.1) = E.map (·.1)) (_hnd : (E.map (·.1)).Nodup) (hp : res.pure = true) :
    Doing cx ops o F H ⟨res, E'.map (fun x => (x.1, Bk.own x.2)), []⟩ := by
  intro F' H' hF hH _ ρ A a w hst K Q hK
  have hst0 := hst.sub hF hH
  unfold StepOp
  rw [if_pos (hu.wanted hst0)]
  have hxr := ev_rel hst0 hx
  simp only [AV.Rel, SV.Rel] at hxr
  have real : ∀ y ∈ E, (ρ y.1).own = true ∧ (ρ y.1).size ≠ 0 ∧ A (ρ y.1).blk ∧ ¬ cx.O (ρ y.1).blk ∧ (cx.w0.heap.size ≤ (ρ y.1).blk ∨ cx.M (ρ y.1).blk) ∧ y.2.len ≤ (ρ y.1).size ∧ ∃ cs T fz, w.heap[(ρ y.1).blk]? = some (.cells cs T fz) ∧ (ρ y.1).off + (ρ y.1).size ≤ cs.size ∧ Unfrozen fz cs.size ∧
      ∀ j, j < y.2.len → ∃ u, cs[(ρ y.1).off + j]? = some u ∧ (y.2.at j).Rel ρ A w u := by
    intro y hy
    obtain ⟨h1, h2⟩ := hE y hy
    obtain ⟨h3, h4⟩ := hst0.hp _ _ h1
    rcases h4 with h4 | ⟨g1, g2, g3, g4, g5⟩
    · omega
    · exact ⟨g1, by omega, g2, g3, g4, h3, g5⟩
  let O' : Nat → Prop := fun b => A b ∧ ∀ y ∈ E, (ρ y.1).blk ≠ b
  have hAeq : ∀ b, (O' b ∨ ∃ y ∈ E, (ρ y.1).blk = b) → A b := by
    rintro b (h | ⟨y, hy, rfl⟩)
    · exact h.1
    · exact (real y hy).2.2.1
  have hAeq' : ∀ b, A b → (O' b ∨ ∃ y ∈ E, (ρ y.1).blk = b) := by
    intro b hb
    by_cases h : ∃ y ∈ E, (ρ y.1).blk = b
    · exact .inr h
    · exact .inl ⟨hb, fun y hy e => h ⟨y, hy, e⟩⟩
  have hcall := hc ρ O' w (xs.map a.eval ++ ids.map fun id => Value.pointer (some ⟨(ρ id).blk, (ρ id).off, none⟩)) (fun b hb => hst.A1 b hb.1)
    (fun y hy => by
      obtain ⟨g1, g2, g3, g4, g5, g6, cs, T, fz, g7, g8, g9, g10⟩ := real y hy
      refine ⟨g1, g2, fun h => h.2 y hy rfl, g6, cs, T, fz, g7, g8, g9, fun j hj => ?_⟩
      obtain ⟨u, hu', hr⟩ := g10 j hj
      exact ⟨u, hu', hr.mono (fun _ _ => rfl) (fun _ _ _ => rfl) (Nat.le_refl _) (fun b _ h => hAeq b h)⟩)
    (fun y hy z hz hne => by
      obtain ⟨g1, g2, _⟩ := real y hy
      obtain ⟨k1, k2, _⟩ := real z hz
      exact hst0.sep _ _ _ _ (hE y hy).1 (hE z hz).1 trivial trivial hne g1 k1 g2 k2)
    (relL_append (relL_ev hst0 hAeq he) (relL_ptrs ids))
  unfold Oper.wp
  rw [run_call hf ho hxr]
  simp only [Oper.upon]
  rw [show (xs.map a.eval ++ ids.map fun id => Value.pointer (some ⟨(ρ id).blk, (ρ id).off, none⟩)).toArray = (xs.map a.eval).toArray ++ (ids.map fun id => Value.pointer (some ⟨(ρ id).blk, (ρ id).off, none⟩)).toArray by simp] at hcall
  refine hcall.mono ?_
  rintro e w' ⟨r, rfl, hr, hfm, hE2⟩
  refine hK r w' ρ A ?_
  have keep : ∀ b, b < w.heap.size → (∀ y ∈ E, (ρ y.1).blk ≠ b) → w'.heap[b]? = w.heap[b]? := fun b hb h => hfm.block b hb (fun ⟨y, hy, e⟩ => h y hy e)
  have keepA : ∀ b, b < w.heap.size → ¬ A b → w'.heap[b]? = w.heap[b]? := fun b hb h => keep b hb fun y hy e => h (e ▸ (real y hy).2.2.1)
  have mem : ∀ i c, (i, c) ∈ E' → ∃ c0, (i, c0) ∈ E := by
    intro i c h
    have : i ∈ E'.map (·.1) := List.mem_map.2 ⟨_, h, rfl⟩
    rw [hE'] at this
    obtain ⟨⟨_, c0⟩, hy, rfl⟩ := List.mem_map.1 this
    exact ⟨c0, hy⟩
  have look : ∀ i b, ovr (E'.map fun x => (x.1, Bk.own x.2)) H' i = some b → (∃ c c0, (i, c) ∈ E' ∧ (i, c0) ∈ E ∧ b = .own c) ∨ ((∀ y ∈ E, y.1 ≠ i) ∧ H' i = some b) := by
    intro i b hb
    unfold ovr at hb
    split at hb
    · rename_i b' hb'
      cases hb
      obtain ⟨c, hc, rfl⟩ := lk_map_mem hb'
      obtain ⟨c0, hc0⟩ := mem i c hc
      exact .inl ⟨c, c0, hc, hc0, rfl⟩
    · rename_i hnone
      refine .inr ⟨fun y hy e => ?_, hb⟩
      subst e
      have : y.1 ∈ E'.map (·.1) := by rw [hE']; exact List.mem_map.2 ⟨_, hy, rfl⟩
      obtain ⟨x', hx', he'⟩ := List.mem_map.1 this
      have : ∀ (l : List (Nat × Cs)), x' ∈ l → lk x'.1 (l.map fun x => (x.1, Bk.own x.2)) ≠ none := by
        intro l
        induction l with
        | nil => intro h; cases h
        | cons z l ih =>
          intro h
          simp only [List.map_cons, lk]
          split
          · simp
          · rename_i hne
            rcases List.mem_cons.1 h with h | h
            · subst h; exact absurd rfl hne
            · exact ih h
      exact this E' hx' (he' ▸ hnone)
  refine StRel.put (F := F') ⟨hst.df, hst.sz, fun t v hv => (hst.fr t v hv).mono (fun _ _ => rfl) keepA hfm.size (fun _ _ h => h), ?_, ?_, fun b hb => Nat.lt_of_lt_of_le (hst.A1 b hb) hfm.size, hst.O, ?_, hst.E⟩ hu.d (AV.pure_rel hp hr)
  · intro i b hb
    rcases look i b hb with ⟨c, c0, hc, hc0, rfl⟩ | ⟨hne, hb'⟩
    · obtain ⟨cs, T, fz, g1, g2, g3, g4, g5⟩ := hE2 (i, c) hc
      obtain ⟨k1, k2, k3, k4, k5, _⟩ := real (i, c0) hc0
      refine ⟨g4, .inr ⟨k1, k3, k4, k5, cs, T, fz, g1, g2, g3, fun j hj => ?_⟩⟩
      obtain ⟨u, hu', hr'⟩ := g5 j hj
      exact ⟨u, hu', hr'.mono (fun _ _ => rfl) (fun _ _ _ => rfl) (Nat.le_refl _) (fun b _ h => hAeq' b h)⟩
    · refine (hst.hp i b hb').mono (fun _ _ => rfl) keepA hfm.size (fun _ _ h => h) ?_ (fun hl ho' hz => hst.liveA hb' hl ho' hz)
      intro hl ho' hz
      refine keep _ (hst.A1 _ (hst.liveA hb' hl ho' hz)) fun y hy => ?_
      obtain ⟨k1, k2, _⟩ := real y hy
      exact hst.sep _ _ _ _ (hH _ _ (hE y hy).1) hb' trivial hl (hne y hy) k1 ho' k2 hz
  · intro i j bi bj hbi hbj li lj hne oi oj zi zj
    have f : ∀ i b, ovr (E'.map fun x => (x.1, Bk.own x.2)) H' i = some b → b.live → ∃ b', H' i = some b' ∧ b'.live := by
      intro i b hb hl
      rcases look i b hb with ⟨c, c0, _, hc0, rfl⟩ | ⟨_, hb'⟩
      · exact ⟨_, hH _ _ (hE _ hc0).1, trivial⟩
      · exact ⟨b, hb', hl⟩
    obtain ⟨bi', hbi', li'⟩ := f i bi hbi li
    obtain ⟨bj', hbj', lj'⟩ := f j bj hbj lj
    exact hst.sep i j bi' bj' hbi' hbj' li' lj' hne oi oj zi zj
  · refine ⟨hfm.os.trans hst.fm.os, hfm.tape.trans hst.fm.tape, hfm.output.trans hst.fm.output, Nat.le_trans hst.fm.size hfm.size, fun b hb hM => ?_⟩
    refine (keep b (Nat.lt_of_lt_of_le hb hst.fm.size) fun y hy e => ?_).trans (hst.fm.block b hb hM)
    obtain ⟨_, _, _, _, k5, _⟩ := real y hy
    rcases k5 with k5 | k5
    · omega
    · exact hM (e ▸ k5)

theorem AV.ren_rel {τ : List (Nat × Nat)} {ρ : Nat → Loc} {A : Nat → Prop} {w : World} {x : AV} : ∀ {v : Value}, x.Rel (fun id => ρ (rn τ id)) A w v → (x.ren τ).Rel ρ A w v := by
  have sv : ∀ {s : SV} {v : Value}, s.Rel (fun id => ρ (rn τ id)) A w v → (s.ren τ).Rel ρ A w v := by
    intro s v h
    cases s with
    | fn f caps => simp only [SV.ren, SV.Rel, List.map_map] at h ⊢; exact h
    | _ => exact h
  induction x with
  | one s => intro v h; exact sv h
  | row c =>
    rintro v ⟨cs, hv, hl, hc⟩
    refine ⟨cs, hv, by rw [Cs.len_ren]; exact hl, fun j hj => ?_⟩
    rw [Cs.len_ren] at hj
    obtain ⟨u, hu, hr⟩ := hc j hj
    exact ⟨u, hu, by rw [Cs.at_ren hj]; exact sv hr⟩
  | two a b iha ihb =>
    rintro v ⟨x, y, hv, hx, hy⟩
    exact ⟨x, y, hv, iha hx, ihb hy⟩

/-- No slice but of the call's own. -/
def SV.noImm : SV → Bool
  | .bs _ _ _ | .bss _ _ | .pc _ _ | .pcb _ => false
  | _ => true
def noImm : AV → Bool
  | .one s => s.noImm
  | .row (.ints _ _) => true
  | .row (.mix l) => l.all SV.noImm
  | .two a b => noImm a && noImm b
theorem SV.noImm_rel {s : SV} (h : s.noImm = true) {ρ : Nat → Loc} {A A' : Nat → Prop} {w : World} {v : Value} (hv : s.Rel ρ A w v) : s.Rel ρ A' w v := by
  cases s <;> first | exact hv | (simp [SV.noImm] at h; done)
theorem noImm_rel {x : AV} : noImm x = true → ∀ {ρ : Nat → Loc} {A A' : Nat → Prop} {w : World} {v : Value}, x.Rel ρ A w v → x.Rel ρ A' w v := by
  induction x with
  | one s => intro h _ _ _ _ _ hv; exact SV.noImm_rel h hv
  | row c =>
    rintro h _ _ _ _ v ⟨cs, hv, hl, hc⟩
    refine ⟨cs, hv, hl, fun j hj => ?_⟩
    obtain ⟨u, hu, hr⟩ := hc j hj
    refine ⟨u, hu, SV.noImm_rel ?_ hr⟩
    cases c with
    | ints k xs => rfl
    | mix l =>
      simp only [Cs.len] at hj
      simp only [Cs.at, List.getD_eq_getElem?_getD, hj, List.getElem?_eq_getElem, Option.getD_some]
      exact List.all_eq_true.1 h _ (List.getElem_mem hj)
  | two a b iha ihb =>
    rintro h _ _ _ _ v ⟨x, y, hv, hx, hy⟩
    simp only [Go.Fx.noImm, Bool.and_eq_true] at h
    exact ⟨x, y, hv, iha h.1 hx, ihb h.2 hy⟩

/-- A CALL that hands back a slice of its own: here it is block d. -/
theorem Y.callF {d f : Nat} {x : Operand} {xs : List Operand} {ats : Array TypeId} {vs us : List AV} {res : AV} {k : IntKind} {ys : List Nat} (hc : VF cx.P f us res k ys) (hf : FnOK cx.P f) (hu : Up cx ops F o) (ho : o.op = .call { callee := .value x, args := xs.toArray, argTypes := ats }) (hx : evF F x = some (.one (.fn f [])))
    (he : EvL F xs vs) (hv : ViewL H vs us) (hid : us.all (fun u => u.ids.isEmpty) = true) (hr0 : res.ids.all (· == 0) = true) (hnb : noImm res = true) : Doing cx ops o F H ⟨res.ren [(0, d)], [(d, .own (.ints k ys))], [d]⟩ := by
  intro F' H' hF hH hN ρ A a w hst K Q hK
  have hn := hN d (by simp)
  have hst0 := hst.sub hF hH
  unfold StepOp
  rw [if_pos (hu.wanted hst0)]
  have hxr := ev_rel hst0 hx
  simp only [AV.Rel, SV.Rel, List.map_nil] at hxr
  have hrl := relL_view hst0 (A' := fun _ => False) (fun _ h => h.elim) (fun _ _ _ _ _ _ h => h) he hv (fun u hu => by simpa using List.all_eq_true.1 hid u hu)
  unfold Oper.wp
  rw [run_call hf ho hxr]
  simp only [Oper.upon, Array.append_empty]
  refine (hc (fun _ => False) w _ (fun _ h => h.elim) hrl).mono ?_
  rintro e w' ⟨r, l, rfl, hr, hb, hfl, hfr⟩
  let A' : Nat → Prop := fun b => A b ∨ (l.size ≠ 0 ∧ b = l.blk)
  refine hK r w' (upd' ρ d l) A' ?_
  rw [ovr_cons, ovr_nil]
  have hst1 := hst.below hb
  have hρ : ∀ i, i ≠ d → upd' ρ d l i = ρ i := fun i hi => by simp [upd', hi]
  have hlge : l.size ≠ 0 → w.heap.size ≤ l.blk ∧ l.blk < w'.heap.size := fun hz => by
    rcases hfr with h | h
    · exact absurd h hz
    · exact ⟨h.2.1, h.2.2.1⟩
  have hA' : ∀ b, b < w.heap.size → A' b → A b := by
    rintro b hb (h | ⟨hz, rfl⟩)
    · exact h
    · have := hlge hz; omega
  have keep : ∀ b, b < w.heap.size → ¬ A b → w'.heap[b]? = w.heap[b]? := fun b hb' _ => hb.block b hb'
  refine StRel.put (F := F') ⟨hst.df, hst.sz, fun t v hv => (hst.fr t v hv).mono (fun i hi => hρ i (fun e => hn.f t v hv (e ▸ hi))) keep hb.size hA', ?_, ?_, ?_, fun b hb => .inl (hst.O b hb), hst1.fm, ?_⟩ hu.d ?_
  · intro i b hb'
    simp only [upd] at hb'
    split at hb'
    · rename_i he
      subst he
      cases hb'
      simp only [upd', if_true]
      refine ⟨hfl, ?_⟩
      rcases hfr with h | ⟨h1, h2, h3, cs, T, fz, h4, h5, h6, h7⟩
      · exact .inl h
      · by_cases hz : l.size = 0
        · exact .inl hz
        refine .inr ⟨h1, .inr ⟨hz, rfl⟩, fun hO => ?_, .inl (Nat.le_trans hst.fm.size h2), cs, T, fz, h4, h5, h6, fun j hj => ⟨_, (h7 j hj).1, rfl, (h7 j hj).2⟩⟩
        have := hst.A1 _ (hst.O _ hO); omega
    · rename_i h1
      rw [hρ i h1]
      exact (hst.hp i b hb').mono (fun k hk => hρ k (fun e => hn.g i b hb' (e ▸ hk))) keep hb.size hA' (fun hl ho' hz => hb.block _ (hst.A1 _ (hst.liveA hb' hl ho' hz))) (fun hl ho' hz => .inl (hst.liveA hb' hl ho' hz))
  · intro i j bi bj hbi hbj li lj hne oi oj zi zj
    simp only [upd] at hbi hbj
    by_cases h1 : i = d
    · have h2 : j ≠ d := fun h => hne (h1.trans h.symm)
      rw [if_neg h2] at hbj
      subst h1
      rw [hρ j h2] at oj zj ⊢
      have := hst.A1 _ (hst.liveA hbj lj oj zj)
      simp only [upd', if_true] at zi ⊢
      have := hlge zi
      omega
    · rw [if_neg h1] at hbi
      rw [hρ i h1] at oi zi ⊢
      by_cases h2 : j = d
      · subst h2
        have := hst.A1 _ (hst.liveA hbi li oi zi)
        simp only [upd', if_true] at zj ⊢
        have := hlge zj
        omega
      · rw [if_neg h2] at hbj
        rw [hρ j h2] at oj zj ⊢
        exact hst.sep i j bi bj hbi hbj li lj hne oi oj zi zj
  · rintro b (hb' | ⟨hz, rfl⟩)
    · exact Nat.lt_of_lt_of_le (hst.A1 b hb') hb.size
    · exact (hlge hz).2
  · intro i hi
    have : i ≠ d := fun e => hn.e (e ▸ hi)
    rw [hρ i this]; exact hst.E i hi
  · refine AV.ren_rel ?_
    refine noImm_rel hnb (hr.mono (fun i hi => ?_) (fun _ _ _ => rfl) (Nat.le_refl _) (fun _ _ h => h))
    have : i = 0 := by simpa using List.all_eq_true.1 hr0 i hi
    subst this
    simp [rn, lk, upd']

end
end Go.Fx
