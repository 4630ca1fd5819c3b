/-
  FxP: append and copy; closures; calls met by contracts.
-/
import Derived.Test.YtkpelchcpiafaaaFxO
namespace Go.Fx
open Go.RowKit (Below)

/-- What is appended, or copied, reads so. -/
inductive Src (H : Nat → Option Bk) : AV → Cs → Prop
  | nilI (k : IntKind) : Src H (.one .nil) (.ints k [])
  | nilM : Src H (.one .nil) (.mix [])
  | bs (ex : Bool) (k : IntKind) (xs : List Nat) : Src H (.one (.bs ex k xs)) (.ints k xs)
  | bss (ex : Bool) (xss : List (List Nat)) : Src H (.one (.bss ex xss)) (.mix (xss.map fun xs => .bs false .u8 xs))
  | sg (id off len : Nat) (b : Bk) (c c' : Cs) : H id = some b → (b = .own c ∨ b = .grw c) → off + len ≤ c.len → c' = c.sub off len → Src H (.one (.sg id off len)) c'

theorem blk_cells {cx : Cx} {F : Nat → Option AV} {H : Nat → Option Bk} {a : Act} {w : World} {ρ : Nat → Loc} {A : Nat → Prop} (hs : StRel cx F H a w ρ A) {id : Nat} {b : Bk} {c : Cs} (hb : H id = some b) (hbc : b = .own c ∨ b = .grw c) (hz : (ρ id).size ≠ 0) :
    ∀ j, j < c.len → ∃ u, w.cell? ⟨(ρ id).blk, (ρ id).off + j, none⟩ = some u ∧ (c.at j).Rel ρ A w u := by
  have own : OwnB cx ρ A w (ρ id) c → ∀ j, j < c.len → ∃ u, w.cell? ⟨(ρ id).blk, (ρ id).off + j, none⟩ = some u ∧ (c.at j).Rel ρ A w u := by
    rintro ⟨_, h2⟩ j hj
    rcases h2 with h2 | ⟨_, ha, _, _, cs, T, fz, hh, _, _, hcs⟩
    · exact absurd h2 hz
    · obtain ⟨u, hu, hr⟩ := hcs j hj
      exact ⟨u, by simp only [World.cell?, hh, Option.isSome_none, Bool.false_eq_true, if_false]; exact hu, hr⟩
  have hrel := hs.hp id b hb
  rcases hbc with rfl | rfl
  · exact own hrel
  · rcases hrel with hrel | ⟨_, _, h2⟩
    · exact own hrel
    · rcases h2 with h2 | ⟨_, _, hcs⟩
      · exact absurd h2 hz
      · exact hcs

theorem Src.read {cx : Cx} {F : Nat → Option AV} {H : Nat → Option Bk} {a : Act} {w : World} {ρ : Nat → Loc} {A : Nat → Prop} (hs : StRel cx F H a w ρ A) {x : AV} {c : Cs} (h : Src H x c) {v : Value} (hv : x.Rel ρ A w v) :
    ∃ ad cap, v = .slice ad c.len cap ∧ c.len ≤ cap ∧ (c.len = 0 ∨ ∃ b o, ad = some ⟨b, o, none⟩ ∧ ∀ j, j < c.len → ∃ u, w.cell? ⟨b, o + j, none⟩ = some u ∧ (c.at j).Rel ρ A w u) := by
  cases h with
  | nilI k => obtain ⟨ad, rfl⟩ := hv; exact ⟨ad, 0, rfl, Nat.le_refl _, .inl rfl⟩
  | nilM => obtain ⟨ad, rfl⟩ := hv; exact ⟨ad, 0, rfl, Nat.le_refl _, .inl rfl⟩
  | bs ex k xs =>
    obtain ⟨ad, cap, rfl, h1, _, h2⟩ := hv
    refine ⟨ad, cap, rfl, h1, ?_⟩
    rcases h2 with h2 | ⟨b, o, had, _, _, hc⟩
    · exact .inl (by simp only [Cs.len] at *; omega)
    · exact .inr ⟨b, o, had, fun j hj => hc j hj⟩
  | bss ex xss =>
    obtain ⟨ad, cap, rfl, h1, _, h2⟩ := hv
    have hl : (Cs.mix (xss.map fun xs => .bs false .u8 xs)).len = xss.length := by simp [Cs.len]
    rw [hl]
    refine ⟨ad, cap, rfl, h1, ?_⟩
    rcases h2 with h2 | ⟨b, o, had, _, _, hc⟩
    · exact .inl (by omega)
    · refine .inr ⟨b, o, had, fun j hj => ?_⟩
      obtain ⟨u, hu, hr⟩ := hc j hj
      refine ⟨u, hu, ?_⟩
      simp only [Cs.at, List.getD_eq_getElem?_getD, List.getElem?_map, hj, List.getElem?_eq_getElem, Option.map_some, Option.getD_some]
      have e : xss.getD j [] = xss[j] := by simp [List.getD_eq_getElem?_getD, hj]
      rw [e] at hr; exact hr
  | sg id off len b c0 c' hb hbc hl he =>
    subst he
    obtain ⟨ad, cap, rfl, h1, h2⟩ := hv
    rw [Cs.sub_len hl]
    refine ⟨ad, cap, rfl, h1, ?_⟩
    rcases h2 with h2 | ⟨had, hsz⟩
    · exact .inl (by omega)
    by_cases h0 : len = 0
    · exact .inl h0
    refine .inr ⟨(ρ id).blk, (ρ id).off + off, had, fun j hj => ?_⟩
    obtain ⟨u, hu, hr⟩ := blk_cells hs hb hbc (by omega) (off + j) (by omega)
    exact ⟨u, by rw [Nat.add_assoc]; exact hu, by rw [Cs.sub_at hj]; exact hr⟩

theorem Src.nom {cx : Cx} {F : Nat → Option AV} {H : Nat → Option Bk} {d : Nat} (hn : Nom cx d F H) {x : AV} {c : Cs} (h : Src H x c) : ∀ j, j < c.len → d ∉ (c.at j).ids := by
  cases h with
  | nilI k => intro j hj; simp [Cs.len] at hj
  | nilM => intro j hj; simp [Cs.len] at hj
  | bs ex k xs => intro j _; simp [Cs.at, SV.ids]
  | bss ex xss =>
    intro j hj
    simp only [Cs.len, List.length_map] at hj
    simp [Cs.at, List.getD_eq_getElem?_getD, hj, SV.ids]
  | sg id off len b c0 c' hb hbc hl he =>
    subst he
    intro j hj hm
    rw [Cs.sub_len hl] at hj
    rw [Cs.sub_at hj] at hm
    have := hn.g id b hb
    rcases hbc with rfl | rfl <;> exact this (Cs.ids_at (by omega) hm)

theorem run_firstCells {P : Program} {w : World} {ρ : Nat → Loc} {A : Nat → Prop} {c : Cs} {ad : Option Addr} {cap : Nat} (h : c.len = 0 ∨ ∃ b o, ad = some ⟨b, o, none⟩ ∧ ∀ j, j < c.len → ∃ u, w.cell? ⟨b, o + j, none⟩ = some u ∧ (c.at j).Rel ρ A w u) :
    ∃ cs : Array Value, (∀ k, (Builtin.firstCells 1 c.len (.slice ad c.len cap)).run P { w with drawn := k } = .ok cs { w with drawn := k }) ∧ cs.size = c.len ∧ ∀ j, j < c.len → ∃ u, cs[j]? = some u ∧ (c.at j).Rel ρ A w u := by
  rcases h with h | ⟨b, o, rfl, hc⟩
  · rw [h]
    cases ad with
    | none => exact ⟨#[], fun _ => rfl, rfl, fun j hj => by omega⟩
    | some q => exact ⟨#[], fun _ => by simp [Builtin.firstCells, loadCells, loadCellsFrom], rfl, fun j hj => by omega⟩
  · refine ⟨((List.range c.len).map fun j => (w.cell? ⟨b, o + j, none⟩).getD undef).toArray, fun k => ?_, ?_, fun j hj => ?_⟩
    · simp only [Builtin.firstCells, Nat.mul_one]
      exact run_loadCells { w with drawn := k } ⟨b, o, none⟩ c.len (fun j => (w.cell? ⟨b, o + j, none⟩).getD undef) (fun j hj => by
        obtain ⟨u, hu, _⟩ := hc j hj
        rw [addr_add, hu]; exact hu)
    · simp
    · obtain ⟨u, hu, hr⟩ := hc j hj
      exact ⟨u, by simp [hj, hu], hr⟩

/-- A row behind another one. -/
structure App (c1 c2 c : Cs) : Prop where
  len : c.len = c1.len + c2.len
  l : ∀ j, j < c1.len → c.at j = c1.at j
  r : ∀ j, j < c2.len → c.at (c1.len + j) = c2.at j
theorem App.i {k : IntKind} {xs ys : List Nat} : App (.ints k xs) (.ints k ys) (.ints k (xs ++ ys)) := by
  refine ⟨by simp [Cs.len], fun j hj => ?_, fun j hj => ?_⟩
  · simp only [Cs.len] at hj
    simp only [Cs.at, List.getD_eq_getElem?_getD]; rw [List.getElem?_append_left hj]
  · simp only [Cs.len, Cs.at, List.getD_eq_getElem?_getD]; rw [List.getElem?_append_right (by omega), Nat.add_sub_cancel_left]
theorem App.i0 {k : IntKind} {ys : List Nat} : App (.ints k []) (.ints k ys) (.ints k ys) := App.i (xs := [])
theorem App.m {xs ys : List SV} : App (.mix xs) (.mix ys) (.mix (xs ++ ys)) := by
  refine ⟨by simp [Cs.len], fun j hj => ?_, fun j hj => ?_⟩
  · simp only [Cs.len] at hj
    simp only [Cs.at, List.getD_eq_getElem?_getD]; rw [List.getElem?_append_left hj]
  · simp only [Cs.len, Cs.at, List.getD_eq_getElem?_getD]; rw [List.getElem?_append_right (by omega), Nat.add_sub_cancel_left]
theorem App.toL (c1 c2 : Cs) : App c1 c2 (.mix (c1.toL ++ c2.toL)) := by
  refine ⟨by show (c1.toL ++ c2.toL).length = _; rw [List.length_append, Cs.toL_len, Cs.toL_len], fun j hj => ?_, fun j hj => ?_⟩
  · rw [← Cs.toL_at hj]
    simp only [Cs.at, List.getD_eq_getElem?_getD]; rw [List.getElem?_append_left (by rw [Cs.toL_len]; exact hj)]
  · rw [← Cs.toL_at hj, ← Cs.toL_len (c := c1)]
    simp only [Cs.at, List.getD_eq_getElem?_getD]; rw [List.getElem?_append_right (by omega), Nat.add_sub_cancel_left]
theorem App.nom {c1 c2 c : Cs} (h : App c1 c2 c) {d : Nat} (h1 : ∀ j, j < c1.len → d ∉ (c1.at j).ids) (h2 : ∀ j, j < c2.len → d ∉ (c2.at j).ids) : d ∉ c.ids := by
  refine Cs.nom_of_at fun j hj => ?_
  rw [h.len] at hj
  by_cases hlt : j < c1.len
  · rw [h.l j hlt]; exact h1 j hlt
  · have := h.r (j - c1.len) (by omega)
    rw [show c1.len + (j - c1.len) = j by omega] at this
    rw [this]; exact h2 _ (by omega)

/-- What may be appended to: nothing yet, a slice whose room is full, or one of the call's own to its end (which then is no more: 'kill'). -/
inductive Base (H : Nat → Option Bk) : AV → Cs → Option Nat → Prop
  | nilI (k : IntKind) : Base H (.one .nil) (.ints k []) none
  | nilM : Base H (.one .nil) (.mix []) none
  | ex (k : IntKind) (xs : List Nat) : Base H (.one (.bs true k xs)) (.ints k xs) none
  | sg (id off len : Nat) (c c' : Cs) : H id = some (.own c) → off + len = c.len → c' = c.sub off len → Base H (.one (.sg id off len)) c' (some id)

theorem Base.src {H : Nat → Option Bk} {x : AV} {c : Cs} {k : Option Nat} (h : Base H x c k) : Src H x c := by
  cases h with
  | nilI k => exact .nilI k
  | nilM => exact .nilM
  | ex k xs => exact .bs true k xs
  | sg id off len c0 c' hb hl he => exact .sg id off len _ c0 _ hb (.inl rfl) (by omega) he

def killL : Option Nat → List (Nat × Bk)
  | some id => [(id, .dead)]
  | none => []

theorem growBy_le (n : Nat) : ∀ (r c : Nat), c ≤ 2 * n + 192 → Builtin.growBy n r c ≤ 2 * n + 192
  | 0, c, h => h
  | r + 1, c, h => by
    simp only [Builtin.growBy]
    split
    · exact h
    · exact growBy_le n r _ (by omega)
theorem nextslicecap_le {n c : Nat} (h : c < n) : Builtin.nextslicecap n c ≤ 2 * n + 192 := by
  unfold Builtin.nextslicecap
  split
  · omega
  · split
    · omega
    · exact growBy_le n 4 c (by omega)

/-- A slice of nothing may be taken for one of the call's own. -/
theorem StRel.adopt {cx : Cx} {F : Nat → Option AV} {H : Nat → Option Bk} {a : Act} {w : World} {ρ : Nat → Loc} {A : Nat → Prop} (hs : StRel cx F H a w ρ A) {d : Nat} (hn : Nom cx d F H) {c : Cs} (hc : c.len = 0) :
    StRel cx F (upd H d (.own c)) a w (upd' ρ d ⟨0, 0, 0, false⟩) A := by
  have hρ : ∀ i, i ≠ d → upd' ρ d ⟨0, 0, 0, false⟩ i = ρ i := fun i hi => by simp [upd', hi]
  refine ⟨hs.df, hs.sz, fun t v hv => (hs.fr t v hv).mono (fun i hi => hρ i (fun e => hn.f t v hv (e ▸ hi))) (fun _ _ _ => rfl) (Nat.le_refl _) (fun _ _ h => h), ?_, ?_, hs.A1, hs.O, hs.fm, ?_⟩
  · intro i b' hb'
    simp only [upd] at hb'
    split at hb'
    · rename_i he
      subst he
      cases hb'
      simp only [upd', if_true]
      exact ⟨by simp [hc], .inl rfl⟩
    · rename_i h1
      rw [hρ i h1]
      exact (hs.hp i b' hb').mono (fun k hk => hρ k (fun e => hn.g i b' hb' (e ▸ hk))) (fun _ _ _ => rfl) (Nat.le_refl _) (fun _ _ h => h) (fun _ _ _ => rfl) (fun hl' ho' hz' => hs.liveA hb' hl' ho' hz')
  · intro i j bi bj hbi hbj li lj hne oi oj zi zj
    by_cases h1 : i = d
    · subst h1; simp [upd'] at oi
    by_cases h2 : j = d
    · subst h2; simp [upd'] at oj
    rw [hρ i h1] at oi zi ⊢
    rw [hρ j h2] at oj zj ⊢
    simp only [upd, if_neg h1, if_neg h2] at hbi hbj
    exact hs.sep i j bi bj hbi hbj li lj hne oi oj zi zj
  · intro i hi
    have : i ≠ d := fun e => hn.e (e ▸ hi)
    rw [hρ i this]; exact hs.E i hi

theorem Nom.kill {cx : Cx} {F : Nat → Option AV} {H : Nat → Option Bk} {d id : Nat} (hn : Nom cx d F H) (h : d ≠ id) : Nom cx d F (upd H id .dead) :=
  ⟨hn.e, by simp only [upd]; rw [if_neg h]; exact hn.h, hn.f, fun i b hb => by
    simp only [upd] at hb
    split at hb
    · cases hb; simp [Bk.ids]
    · exact hn.g i b hb⟩

section
variable {cx : Cx} {ops : Array Oper} {o : Oper} {F : Nat → Option AV} {H : Nat → Option Bk}

theorem run_append {P : Program} {w : World} {T T' E E' n by' n' b' bz : Nat} {dE : TypeDesc} {z z' : Cs} {zz : Cs} (hT : TyI P T (.slice E) n by' z) (hE : TyI P E dE 1 bz zz) (hT' : TyI P T' (.slice E') n' b' z') (hbz : bz ≠ 0) {ty : TypeId} {ad ad2 : Option Addr} {l1 cap l2 cap2 : Nat} {old new : Array Value}
    (h1 : ∀ k, (Builtin.firstCells 1 l1 (.slice ad l1 cap)).run P { w with drawn := k } = .ok old { w with drawn := k }) (h2 : ∀ k, (Builtin.firstCells 1 l2 (.slice ad2 l2 cap2)).run P { w with drawn := k } = .ok new { w with drawn := k }) :
    (l1 + l2 ≤ cap → (Builtin.append_ #[T, T'] ty #[.slice ad l1 cap, .slice ad2 l2 cap2]).run P w = ((match ad with | some a => storeCells (a.add l1) new.toList | none => pure ()).run P w).andThen fun _ w' => .ok (.slice ad (l1 + l2) cap) w') ∧
    (cap < l1 + l2 → (2 * (l1 + l2) + 192) * bz ≤ 281474976710656 → ∃ N rest, l1 + l2 ≤ N ∧ rest.size = (N - (l1 + l2)) * zz.len ∧ (Builtin.append_ #[T, T'] ty #[.slice ad l1 cap, .slice ad2 l2 cap2]).run P w =
      .ok (.slice (some ⟨w.heap.size, 0, none⟩) (l1 + l2) N) { w with heap := w.heap.push (.cells (old ++ new ++ rest) E), drawn := w.drawn + 1 }) := by
  obtain ⟨i, hi, hib, his⟩ := hE.run_bytes w
  obtain ⟨zv, hzv, hzvz⟩ := hE.run_zero w
  have e1 : (#[T, T'] : Array TypeId)[0]? = some T := rfl
  have e2 : (#[T, T'] : Array TypeId)[1]? = some T' := rfl
  have e3 : (#[Value.slice ad l1 cap, Value.slice ad2 l2 cap2] : Array Value)[0]? = some (.slice ad l1 cap) := rfl
  have e4 : (#[Value.slice ad l1 cap, Value.slice ad2 l2 cap2] : Array Value)[1]? = some (.slice ad2 l2 cap2) := rfl
  refine ⟨fun hle => ?_, fun hlt hroom => ?_⟩
  · unfold Builtin.append_
    simp only [e1, e2, e3, e4, Sem.run_bind, hT.run_und w, hT'.run_und w, hE.run_size w, Result.andThen_ok, Sem.run_pure, Builtin.lenOf, Bool.false_eq_true, if_false]
    rw [if_pos hle]
    have h2' := h2 w.drawn
    simp only [Bool.not_false, if_true, Sem.run_bind, h2', Result.andThen_ok, Nat.mul_one]
    cases ad with
    | none => rfl
    | some a => simp only [Sem.run_bind]; rfl
  · have hns := nextslicecap_le hlt
    have hmul : Builtin.nextslicecap (l1 + l2) cap * bz ≤ (2 * (l1 + l2) + 192) * bz := Nat.mul_le_mul_right _ hns
    have hn1 : ¬ (Builtin.nextslicecap (l1 + l2) cap * bz > 2 ^ 48) := by omega
    have hi' : ∀ k, (typeInfo E).run P { w with drawn := k } = .ok i { w with drawn := k } := fun k => by
      obtain ⟨i', v', hi2, _⟩ := hE.info
      have : i' = i := by simp [typeInfo, hi2] at hi; exact hi
      simp [typeInfo, hi2, this]
    have hz' : ∀ k, (zeroValue E).run P { w with drawn := k } = .ok zv { w with drawn := k } := fun k => by
      obtain ⟨i', v', hi2, _, _, hz2, _⟩ := hE.info
      have : v' = zv := by simp [zeroValue, typeInfo, hi2, hz2] at hzv; exact hzv
      simp [zeroValue, typeInfo, hi2, hz2, this]
    refine ⟨(Question.appendCap (l1 + l2) cap E).cut (w.tape w.drawn (Question.appendCap (l1 + l2) cap E)), Builtin.zeroCells zv.cells ((Question.appendCap (l1 + l2) cap E).cut (w.tape w.drawn (Question.appendCap (l1 + l2) cap E)) - (l1 + l2)), Nat.le_add_right _ _, ?_, ?_⟩
    · have : zv.cells.size = zz.len := by
        have h0 : zv.cells.toList.length = zz.vals.length := by rw [hzvz]
        rw [Array.length_toList] at h0
        rw [h0]; cases zz <;> simp [Cs.vals, Cs.len]
      simp [Builtin.zeroCells, this]
    · unfold Builtin.append_
      simp only [e1, e2, e3, e4, Sem.run_bind, hT.run_und w, hT'.run_und w, hE.run_size w, Result.andThen_ok, Sem.run_pure, Builtin.lenOf, Bool.false_eq_true, if_false]
      rw [if_neg (by omega)]
      have hi0 := hi' w.drawn
      simp only [Sem.run_bind, hi0, Result.andThen_ok, hib, hbz, or_self, and_false, if_false, hn1, Sem.run_pure, run_choose, Question.forced, Bool.false_eq_true]
      simp only [hi', Result.andThen_ok, Sem.run_pure, Sem.run_bind, run_askRoom, h1, h2, Bool.not_false, if_true, hz', newRow, run_newObj]

theorem killL_ovr (k : Option Nat) (H : Nat → Option Bk) : ovr (killL k) H = match k with | some id => upd H id .dead | none => H := by
  cases k with
  | none => rfl
  | some id => simp only [killL]; rw [ovr_cons, ovr_nil]

theorem Base.mono {H H' : Nat → Option Bk} (hH : ∀ i b, H i = some b → H' i = some b) {x : AV} {c : Cs} {k : Option Nat} (h : Base H x c k) : Base H' x c k := by
  cases h with
  | nilI k => exact .nilI k
  | nilM => exact .nilM
  | ex k xs => exact .ex k xs
  | sg id off len c0 c' hb hl he => exact .sg id off len c0 _ (hH _ _ hb) hl he
theorem Src.mono {H H' : Nat → Option Bk} (hH : ∀ i b, H i = some b → H' i = some b) {x : AV} {c : Cs} (h : Src H x c) : Src H' x c := by
  cases h with
  | nilI k => exact .nilI k
  | nilM => exact .nilM
  | bs ex k xs => exact .bs ex k xs
  | bss ex xss => exact .bss ex xss
  | sg id off len b c0 c' hb hbc hl he => exact .sg id off len b c0 _ (hH _ _ hb) hbc hl he

/-- APPEND. -/
theorem Y.app {d T T' E E' n by' n' b' bz : Nat} {dE : TypeDesc} {z z' zz c1 c2 c : Cs} {x y : Operand} {v1 v2 : AV} {kill : Option Nat} {ats : Array TypeId} (hT : TyI cx.P T (.slice E) n by' z) (hE : TyI cx.P E dE 1 bz zz) (hz1 : zz.len = 1) (hT' : TyI cx.P T' (.slice E') n' b' z') (hbz : bz ≠ 0)
    (hu : Up cx ops F o) (ho : o.op = .call { callee := .builtin .append, args := #[x, y], argTypes := ats }) (hat : ats = #[T, T']) (hx : evF F x = some v1) (hb : Base H v1 c1 kill) (hy : evF F y = some v2) (hs : Src H v2 c2) (ha : App c1 c2 c)
    (hroom : (2 * (c1.len + c2.len) + 192) * bz ≤ 281474976710656) (hcell : (AV.row c2).cells? = true) (hex : (∃ ex k xs, v1 = .one (.bs ex k xs)) → c2.len ≠ 0) : Doing cx ops o F H ⟨.one (.sg d 0 c.len), (d, .own c) :: killL kill, [d]⟩ := by
  intro F' H' hF hH hN ρ A a w hst K Q hK
  have hn := hN d (by simp)
  unfold StepOp
  rw [if_pos (hu.wanted (hst.sub hF hH))]
  have hxr := ev_rel hst (evF_mono hF hx)
  have hyr := ev_rel hst (evF_mono hF hy)
  have hb' := hb.mono hH
  have hs' := hs.mono hH
  obtain ⟨ad, cap, e1, hcap, hr1⟩ := hb'.src.read hst hxr
  obtain ⟨ad2, cap2, e2, hcap2, hr2⟩ := hs'.read hst hyr
  obtain ⟨old, o1, o2, o3⟩ := run_firstCells (P := cx.P) (cap := cap) hr1
  obtain ⟨new, n1, n2, n3⟩ := run_firstCells (P := cx.P) (cap := cap2) hr2
  obtain ⟨inPlace, grows⟩ := run_append (P := cx.P) (ty := o.type) hT hE hT' hbz o1 n1
  have hexec : (execOp a.eval o).run cx.P w = ((Builtin.append_ #[T, T'] o.type #[.slice ad c1.len cap, .slice ad2 c2.len cap2]).run cx.P w).andThen fun v w' => .ok (.value v) w' := by
    simp [execOp, ho, hat, resolve, invoke, builtin, e1, e2]
  have hid : d ∉ c.ids := ha.nom (hb'.src.nom hn) (hs'.nom hn)
  rcases Nat.lt_or_ge cap (c1.len + c2.len) with hlt | hge
  · -- it grows
    obtain ⟨N, rest, g1, g2, g3⟩ := grows hlt hroom
    unfold Oper.wp
    rw [hexec, g3]
    have hst' : StRel cx F' (ovr (killL kill) H') a w ρ A := by
      rw [killL_ovr]
      cases kill with
      | none => exact hst
      | some id => exact hst.kill id
    have hn' : Nom cx d F' (ovr (killL kill) H') := by
      rw [killL_ovr]
      cases kill with
      | none => exact hn
      | some id =>
        refine hn.kill ?_
        cases hb' with
        | sg _ off len c0 c' hbb hl he => rintro rfl; rw [hn.h] at hbb; cases hbb
    have hsize : (old ++ new ++ rest).size = c1.len + c2.len + rest.size := by simp [o2, n2]; omega
    have hcs : ∀ j, j < c.len → ∃ u, (old ++ new ++ rest)[j]? = some u ∧ (c.at j).Rel ρ A w u := by
      intro j hj
      rw [ha.len] at hj
      by_cases hj1 : j < c1.len
      · obtain ⟨u, hu', hr⟩ := o3 j hj1
        exact ⟨u, by rw [Array.append_assoc, Array.getElem?_append_left (by omega)]; exact hu', by rw [ha.l j hj1]; exact hr⟩
      · obtain ⟨u, hu', hr⟩ := n3 (j - c1.len) (by omega)
        refine ⟨u, ?_, ?_⟩
        · rw [Array.append_assoc, Array.getElem?_append_right (by omega), o2, Array.getElem?_append_left (by omega)]; exact hu'
        · have := ha.r (j - c1.len) (by omega)
          rw [show c1.len + (j - c1.len) = j by omega] at this
          rw [this]; exact hr
    refine hK _ _ (upd' ρ d ⟨w.heap.size, 0, (old ++ new ++ rest).size, true⟩) (fun b => A b ∨ b = w.heap.size) ?_
    rw [ovr_cons]
    have hzz : rest.size = (N - (c1.len + c2.len)) * zz.len := g2
    refine (hst'.alloc (w' := { w with heap := w.heap.push (.cells (old ++ new ++ rest) E), drawn := w.drawn + 1 }) hn' (cs := old ++ new ++ rest) (T := E) (fz := (0, 0)) ⟨rfl, rfl, rfl, rfl⟩ (unfrozen0 _) (c := c) (by rw [ha.len, hsize]; omega) hcs hid (.inl rfl)).put hu.d ?_
    refine ⟨_, N, by rw [ha.len], by rw [ha.len]; exact g1, .inr ⟨by simp [upd'], ?_⟩⟩
    simp only [upd', if_true, Nat.zero_add]
    rw [hsize, hzz, hz1]
    omega
  · -- there is room
    have hip := inPlace hge
    have hset : (a.put o.dst (.slice ad (c1.len + c2.len) cap)) = (a.put o.dst (.slice ad c.len cap)) := by rw [ha.len]
    -- nothing is written
    have still : c2.len = 0 → (execOp a.eval o).run cx.P w = .ok (.value (.slice ad c.len cap)) w := by
      intro h0
      have : new = #[] := Array.eq_empty_of_size_eq_zero (by omega)
      subst this
      rw [hexec, hip, ha.len]
      cases ad <;> rfl
    -- nothing
    have alone : c2.len = 0 → kill = none → c1.len = 0 → cap = 0 → o.wp cx.P a w K Q := by
      intro h0 hk h1 hc
      unfold Oper.wp
      rw [still h0]
      refine hK _ w (upd' ρ d ⟨0, 0, 0, false⟩) A ?_
      rw [ovr_cons, killL_ovr, hk]
      have hcl : c.len = 0 := by rw [ha.len]; omega
      exact (hst.adopt hn hcl).put hu.d ⟨ad, cap, rfl, by omega, .inl hc⟩
    cases hb' with
    | nilI k =>
      obtain ⟨ad', e3⟩ := hxr
      rw [e1] at e3
      simp only [Value.slice.injEq] at e3
      exact alone (by omega) rfl e3.2.1 e3.2.2
    | nilM =>
      obtain ⟨ad', e3⟩ := hxr
      rw [e1] at e3
      simp only [Value.slice.injEq] at e3
      exact alone (by omega) rfl e3.2.1 e3.2.2
    | ex k xs =>
      obtain ⟨ad', cap', e3, h4, h5, h6⟩ := hxr
      rw [e1] at e3
      simp only [Value.slice.injEq] at e3
      obtain ⟨rfl, e4, rfl⟩ := e3
      have hc := h5 rfl
      have hxl : (Cs.ints k xs).len = xs.length := rfl
      exact absurd (show c2.len = 0 by omega) (hex ⟨_, _, _, rfl⟩)
    | sg id off len c0 c1 hbb hl he =>
      subst he
      obtain ⟨ad', cap', e3, h4, h5⟩ := hxr
      rw [e1] at e3
      simp only [Value.slice.injEq] at e3
      obtain ⟨rfl, e4, rfl⟩ := e3
      have hdid : d ≠ id := by rintro rfl; rw [hn.h] at hbb; cases hbb
      have hlen1 : (c0.sub off len).len = len := Cs.sub_len (by omega)
      have upd2 : ∀ (H : Nat → Option Bk) (x y : Bk), upd (upd H id x) id y = upd H id y := by
        intro H x y; funext i; simp only [upd]; split <;> rfl
      have nomg : ∀ {x : Bk}, d ∉ x.ids → Nom cx d F' (upd H' id x) := by
        intro x hx
        refine ⟨hn.e, by simp only [upd]; rw [if_neg hdid]; exact hn.h, hn.f, fun i b' hb' => ?_⟩
        simp only [upd] at hb'
        split at hb'
        · cases hb'; exact hx
        · exact hn.g i b' hb'
      have hc0id : d ∉ c0.ids := hn.g id _ hbb
      by_cases h0 : c2.len = 0
      · unfold Oper.wp
        rw [still h0]
        refine hK _ w (upd' ρ d ⟨(ρ id).blk, (ρ id).off + off, (ρ id).size - off, (ρ id).own⟩) A ?_
        rw [ovr_cons, killL_ovr]
        have hmv := hst.move (id := id) (d := d) (off := off) (c := c0) (c' := c) hbb hn (by omega) (by rw [ha.len, hlen1]; omega) (fun j hj => by
          rw [ha.len, hlen1] at hj
          rw [ha.l j (by omega), Cs.sub_at (by omega)])
        refine hmv.put hu.d ⟨ad, cap, rfl, by rw [ha.len]; omega, h5.imp _root_.id fun ⟨q1, q2⟩ => ⟨by simp [upd', q1], ?_⟩⟩
        simp only [upd', if_true]; omega
      · -- it is written behind
        have hcap0 : cap ≠ 0 := by omega
        obtain ⟨had, hsz⟩ := h5.resolve_left hcap0
        have hz : (ρ id).size ≠ 0 := by omega
        have hownB : OwnB cx ρ A w (ρ id) c0 := hst.hp id _ hbb
        obtain ⟨r1, r2, cs, T0, fz, r3, r4, r5, r6⟩ := OwnB.real hownB hz
        obtain ⟨cs', k1, k2, k3⟩ := run_storeCells_fz (P := cx.P) (o := (ρ id).off + off + len) new.toList 0 cs w r3 r5 (by simp; omega) (by
          intro u hu'
          obtain ⟨j, hj, rfl⟩ := List.getElem_of_mem hu'
          simp only [Array.length_toList] at hj
          obtain ⟨u, hu2, h3⟩ := n3 j (by omega)
          simp only [Array.getElem?_eq_getElem hj, Option.some.injEq] at hu2
          simp only [Array.getElem_toList, hu2]
          exact (SV.rel_one (Cs.at_cell hcell (by omega)) h3).1)
        have hrun : (execOp a.eval o).run cx.P w = .ok (.value (.slice ad c.len cap)) { w with heap := w.heap.setIfInBounds (ρ id).blk (.cells cs' T0 fz) } := by
          rw [hexec, hip, had, hlen1]
          simp only [addr_add, k1, Result.andThen_ok, ha.len, hlen1]
        unfold Oper.wp
        rw [hrun]
        refine hK _ _ (upd' ρ d ⟨(ρ id).blk, (ρ id).off + off, (ρ id).size - off, (ρ id).own⟩) A ?_
        rw [ovr_cons, killL_ovr]
        have htl := App.toL c0 c2
        have hwr := hst.write (bk := .own (.mix (c0.toL ++ c2.toL))) hbb trivial r1 hz r3 k2 rfl (c' := .mix (c0.toL ++ c2.toL)) (by rw [htl.len]; omega) (fun j hj => by
          rw [htl.len] at hj
          rw [k3]
          simp only [Nat.add_zero, Array.length_toList, n2]
          by_cases hj1 : j < c0.len
          · rw [if_neg (by omega), htl.l j hj1]
            exact r6 j hj1
          · rw [if_pos ⟨by omega, by omega⟩]
            obtain ⟨u, hu', hr⟩ := n3 (j - c0.len) (by omega)
            have e := htl.r (j - c0.len) (by omega)
            rw [show c0.len + (j - c0.len) = j by omega] at e
            refine ⟨u, ?_, by rw [e]; exact hr⟩
            rw [Array.getElem?_toList, show (ρ id).off + j - ((ρ id).off + off + len) = j - c0.len by omega]; exact hu') (.inl rfl)
        have hmv := hwr.move (id := id) (d := d) (off := off) (c := .mix (c0.toL ++ c2.toL)) (c' := c) (by simp [upd]) (nomg (htl.nom (fun j hj hm => hc0id (Cs.ids_at hj hm)) (hs'.nom hn))) (by rw [htl.len]; omega) (by rw [htl.len, ha.len, hlen1]; omega) (fun j hj => by
          rw [ha.len, hlen1] at hj
          by_cases hj1 : j < len
          · rw [ha.l j (by omega), Cs.sub_at (by omega), htl.l _ (by omega)]
          · have e := ha.r (j - len) (by omega)
            rw [hlen1, show len + (j - len) = j by omega] at e
            have e' := htl.r (j - len) (by omega)
            rw [show c0.len + (j - len) = off + j by omega] at e'
            rw [e, e'])
        rw [upd2] at hmv
        refine hmv.put hu.d ⟨ad, cap, rfl, by rw [ha.len]; omega, .inr ⟨by simp [upd', had], ?_⟩⟩
        simp only [upd', if_true]; omega


/-- COPY into a slice of the call's own. -/
theorem Y.cpy {T T' E n by' bz id off len : Nat} {dE : TypeDesc} {z zz c c2 c' : Cs} {x y : Operand} {v2 : AV} {ats : Array TypeId} (hT : TyI cx.P T (.slice E) n by' z) (hE : TyI cx.P E dE 1 bz zz)
    (hu : Up cx ops F o) (ho : o.op = .call { callee := .builtin .copy, args := #[x, y], argTypes := ats }) (hat : ats = #[T, T']) (hx : evF F x = some (.one (.sg id off len))) (hb : H id = some (.own c)) (_hl : off + len ≤ c.len) (hy : evF F y = some v2) (hs : Src H v2 c2)
    (hle : c2.len ≤ len) (hsp : Spl c off (.row c2) c') (hcell : (AV.row c2).cells? = true) : Doing cx ops o F H ⟨.one (.n .i64 c2.len), [(id, .own c')], []⟩ := by
  intro F' H' hF hH _ ρ A a w hst K Q hK
  unfold StepOp
  rw [if_pos (hu.wanted (hst.sub hF hH))]
  obtain ⟨ad, cap, e1, hcap, h5⟩ := ev_rel hst (evF_mono hF hx)
  have hs' := hs.mono hH
  obtain ⟨ad2, cap2, e2, hcap2, hr2⟩ := hs'.read hst (ev_rel hst (evF_mono hF hy))
  obtain ⟨new, n1, n2, n3⟩ := run_firstCells (P := cx.P) (cap := cap2) hr2
  have n1' := n1 w.drawn
  have hmin : Nat.min c2.len len = c2.len := Nat.min_eq_left hle
  have hexec : (execOp a.eval o).run cx.P w = ((match ad with | some q => storeCells q new.toList | none => pure ()).run cx.P w).andThen fun _ w' => .ok (.value (.int .i64 c2.len)) w' := by
    have ea : (#[T, T'] : Array TypeId)[0]? = some T := rfl
    have eb : (#[Value.slice ad len cap, Value.slice ad2 c2.len cap2] : Array Value)[0]? = some (.slice ad len cap) := rfl
    have ec : (#[Value.slice ad len cap, Value.slice ad2 c2.len cap2] : Array Value)[1]? = some (.slice ad2 c2.len cap2) := rfl
    have : (Builtin.copy_ #[T, T'] o.type #[.slice ad len cap, .slice ad2 c2.len cap2]).run cx.P w = ((match ad with | some q => storeCells q new.toList | none => pure ()).run cx.P w).andThen fun _ w' => .ok (.int .i64 c2.len) w' := by
      unfold Builtin.copy_
      simp only [ea, eb, ec, Sem.run_bind, hT.run_und w, hE.run_size w, Result.andThen_ok, Sem.run_pure, Builtin.lenOf, hmin]
      erw [n1']
      simp only [Result.andThen_ok]
      cases ad with
      | none => rfl
      | some q => simp only [Sem.run_bind]; rfl
    have hr : (execOp a.eval o).run cx.P w = ((Builtin.copy_ #[T, T'] o.type #[.slice ad len cap, .slice ad2 c2.len cap2]).run cx.P w).andThen fun v w' => .ok (.value v) w' := by
      simp [execOp, ho, hat, resolve, invoke, builtin, e1, e2]
    rw [hr, this]
    cases (match ad with | some q => storeCells q new.toList | none => pure ()).run cx.P w <;> rfl
  have hfit := hsp.fit
  simp only [AV.clen] at hfit
  by_cases h0 : c2.len = 0
  · have : new = #[] := Array.eq_empty_of_size_eq_zero (by omega)
    subst this
    unfold Oper.wp
    have hr : (execOp a.eval o).run cx.P w = .ok (.value (.int .i64 c2.len)) w := by
      rw [hexec]; cases ad <;> rfl
    rw [hr]
    refine hK _ w ρ A ?_
    rw [ovr_cons, ovr_nil]
    have hsame : ∀ j, j < c.len → c'.at j = c.at j := fun j hj => by
      rw [hsp.at' j hj, if_neg (by simp only [AV.clen]; omega)]
    have hst2 : StRel cx F' (upd H' id (.own c')) a w ρ A := by
      have hbb := hH _ _ hb
      refine ⟨hst.df, hst.sz, hst.fr, ?_, ?_, hst.A1, hst.O, hst.fm, hst.E⟩
      · intro i b' hb'
        simp only [upd] at hb'
        split at hb'
        · rename_i he; subst he; cases hb'
          obtain ⟨q1, q2⟩ := hst.hp _ _ hbb
          refine ⟨by rw [hsp.len]; exact q1, q2.imp _root_.id ?_⟩
          rintro ⟨g1, g2, g3, g4, cs, T0, fz, g5, g6, g7, g8⟩
          refine ⟨g1, g2, g3, g4, cs, T0, fz, g5, g6, g7, fun j hj => ?_⟩
          rw [hsp.len] at hj
          rw [hsame j hj]; exact g8 j hj
        · exact hst.hp i b' hb'
      · intro i j bi bj hbi hbj li lj
        have f : ∀ i b', upd H' id (.own c') i = some b' → ∃ b'', H' i = some b'' ∧ (b'.live → b''.live) := by
          intro i b' hb'
          simp only [upd] at hb'
          split at hb'
          · rename_i he; subst he; exact ⟨_, hbb, fun _ => trivial⟩
          · exact ⟨b', hb', fun h => h⟩
        obtain ⟨bi', hbi', fi⟩ := f i bi hbi
        obtain ⟨bj', hbj', fj⟩ := f j bj hbj
        exact hst.sep i j bi' bj' hbi' hbj' (fi li) (fj lj)
    exact hst2.put hu.d ⟨rfl, fits.i64⟩
  · obtain ⟨had, hsz⟩ := h5.resolve_left (by omega)
    obtain ⟨r1, r2, cs, T0, fz, r3, r4, r5, r6⟩ := OwnB.real (hst.hp id _ (hH _ _ hb)) (by omega)
    obtain ⟨cs', k1, k2, k3⟩ := run_storeCells_fz (P := cx.P) (o := (ρ id).off + off) new.toList 0 cs w r3 r5 (by simp; omega) (by
      intro u hu'
      obtain ⟨j, hj, rfl⟩ := List.getElem_of_mem hu'
      simp only [Array.length_toList] at hj
      obtain ⟨u, hu2, h3⟩ := n3 j (by omega)
      simp only [Array.getElem?_eq_getElem hj, Option.some.injEq] at hu2
      simp only [Array.getElem_toList, hu2]
      exact (SV.rel_one (Cs.at_cell hcell (by omega)) h3).1)
    have hrun : (execOp a.eval o).run cx.P w = .ok (.value (.int .i64 c2.len)) { w with heap := w.heap.setIfInBounds (ρ id).blk (.cells cs' T0 fz) } := by
      rw [hexec, had]
      simp only [k1, Result.andThen_ok]
    unfold Oper.wp
    rw [hrun]
    refine hK _ _ ρ A ?_
    rw [ovr_cons, ovr_nil]
    refine (hst.write (hH _ _ hb) trivial r1 (by omega) r3 k2 rfl (c' := c') (by rw [hsp.len]; omega) (fun j hj => ?_) (.inl rfl)).put hu.d ⟨rfl, fits.i64⟩
    rw [hsp.len] at hj
    rw [hsp.at' j hj, k3]
    simp only [Nat.add_zero, Array.length_toList, n2]
    by_cases hj2 : off ≤ j ∧ j < off + c2.len
    · rw [if_pos (show off ≤ j ∧ j < off + (AV.row c2).clen from hj2), if_pos ⟨by omega, by omega⟩]
      obtain ⟨u, hu', hr⟩ := n3 (j - off) (by omega)
      refine ⟨u, ?_, hr⟩
      rw [Array.getElem?_toList, show (ρ id).off + j - ((ρ id).off + off) = j - off by omega]; exact hu'
    · rw [if_neg (show ¬ (off ≤ j ∧ j < off + (AV.row c2).clen) from hj2), if_neg (by omega)]
      exact r6 j hj

/-! ### Closures -/
inductive Caps (F : Nat → Option AV) : List Operand → List Nat → Prop
  | nil : Caps F [] []
  | cons (x : Operand) (xs : List Operand) (id : Nat) (ids : List Nat) : evF F x = some (.one (.p id 0)) → Caps F xs ids → Caps F (x :: xs) (id :: ids)
theorem Y.mkF {f : Nat} {caps : List Operand} {ids : List Nat} (hu : Up cx ops F o) (ho : o.op = .makeFunc (.func f) #[] caps.toArray) (hc : Caps F caps ids) : Doing cx ops o F H ⟨.one (.fn f ids), [], []⟩ :=
  Doing.val hu fun ρ A a w hs => by
    refine ⟨_, by simp only [execOp, ho]; rfl, ?_⟩
    simp only [AV.Rel, SV.Rel, List.map_toArray]
    have : caps.map a.eval = ids.map fun id => Value.pointer (some ⟨(ρ id).blk, (ρ id).off, none⟩) := by
      clear ho
      induction hc with
      | nil => rfl
      | cons x xs id ids hx _ ih =>
        have h := ev_rel hs hx
        simp only [AV.Rel, SV.Rel, Nat.add_zero] at h
        rw [List.map_cons, List.map_cons, ih, h]
    rw [this]
    rfl

/-! ### Calls -/
inductive EvL (F : Nat → Option AV) : List Operand → List AV → Prop
  | nil : EvL F [] []
  | cons (x : Operand) (xs : List Operand) (v : AV) (vs : List AV) : evF F x = some v → EvL F xs vs → EvL F (x :: xs) (v :: vs)
inductive ViewL (H : Nat → Option Bk) : List AV → List AV → Prop
  | nil : ViewL H [] []
  | cons (x y : AV) (xs ys : List AV) : View H x y → ViewL H xs ys → ViewL H (x :: xs) (y :: ys)

/-- A function of the program, with a body. -/
def FnOK (P : Program) (f : Nat) : Prop := ∃ fn, P.funcs[f]? = some fn ∧ (fn.name == "runtime.NumGoroutine") = false ∧ fn.body.isNone = false
theorem run_callFunc {P : Program} {f : Nat} (h : FnOK P f) (args : Array Value) (w : World) : (callFunc f args).run P w = .ok (.enter f args) w := by
  obtain ⟨fn, h1, h2, h3⟩ := h
  unfold callFunc
  simp only [Sem.run_bind, run_program, Result.andThen_ok, h1, h2, h3, Bool.false_eq_true, if_false, Sem.run_pure]

theorem run_call {P : Program} {f : Nat} (hf : FnOK P f) {a : Act} {w : World} {x : Operand} {xs : List Operand} {ats : Array TypeId} {caps : Array Value} (ho : o.op = .call { callee := .value x, args := xs.toArray, argTypes := ats }) (hx : a.eval x = .func (.func f) #[] caps) :
    (execOp a.eval o).run P w = .ok (.enter f ((xs.map a.eval).toArray ++ caps)) w := by
  simp only [execOp, ho, resolve, hx, Deferred.ofValue, List.map_toArray, Sem.run_bind, Sem.run_pure, Result.andThen_ok, invoke]
  rw [show (#[] ++ (xs.map a.eval).toArray : Array Value) = (xs.map a.eval).toArray by simp]
  exact run_callFunc hf _ _

theorem relL_view {a : Act} {w : World} {ρ : Nat → Loc} {A A' : Nat → Prop} (hs : StRel cx F H a w ρ A) (hA : ∀ b, A' b → A b) (hown : ∀ id b, H id = some b → b.live → (ρ id).own = true → (ρ id).size ≠ 0 → ¬ A' (ρ id).blk)
    {xs : List Operand} {vs us : List AV} (he : EvL F xs vs) : ViewL H vs us → (∀ u ∈ us, u.ids = []) → RelL ρz A' w us (xs.map a.eval) := by
  induction he generalizing us with
  | nil => intro h _; cases h; trivial
  | cons x xs v vs hx _ ih =>
    intro h hid
    cases h with
    | cons _ u _ us hv hr =>
      refine ⟨?_, ih hr fun u hu => hid u (by simp [hu])⟩
      exact (View.rel hs hA hown hv (ev_rel hs hx)).mono (fun i hi => by rw [hid u (by simp)] at hi; cases hi) (fun _ _ _ => rfl) (Nat.le_refl _) (fun _ _ h => h)

/-- A CALL by a contract between values, whose answer bears no slice. -/
theorem Y.callV {f : Nat} {x : Operand} {xs : List Operand} {ats : Array TypeId} {vs us : List AV} {res : AV} (hc : VC cx.P f us res) (hf : FnOK cx.P f) (hu : Up cx ops F o) (ho : o.op = .call { callee := .value x, args := xs.toArray, argTypes := ats }) (hx : evF F x = some (.one (.fn f [])))
    (he : EvL F xs vs) (hv : ViewL H vs us) (hid : us.all (fun u => u.ids.isEmpty) = true) (hp : res.pure = true) : Doing cx ops o F H ⟨res, [], []⟩ := by
  intro F' H' hF hH _ ρ A a w hst K Q hK
  have hst0 := hst.sub hF hH
  unfold StepOp
  rw [if_pos (hu.wanted hst0)]
  have hxr := ev_rel hst0 hx
  simp only [AV.Rel, SV.Rel, List.map_nil] at hxr
  have hrl := relL_view hst0 (A' := fun _ => False) (fun _ h => h.elim) (fun _ _ _ _ _ _ h => h) he hv (fun u hu => by simpa using List.all_eq_true.1 hid u hu)
  unfold Oper.wp
  rw [run_call hf ho hxr]
  simp only [Oper.upon, Array.append_empty]
  refine (hc (fun _ => False) w _ (fun _ h => h.elim) hrl).mono ?_
  rintro e w' ⟨r, rfl, hr, hb⟩
  exact hK r w' ρ A ((hst.below hb).put hu.d (AV.pure_rel hp hr))

/-- ... whose answer may: then what goes in is not the call's own any more. -/
theorem Y.callW {f : Nat} {x : Operand} {xs : List Operand} {ats : Array TypeId} {us : List AV} {res : AV} (hc : VC cx.P f us res) (hf : FnOK cx.P f) (hu : Up cx ops F o) (ho : o.op = .call { callee := .value x, args := xs.toArray, argTypes := ats }) (hx : evF F x = some (.one (.fn f [])))
    {vs : List AV} (he : EvL F xs vs) (hv : ViewL (fun _ => none) vs us) (hid : us.all (fun u => u.ids.isEmpty) = true) (hp : res.ids = []) : Doing cx ops o F H ⟨res, [], []⟩ := by
  intro F' H' hF hH _ ρ A a w hst K Q hK
  have hst0 := hst.sub hF hH
  unfold StepOp
  rw [if_pos (hu.wanted hst0)]
  have hxr := ev_rel hst0 hx
  simp only [AV.Rel, SV.Rel, List.map_nil] at hxr
  have hst1 : StRel cx F (fun _ => none) a w ρ A := hst0.sub (fun _ _ h => h) (fun i b h => by cases h)
  have hrl := relL_view hst1 (A' := A) (fun _ h => h) (fun _ _ h => by cases h) he hv (fun u hu => by simpa using List.all_eq_true.1 hid u hu)
  unfold Oper.wp
  rw [run_call hf ho hxr]
  simp only [Oper.upon, Array.append_empty]
  refine (hc A w _ hst.A1 hrl).mono ?_
  rintro e w' ⟨r, rfl, hr, hb⟩
  exact hK r w' ρ A ((hst.below hb).put hu.d (hr.mono (fun i hi => by rw [hp] at hi; cases hi) (fun _ _ _ => rfl) (Nat.le_refl _) (fun _ _ h => h)))

end
end Go.Fx
