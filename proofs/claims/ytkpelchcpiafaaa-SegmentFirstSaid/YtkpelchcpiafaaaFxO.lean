/-
  FxO: stores, copies, appends, slices that are made, closures; calls met by contracts.
-/
import Derived.Test.YtkpelchcpiafaaaFxN
namespace Go.Fx
set_option linter.unusedVariables false
set_option linter.unusedSimpArgs false
open Go.RowKit (Below)

section
variable {cx : Cx} {ops : Array Oper} {o : Oper} {F : Nat → Option AV} {H : Nat → Option Bk}

theorem map_range0 {β : Type} (f : Nat → β) : (Array.range (0 * 1)).map f = #[] := by
  apply Array.ext
  · simp
  · intro i h; simp at h
theorem set_set {α : Type} (a : Array α) (i : Nat) (x y : α) : (a.setIfInBounds i x).setIfInBounds i y = a.setIfInBounds i y := by
  apply Array.ext_getElem?
  intro j
  by_cases h : i = j
  · subst h; simp [Array.getElem?_setIfInBounds]
  · rw [Array.getElem?_setIfInBounds_ne h, Array.getElem?_setIfInBounds_ne h, Array.getElem?_setIfInBounds_ne h]
theorem modify_push_last {α : Type} (a : Array α) (x : α) (f : α → α) : (a.push x).modify a.size f = a.push (f x) := by
  apply Array.ext_getElem?
  intro i
  rw [Array.getElem?_modify, Array.getElem?_push, Array.getElem?_push]
  by_cases h : a.size = i
  · subst h; simp
  · simp [h, Ne.symm h]

theorem setSelf {w : World} {b : Nat} {x : Obj} (h : w.heap[b]? = some x) : { w with heap := w.heap.setIfInBounds b x } = w := by
  have : w.heap.setIfInBounds b x = w.heap := by
    apply Array.ext_getElem?
    intro i
    by_cases hi : b = i
    · subst hi
      have hlt : b < w.heap.size := by
        rcases Nat.lt_or_ge b w.heap.size with h' | h'
        · exact h'
        · simp [Array.getElem?_eq_none h'] at h
      rw [Array.getElem?_setIfInBounds]; simp [hlt, ← h]
    · rw [Array.getElem?_setIfInBounds_ne hi]
  rw [this]

theorem setCell_eq {w : World} {b k : Nat} {cs : Array Value} {T : TypeId} {fz : Nat × Nat} (h : w.heap[b]? = some (.cells cs T fz)) (v : Value) :
    w.setCell ⟨b, k, none⟩ v = { w with heap := w.heap.setIfInBounds b (.cells (cs.setIfInBounds k v) T fz) } := by
  unfold World.setCell
  have : (w.heap.modify b fun
      | .cells c elem frozen => Obj.cells (if (none : Option Nat).isSome then c else c.setIfInBounds k v) elem frozen
      | o => o) = w.heap.setIfInBounds b (.cells (cs.setIfInBounds k v) T fz) := by
    apply Array.ext_getElem?
    intro i
    rw [Array.getElem?_modify]
    by_cases hi : b = i
    · subst hi
      have hlt : b < w.heap.size := by
        rcases Nat.lt_or_ge b w.heap.size with h' | h'
        · exact h'
        · simp [Array.getElem?_eq_none h'] at h
      simp only [Array.getElem?_eq_getElem hlt, Option.some.injEq] at h
      rw [Array.getElem?_setIfInBounds]; simp [hlt, h]
    · rw [Array.getElem?_setIfInBounds_ne hi]; simp [hi]
  exact congrArg (fun x => ({ w with heap := x } : World)) this

theorem run_storeCells_fz {P : Program} {b o : Nat} {T : TypeId} {fz : Nat × Nat} : ∀ (vs : List Value) (i : Nat) (cs : Array Value) (w : World), w.heap[b]? = some (.cells cs T fz) → Unfrozen fz cs.size → o + i + vs.length ≤ cs.size → (∀ v ∈ vs, v.oneCell' = true) →
    ∃ cs' : Array Value, (storeCells ⟨b, o, none⟩ vs i).run P w = .ok () { w with heap := w.heap.setIfInBounds b (.cells cs' T fz) } ∧ cs'.size = cs.size ∧
      ∀ j, cs'[j]? = if o + i ≤ j ∧ j < o + i + vs.length then vs[j - (o + i)]? else cs[j]?
  | [], i, cs, w, h, _, _, _ => ⟨cs, by rw [setSelf h]; rfl, rfl, fun j => by rw [if_neg (by simp)]⟩
  | v :: vs, i, cs, w, h, hf, hl, h1 => by
    simp only [List.length_cons] at hl
    have hlt : b < w.heap.size := by
      rcases Nat.lt_or_ge b w.heap.size with h' | h'
      · exact h'
      · simp [Array.getElem?_eq_none h'] at h
    have hc : w.cell? ⟨b, o + i, none⟩ = some (cs[o + i]'(by omega)) := by
      simp only [World.cell?, h, Option.isSome_none, Bool.false_eq_true, if_false]
      simp [show o + i < cs.size by omega]
    have hz : w.frozen? ⟨b, o + i, none⟩ = false := by
      simp only [World.frozen?, h]
      exact hf.at (o + i) (by omega)
    have h' : ({ w with heap := w.heap.setIfInBounds b (.cells (cs.setIfInBounds (o + i) v) T fz) } : World).heap[b]? = some (.cells (cs.setIfInBounds (o + i) v) T fz) := by
      simp [hlt]
    obtain ⟨cs', g1, g2, g3⟩ := run_storeCells_fz (P := P) (o := o) vs (i + 1) (cs.setIfInBounds (o + i) v) { w with heap := w.heap.setIfInBounds b (.cells (cs.setIfInBounds (o + i) v) T fz) } h' (by simpa using hf) (by simp; omega) (fun u hu => h1 u (by simp [hu]))
    refine ⟨cs', ?_, by simpa using g2, fun j => ?_⟩
    · simp only [storeCells, addr_add, Sem.run_bind, run_store P w _ v _ (h1 v (by simp)), hc, hz, Bool.false_eq_true, if_false, Result.andThen_ok, setCell_eq h, g1, set_set]
    · rw [g3 j]
      by_cases hj : o + i = j
      · subst hj
        rw [if_neg (by omega), if_pos ⟨by omega, by simp⟩]
        simp [show o + i < cs.size by omega]
      · by_cases hj2 : o + (i + 1) ≤ j ∧ j < o + (i + 1) + vs.length
        · rw [if_pos hj2, if_pos ⟨by omega, by simp; omega⟩, show j - (o + i) = (j - (o + (i + 1))) + 1 by omega]
          simp
        · rw [if_neg hj2, if_neg (by simp; omega), Array.getElem?_setIfInBounds_ne hj]

theorem OwnB.real {cx : Cx} {ρ : Nat → Loc} {A : Nat → Prop} {w : World} {l : Loc} {c : Cs} (h : OwnB cx ρ A w l c) (hc : l.size ≠ 0) : l.own = true ∧ c.len ≤ l.size ∧ ∃ cs T fz, w.heap[l.blk]? = some (.cells cs T fz) ∧ l.off + l.size ≤ cs.size ∧ Unfrozen fz cs.size ∧
    ∀ j, j < c.len → ∃ u, cs[l.off + j]? = some u ∧ (c.at j).Rel ρ A w u := by
  rcases h.2 with h2 | ⟨ho, _, _, _, cs, T, fz, h3, h4, h5, h6⟩
  · exact absurd h2 hc
  · exact ⟨ho, h.1, cs, T, fz, h3, h4, h5, h6⟩

/-- A STORE. -/
theorem Y.st {T n by' id off : Nat} {d : TypeDesc} {z c c' : Cs} {x y : Operand} {v : AV} (hT : TyI cx.P T d n by' z) (hu : Up cx ops F o) (ho : o.op = .store T x y) (hx : evF F x = some (.one (.p id off))) (hy : evF F y = some v) (hv : v.cells? = true) (hn : v.clen = n)
    (hb : H id = some (.own c)) (hs : Spl c off v c') (hn0 : n ≠ 0) : Doing cx ops o F H ⟨.one .u, [(id, .own c')], []⟩ := by
  intro F' H' hF hH _ ρ A a w hst K Q hK
  have hst0 := hst.sub hF hH
  unfold StepOp
  rw [if_pos (hu.wanted hst0)]
  have h1 := ev_rel hst0 hx
  simp only [AV.Rel, SV.Rel] at h1
  obtain ⟨g1, g2⟩ := AV.rel_cells hv (ev_rel hst0 hy)
  have hfit := hs.fit
  have hown := hst0.hp id _ hb
  obtain ⟨r1, r2, cs, T', fz, r3, r4, r5, r6⟩ := OwnB.real hown (by have := hown.1; omega)
  obtain ⟨cs', k1, k2, k3⟩ := run_storeCells_fz (P := cx.P) (o := (ρ id).off + off) (a.eval y).cells.toList 0 cs w r3 r5 (by simp; omega) (by
    intro u hu'
    obtain ⟨j, hj, rfl⟩ := List.getElem_of_mem hu'
    simp only [Array.length_toList] at hj
    obtain ⟨u, hu2, _, h3⟩ := g2 j (by omega)
    simp only [Array.getElem?_eq_getElem hj, Option.some.injEq] at hu2
    simp only [Array.getElem_toList, hu2, h3])
  have hrun : (execOp a.eval o).run cx.P w = .ok .skip { w with heap := w.heap.setIfInBounds (ρ id).blk (.cells cs' T' fz) } := by
    simp only [execOp, ho, h1, Instr.storeAt, Instr.sureAddr, storeVar, Sem.run_bind, Sem.run_pure, Result.andThen_ok, hT.run_size w]
    rw [if_neg (by omega)]
    simp only [Result.andThen_ok, k1]
  unfold Oper.wp
  rw [hrun]
  refine hK undef _ ρ A ?_
  rw [ovr_cons, ovr_nil]
  refine (hst.write (hH _ _ hb) trivial r1 (by omega) r3 k2 rfl (c' := c') (by rw [hs.len]; omega) (fun j hj => ?_) (.inl rfl)).put hu.d rfl
  rw [hs.len] at hj
  rw [hs.at' j hj, k3]
  simp only [Nat.add_zero, Array.length_toList]
  by_cases hj2 : off ≤ j ∧ j < off + v.clen
  · rw [if_pos hj2, if_pos ⟨by omega, by omega⟩]
    obtain ⟨u, hu', hr, _⟩ := g2 (j - off) (by omega)
    refine ⟨u, ?_, hr⟩
    rw [Array.getElem?_toList, show (ρ id).off + j - ((ρ id).off + off) = j - off by omega]; exact hu'
  · rw [if_neg hj2, if_neg (by omega)]
    exact r6 j hj

/-! ### Slices that are made -/
theorem Y.mkS {d T E n by' bz L : Nat} {dE : TypeDesc} {z : Cs} {k : IntKind} {x y : Operand} (hT : TyI cx.P T (.slice E) n by' z) (hE : TyI cx.P E (.int k) 1 bz (.ints k [0])) (hu : Up cx ops F o) (ho : o.op = .makeSlice T x y)
    (hx : evF F x = some (.one (.n .i64 L))) (hy : evF F y = some (.one (.n .i64 L))) (hL : bz * L ≤ 281474976710656) (hL' : L < 9223372036854775808) (_ : dE = .int k := by rfl) :
    Doing cx ops o F H ⟨.one (.sg d 0 L), [(d, .own (.ints k (List.replicate L 0)))], [d]⟩ :=
  Doing.new hu (.inl rfl) (fun _ _ _ _ _ => by simp [Cs.ids]) fun ρ A a w hs => by
    have h1 := ev_rel hs hx
    have h2 := ev_rel hs hy
    simp only [AV.Rel, SV.Rel] at h1 h2
    obtain ⟨v, hv, hvz⟩ := hE.run_zero w
    obtain ⟨i, hi, hib, his⟩ := hE.run_bytes w
    have hvc : v.cells = #[Value.int k 0] := by
      apply Array.ext'
      rw [hvz]; rfl
    have hw := wrap_i64 (L : Int) (by omega) (by omega)
    have hcells : ((Array.range (L * 1)).map fun j => (#[Value.int k 0] : Array Value)[j % (#[Value.int k 0] : Array Value).size]!) = Array.replicate L (Value.int k 0) := by
      apply Array.ext
      · simp
      · intro j h1 h2
        simp [Nat.mod_one]
    refine ⟨.slice (some ⟨w.heap.size, 0, none⟩) L L, w.alloc (.cells (Array.replicate L (.int k 0)) E), _, E, (0, 0), ?_, ⟨rfl, rfl, rfl, rfl⟩, unfrozen0 _, by simp [Cs.len], fun j hj => ?_, ?_⟩
    · have ht : ¬ ((decide ((L : Int) < 0) || decide ((bz : Int) * L > 2 ^ 48)) = true) := by
        simp
        have : (bz : Int) * L = ((bz * L : Nat) : Int) := by simp
        omega
      have ht' : (decide ((L : Int) < 0) || decide ((bz : Int) * L > 2 ^ 48)) = false := by simpa using ht
      simp only [execOp, ho, h1, h2, Instr.makeSlice, asInt, asIntOf, Sem.run_bind, Sem.run_pure, Result.andThen_ok, hT.run_und w, hi, hib, hw, ht']
      have hn0 : (decide ((L : Int) < 0)) = false := by simp
      have hn1 : (decide ((L : Int) > L)) = false := by simp
      simp only [hn0, hn1, Bool.or_self, Bool.false_eq_true, if_false, Sem.run_bind, run_askRoom, Result.andThen_ok, Int.toNat_natCast, hE.run_size w]
      by_cases hL0 : L * 1 = 0
      · rw [if_pos hL0]
        have : L = 0 := by omega
        subst this
        simp only [Sem.run_pure, Result.andThen_ok, newRow, Sem.run_bind, run_newObj, map_range0]
        rfl
      · rw [if_neg hL0]
        simp only [Sem.run_bind, hv, Result.andThen_ok, Sem.run_pure, hvc, newRow, run_newObj, hcells]
        rfl
    · simp only [Cs.len, List.length_replicate] at hj
      have e : (List.replicate L 0).getD j 0 = 0 := by simp [List.getD_eq_getElem?_getD, hj]
      refine ⟨.int k 0, by simp [hj], ?_⟩
      show Value.int k 0 = .int k ((List.replicate L 0).getD j 0 : Nat) ∧ fits k ((List.replicate L 0).getD j 0)
      rw [e]
      exact ⟨rfl, .inr (Nat.two_pow_pos _)⟩
    · simp only [Array.size_replicate]
      exact .sli _ _ _ _ (Nat.le_refl _) (Nat.le_refl _)

theorem Y.bldS {d T E n by' sz bz L : Nat} {dE : TypeDesc} {z zz c : Cs} {parts : List (Nat × Operand)} (hT : TyI cx.P T (.slice E) n by' z) (hE : TyI cx.P E dE sz bz zz) (hsz : sz = 1) (hu : Up cx ops F o) (ho : o.op = .buildSlice T L parts.toArray)
    (z0 : Cs) (hz0 : z0.vals = ((List.range L).map fun _ => zz.vals.headD undef)) (hzl : z0.len = L) (hzz : z0.plain = true) (hz : zz.len = 1) (hL0 : L ≠ 0) (hL : L ≤ 16777216) (hf : Fill F (fun i => some (i * sz, sz)) parts z0 c) : Doing cx ops o F H ⟨.one (.sg d 0 L), [(d, .own c)], [d]⟩ := by
  subst hsz
  obtain ⟨q1, q2⟩ : ∃ l : Nat, c.len = l ∧ l = L := by
    refine ⟨c.len, rfl, ?_⟩
    have : ∀ {parts : List (Nat × Operand)} {c c2 : Cs}, Fill F (fun i => some (i * 1, 1)) parts c c2 → c2.len = c.len := by
      intro parts c c2 h
      induction h with
      | nil => rfl
      | cons _ _ _ _ _ _ _ _ _ _ _ _ _ hsp _ ih => rw [ih, hsp.len]
    rw [this hf, hzl]
  refine Doing.new hu (.inl rfl) (fun F' H' hF _ hn => Cs.nom_of_at (hf.ids (fun x v hx => evF_nom hn (evF_mono hF hx)) fun j hj => ?_)) fun ρ A a w hs => ?_
  · cases z0 with
    | ints k xs => simp [Cs.at, SV.ids]
    | mix l =>
      simp only [Cs.len] at hj
      simp only [Cs.at, List.getD_eq_getElem?_getD, hj, List.getElem?_eq_getElem, Option.getD_some]
      have := List.all_eq_true.1 hzz _ (List.getElem_mem hj)
      generalize l[j] = s at *
      cases s <;> simp_all [SV.plain, SV.ids]
  · obtain ⟨v, hv, hvz⟩ := hE.run_zero w
    obtain ⟨i, hi, hib, his⟩ := hE.run_bytes w
    obtain ⟨h1, h2⟩ := Cs.vals_at hzz ρ A w
    have hvs : v.cells.size = 1 := by
      have : v.cells.toList.length = zz.vals.length := by rw [hvz]
      simp only [Array.length_toList] at this
      rw [this]
      cases zz <;> simpa [Cs.vals, Cs.len] using hz
    have hcells : ((Array.range (L * 1)).map fun j => v.cells[j % v.cells.size]!).toList = z0.vals := by
      rw [hz0]
      simp only [Array.toList_map, Array.toList_range, Nat.mul_one, hvs, Nat.mod_one]
      apply List.map_congr_left
      intro j _
      have : v.cells = #[zz.vals.headD undef] := by
        apply Array.ext'
        rw [hvz]
        have hl : zz.vals.length = 1 := by rw [← hvz]; simpa using hvs
        match hzv : zz.vals, hl with
        | [q], _ => rfl
      rw [this]; rfl
    obtain ⟨cs, g1, g2, g3⟩ := hf.run hs (cells := (Array.range (L * 1)).map fun j => v.cells[j % v.cells.size]!) (by rw [← h1, ← hcells]; simp) (fun j hj => by
      obtain ⟨u, hu', hr⟩ := h2 j hj
      exact ⟨u, by rw [← Array.getElem?_toList, hcells]; exact hu', hr⟩)
    refine ⟨.slice (some ⟨w.heap.size, 0, none⟩) L L, w.alloc (.cells cs E), cs, E, (0, 0), ?_, ⟨rfl, rfl, rfl, rfl⟩, unfrozen0 _, by omega, g3, .sli _ _ _ _ (Nat.le_refl _) (by omega)⟩
    simp only [execOp, ho, Instr.buildSlice, Sem.run_bind, hT.run_und w, Result.andThen_ok, hE.run_size w, List.map_toArray]
    rw [if_neg (by omega)]
    simp only [Sem.run_pure]
    rw [if_neg (by omega)]
    simp only [Sem.run_bind, hv, Result.andThen_ok, Sem.run_pure, g1, newRow, run_newObj]
    rfl
/-- No element. -/
theorem Y.bldS0 {T E n by' sz bz : Nat} {dE : TypeDesc} {z zz : Cs} (hT : TyI cx.P T (.slice E) n by' z) (hE : TyI cx.P E dE sz bz zz) (hu : Up cx ops F o) (ho : o.op = .buildSlice T 0 #[]) : Doing cx ops o F H ⟨.one .nil, [], []⟩ := by
  intro F' H' hF hH _ ρ A a w hst K Q hK
  have hst0 := hst.sub hF hH
  unfold StepOp
  rw [if_pos (hu.wanted hst0)]
  unfold Oper.wp
  have : (execOp a.eval o).run cx.P w = .ok (.value (.slice (some ⟨w.heap.size, 0, none⟩) 0 0)) (w.alloc (.cells #[] E)) := by
    simp only [execOp, ho, Instr.buildSlice, Sem.run_bind, hT.run_und w, Result.andThen_ok, hE.run_size w]
    have e0 : (Array.map (fun (_ : Nat) => (default : Value)) (Array.range 0)) = #[] := by
      apply Array.ext
      · simp
      · intro i h; simp at h
    simp [Instr.fill, newRow, e0]
  rw [this]
  exact hK _ _ ρ A ((hst.below ((Below.refl _ _).alloc (Nat.le_refl _) _)).put hu.d ⟨_, rfl⟩)

/-- The bytes of a string that the text writes out. -/
theorem Y.bytesC {d T T' E n by' n' b' bz : Nat} {z z' zz : Cs} {x : Operand} {xs : List Nat} (hT : TyI cx.P T .string n by' z) (hT' : TyI cx.P T' (.slice E) n' b' z') (hE : TyI cx.P E (.int .u8) 1 bz zz) (hu : Up cx ops F o) (ho : o.op = .convert T T' x) (hx : evF F x = some (.one (.str xs))) :
    Doing cx ops o F H ⟨.one (.sg d 0 xs.length), [(d, .own (.ints .u8 xs))], [d]⟩ :=
  Doing.new hu (.inl rfl) (fun _ _ _ _ _ => by simp [Cs.ids]) fun ρ A a w hs => by
    obtain ⟨h1, hxs⟩ := ev_rel hs hx
    have hsz : (strOf xs).size = xs.length := by simp [strOf, ByteArray.size]
    generalize hcap : (Question.appendCap (strOf xs).size 0 E).cut (w.tape w.drawn (Question.appendCap (strOf xs).size 0 E)) = cap
    have hle : xs.length ≤ cap := by rw [← hcap, hsz]; exact Nat.le_add_right _ _
    let cs : Array Value := (strOf xs).data.map (fun b => Value.int .u8 b.toNat) ++ Array.replicate (cap - (strOf xs).size) (.int .u8 0)
    have hcs : cs.size = cap := by
      show (Array.size (_ ++ _)) = _
      rw [Array.size_append, Array.size_map, Array.size_replicate]
      have : (strOf xs).data.size = (strOf xs).size := rfl
      omega
    refine ⟨.slice (some ⟨w.heap.size, 0, none⟩) xs.length cap, { w with heap := w.heap.push (.cells cs E (cap, cap + 1)), drawn := w.drawn + 1 }, cs, E, (cap, cap + 1), ?_, ⟨rfl, rfl, rfl, rfl⟩, ?_, by simp [Cs.len]; omega, fun j hj => ?_, .sli _ _ _ _ hle (by omega)⟩
    · have hconv : (convert T T' (.string (strOf xs))).run cx.P w = (Conv.stringToBytes E (strOf xs)).run cx.P w := by
        simp only [convert, Sem.run_bind, hT.run_und w, hT'.run_und w, Result.andThen_ok, hE.run_und w]
      simp only [execOp, ho, h1, Sem.run_bind, hconv, Conv.stringToBytes, run_choose, Question.forced, Bool.false_eq_true, if_false, Result.andThen_ok, hcap, newRow, run_newObj, Sem.run_pure, markStringish, run_shape]
      have hshape : ({ w with heap := w.heap.push (.cells cs E), drawn := w.drawn + 1 } : World).shape? w.heap.size = some (E, cs.size) := by
        simp [World.shape?]
      simp only [show (Array.map (fun b => Value.int IntKind.u8 ↑b.toNat) (strOf xs).data ++ Array.replicate (cap - (strOf xs).size) (Value.int IntKind.u8 0)) = cs from rfl]
      simp only [hshape, run_freeze, Result.andThen_ok, hsz, hcs]
      simp only [World.freeze, Nat.succ_ne_zero, if_false, modify_push_last]
      rfl
    · exact .inr (by omega)
    · simp only [Cs.len] at hj
      have hx := hxs _ (List.getElem_mem hj)
      have e : xs.getD j 0 = xs[j] := by simp [List.getD_eq_getElem?_getD, hj]
      refine ⟨.int .u8 (xs[j] : Nat), ?_, by show Value.int .u8 (xs[j] : Nat) = .int .u8 (xs.getD j 0 : Nat); rw [e], by rw [e]; exact .inr hx⟩
      show (_ ++ _)[j]? = _
      rw [Array.getElem?_append_left (by simp [strOf]; exact hj)]
      simp [strOf, hj]
      omega

end
end Go.Fx
