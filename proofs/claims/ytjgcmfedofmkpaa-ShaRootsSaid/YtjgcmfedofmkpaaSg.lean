/-
  Rules: a slice grown by a number of zeros.
-/
import Derived.Test.YtjgcmfedofmkpaaSd
namespace Go.Proofs.Ytjgcmfedofmkpaa
open Go Go.Fx
set_option linter.unusedVariables false
set_option linter.unusedSimpArgs false
theorem zeros_are {P : Program} {w : World} {ρ : Nat → Go.Fx.Loc} {A : Nat → Prop} {E bz : Nat} {dE : TypeDesc} {k : IntKind} (hE : TyI P E dE 1 bz (.ints k [0])) (m : Nat) :
    ∃ new : Array Value, (∀ zv, (zeroValue E).run P w = .ok zv w → new = Builtin.zeroCells zv.cells m) ∧ new.size = m ∧ ∀ j, j < m → ∃ u, new[j]? = some u ∧ ((Cs.ints k (List.replicate m 0)).at j).Rel ρ A w u := by
  obtain ⟨zv, hzv, hzvz⟩ := hE.run_zero w
  have hz : zv.cells.toList = [.int k 0] := hzvz
  have hc : zv.cells = #[.int k 0] := by
    apply Array.ext'
    rw [hz]
  refine ⟨Builtin.zeroCells zv.cells m, fun z' h' => ?_, ?_, fun j hj => ⟨.int k 0, ?_, ?_⟩⟩
  · rw [hzv] at h'
    cases h'
    rfl
  · simp [Builtin.zeroCells, hc]
  · rw [hc]
    simp [Builtin.zeroCells, hj, Nat.mod_one]
  · refine ⟨?_, ?_⟩
    · simp [Cs.at, List.getD_eq_getElem?_getD, hj]
    · simp only [List.getD_eq_getElem?_getD, List.getElem?_replicate, hj, if_true, Option.getD_some]
      right
      exact Nat.two_pow_pos _
theorem run_appendG {P : Program} {w : World} {T T' E n by' n' b' bz m l1 cap : Nat} {dE : TypeDesc} {k k2 : IntKind} {z z' : Cs} (hT : TyI P T (.slice E) n by' z) (hE : TyI P E dE 1 bz (.ints k [0])) (hT' : TyI P T' (.int k2) n' b' z') (hbz : bz ≠ 0) {ty : TypeId} {ad : Option Addr} {old new : Array Value}
    (h1 : ∀ k, (Builtin.firstCells 1 l1 (.slice ad l1 cap)).run P { w with drawn := k } = .ok old { w with drawn := k }) (hnew : ∀ zv, (zeroValue E).run P w = .ok zv w → new = Builtin.zeroCells zv.cells m) (hroom : (2 * (l1 + m) + 192) * bz ≤ 281474976710656) :
    (l1 + m ≤ cap → (Builtin.append_ #[T, T'] ty #[.slice ad l1 cap, .int .i64 m]).run P w = ((match ad with | some a => storeCells (a.add l1) new.toList | none => pure ()).run P w).andThen fun _ w' => .ok (.slice ad (l1 + m) cap) w') ∧
    (cap < l1 + m → ∃ N rest, l1 + m ≤ N ∧ rest.size = (N - (l1 + m)) * 1 ∧ (Builtin.append_ #[T, T'] ty #[.slice ad l1 cap, .int .i64 m]).run P w =
      .ok (.slice (some ⟨w.heap.size, 0, none⟩) (l1 + m) N) { w with heap := w.heap.push (.cells (old ++ new ++ rest) E), drawn := w.drawn + 1 }) := by
  obtain ⟨i, hi, hib, his⟩ := hE.run_bytes w
  obtain ⟨zv, hzv, hzvz⟩ := hE.run_zero w
  have e1 : (#[T, T'] : Array TypeId)[0]? = some T := rfl
  have e2 : (#[T, T'] : Array TypeId)[1]? = some T' := rfl
  have e3 : (#[Value.slice ad l1 cap, Value.int .i64 m] : Array Value)[0]? = some (.slice ad l1 cap) := rfl
  have e4 : (#[Value.slice ad l1 cap, Value.int .i64 m] : Array Value)[1]? = some (.int .i64 m) := rfl
  have hmm : m ≤ m * bz := Nat.le_mul_of_pos_right m (by omega)
  have hmb : m * bz ≤ (2 * (l1 + m) + 192) * bz := Nat.mul_le_mul_right _ (by omega)
  have hw : IntKind.i64.wrap (m : Int) = (m : Int) := wrap_small (by omega)
  have hi' : ∀ k, (typeInfo E).run P { w with drawn := k } = .ok i { w with drawn := k } := fun k => by
    obtain ⟨i', v', hi2, _⟩ := hE.info
    have : i' = i := by simp [typeInfo, hi2] at hi; exact hi
    simp [typeInfo, hi2, this]
  have hz' : ∀ k, (zeroValue E).run P { w with drawn := k } = .ok zv { w with drawn := k } := fun k => by
    obtain ⟨i', v', hi2, _, _, hz2, _⟩ := hE.info
    have : v' = zv := by simp [zeroValue, typeInfo, hi2, hz2] at hzv; exact hzv
    simp [zeroValue, typeInfo, hi2, hz2, this]
  have hzs : zv.cells.size = 1 := by
    have hz : zv.cells.toList = [.int k 0] := hzvz
    rw [← Array.length_toList, hz]
    rfl
  have hmn : ¬ ((m : Int) * (bz : Int) > 2 ^ 48) := by
    have : ((m * bz : Nat) : Int) ≤ 281474976710656 := by omega
    rw [Int.natCast_mul] at this
    omega
  have hi0 := hi' w.drawn
  have hn0 : new = Builtin.zeroCells zv.cells m := hnew zv hzv
  have hap : ∀ k, Sem.run P (if m * 1 = 0 then pure #[] else do
      let x ← zeroValue E
      pure (Builtin.zeroCells x.cells m)) { w with drawn := k } = .ok new { w with drawn := k } := by
    intro k
    by_cases h0 : m = 0
    · subst h0
      rw [if_pos rfl, hn0]
      simp [Builtin.zeroCells]
    · rw [if_neg (by omega)]
      simp only [Sem.run_bind, hz', Sem.run_pure, Result.andThen_ok, ← hn0]
  refine ⟨fun hle => ?_, fun hlt => ?_⟩
  · unfold Builtin.append_
    simp only [e1, e2, e3, e4, Sem.run_bind, hT.run_und w, hT'.run_und w, hE.run_size w, Result.andThen_ok, Sem.run_pure, Builtin.lenOf, if_true, asInt, asIntOf, hw]
    rw [if_neg (by omega)]
    simp only [Sem.run_bind, hi0, Result.andThen_ok, hib]
    rw [if_neg hmn]
    simp only [Sem.run_bind, Sem.run_pure, Result.andThen_ok, Int.toNat_natCast]
    rw [if_pos hle]
    have hz0 := hz' w.drawn
    simp only [Bool.not_true, Bool.false_eq_true, if_false]
    have hap0 := hap w.drawn
    simp only [Sem.run_bind, hap0, Sem.run_pure, Result.andThen_ok]
    cases ad with
    | none => rfl
    | some a => simp only [Sem.run_bind, Nat.mul_one]; rfl
  · have hns := Go.Fx.nextslicecap_le (c := cap) (n := l1 + m) hlt
    have hmul : Builtin.nextslicecap (l1 + m) cap * bz ≤ (2 * (l1 + m) + 192) * bz := Nat.mul_le_mul_right _ hns
    have hn1 : ¬ (Builtin.nextslicecap (l1 + m) cap * bz > 2 ^ 48) := by omega
    have hll : l1 + m ≤ (2 * (l1 + m) + 192) * bz := Nat.le_trans (by omega : l1 + m ≤ 2 * (l1 + m) + 192) (Nat.le_mul_of_pos_right _ (by omega))
    have hmx : ¬ (((l1 + m : Nat) : Int) > IntKind.i64.max ∧ (True ∨ bz = 0)) := by
      rintro ⟨h, _⟩
      rw [show IntKind.i64.max = 9223372036854775807 from rfl] at h
      omega
    refine ⟨(Question.appendCap (l1 + m) cap E).cut (w.tape w.drawn (Question.appendCap (l1 + m) cap E)), Builtin.zeroCells zv.cells ((Question.appendCap (l1 + m) cap E).cut (w.tape w.drawn (Question.appendCap (l1 + m) cap E)) - (l1 + m)), Nat.le_add_right _ _, ?_, ?_⟩
    · simp [Builtin.zeroCells, hzs]
    · unfold Builtin.append_
      simp only [e1, e2, e3, e4, Sem.run_bind, hT.run_und w, hT'.run_und w, hE.run_size w, Result.andThen_ok, Sem.run_pure, Builtin.lenOf, if_true, asInt, asIntOf, hw]
      rw [if_neg (by omega)]
      simp only [Sem.run_bind, hi0, Result.andThen_ok, hib]
      rw [if_neg hmn]
      simp only [Sem.run_bind, Sem.run_pure, Result.andThen_ok, Int.toNat_natCast]
      rw [if_neg (show ¬ l1 + m ≤ cap by omega)]
      simp only [Sem.run_bind, hi0, Result.andThen_ok, hib]
      rw [if_neg hmx]
      simp only [Sem.run_bind, hi0, Result.andThen_ok, hib]
      rw [if_neg hn1]
      simp only [Sem.run_bind, run_choose, hi', Result.andThen_ok, run_askRoom, h1, hap, Bool.not_true, Bool.false_eq_true, if_false]
      simp only [Sem.run_bind, Sem.run_pure, Result.andThen_ok, hz', newRow, run_newObj]
      simp only [Question.forced, Bool.false_eq_true, if_false, Result.andThen_ok, hi', h1, hz', hap]
section
variable {cx : Cx} {ops : Array Oper} {o : Oper} {F : Nat → Option AV} {H : Nat → Option Bk}
theorem Y.appG {d T T' E n by' n' b' bz : Nat} {dE : TypeDesc} {z z' c1 c2 c : Cs} {x y : Operand} {v1 : AV} {m : Nat} {k k2 : IntKind} {kill : Option Nat} {ats : Array TypeId} (hT : TyI cx.P T (.slice E) n by' z) (hE : TyI cx.P E dE 1 bz (.ints k [0])) (hT' : TyI cx.P T' (.int k2) n' b' z') (hbz : bz ≠ 0)
    (hu : Up cx ops F o) (ho : o.op = .call { callee := .builtin .append, args := #[x, y], argTypes := ats }) (hat : ats = #[T, T']) (hx : evF F x = some v1) (hb : Base H v1 c1 kill) (hy : evF F y = some (.one (.n .i64 m))) (hc2 : c2 = .ints k (List.replicate m 0)) (ha : App c1 c2 c)
    (hroom : (2 * (c1.len + c2.len) + 192) * bz ≤ 281474976710656) (hcell : (AV.row c2).cells? = true) (hex : (∃ ex k xs, v1 = .one (.bs ex k xs)) → c2.len ≠ 0) : Doing cx ops o F H ⟨.one (.sg d 0 c.len), (d, .own c) :: killL kill, [d]⟩ := by
  intro F' H' hF hH hN ρ A a w hst K Q hK
  have hn := hN d (by simp)
  unfold StepOp
  rw [if_pos (hu.wanted (hst.sub hF hH))]
  have hxr := ev_rel hst (evF_mono hF hx)
  have hyr := ev_rel hst (evF_mono hF hy)
  have hb' := hb.mono hH
  have hz1 : (Cs.ints k [0]).len = 1 := rfl
  have hc2l : c2.len = m := by rw [hc2]; simp [Cs.len]
  obtain rfl : m = c2.len := hc2l.symm
  obtain ⟨ad, cap, e1, hcap, hr1⟩ := hb'.src.read hst hxr
  obtain ⟨e2, _⟩ : a.eval y = .int .i64 (c2.len : Nat) ∧ fits .i64 c2.len := hyr
  obtain ⟨old, o1, o2, o3⟩ := run_firstCells (P := cx.P) (cap := cap) hr1
  obtain ⟨new, hnew, n2', n3'⟩ := zeros_are (ρ := ρ) (A := A) (w := w) hE c2.len
  have n2 : new.size = c2.len := n2'
  have n3 : ∀ j, j < c2.len → ∃ u, new[j]? = some u ∧ (c2.at j).Rel ρ A w u := by
    intro j hj
    have := n3' j hj
    rw [← hc2] at this
    exact this
  obtain ⟨inPlace, grows⟩ := run_appendG (P := cx.P) (ty := o.type) hT hE hT' hbz o1 hnew hroom
  have hexec : (execOp a.eval o).run cx.P w = ((Builtin.append_ #[T, T'] o.type #[.slice ad c1.len cap, .int .i64 (c2.len : Nat)]).run cx.P w).andThen fun v w' => .ok (.value v) w' := by
    simp [execOp, ho, hat, resolve, invoke, builtin, e1, e2]
  have hid : d ∉ c.ids := ha.nom (hb'.src.nom hn) (by intro j hj hmem; have hmem2 : d ∈ ((Cs.ints k (List.replicate c2.len 0)).at j).ids := hc2 ▸ hmem; simp [Cs.at, SV.ids] at hmem2)
  rcases Nat.lt_or_ge cap (c1.len + c2.len) with hlt | hge
  · -- it grows
    obtain ⟨N, rest, g1, g2, g3⟩ := grows (by omega)
    unfold Oper.wp
    rw [hexec, g3]
    have hst' : StRel cx F' (ovr (killL kill) H') a w ρ A := by
      rw [killL_ovr]
      cases kill with
      | none => exact hst
      | some id => exact hst.kill id
    have hn' : Nom cx d F' (ovr (killL kill) H') := by
      rw [killL_ovr]
      cases kill with
      | none => exact hn
      | some id =>
        refine hn.kill ?_
        cases hb' with
        | sg _ off len c0 c' hbb hl he => rintro rfl; rw [hn.h] at hbb; cases hbb
    have hsize : (old ++ new ++ rest).size = c1.len + c2.len + rest.size := by simp [o2, n2]; omega
    have hcs : ∀ j, j < c.len → ∃ u, (old ++ new ++ rest)[j]? = some u ∧ (c.at j).Rel ρ A w u := by
      intro j hj
      rw [ha.len] at hj
      by_cases hj1 : j < c1.len
      · obtain ⟨u, hu', hr⟩ := o3 j hj1
        exact ⟨u, by rw [Array.append_assoc, Array.getElem?_append_left (by omega)]; exact hu', by rw [ha.l j hj1]; exact hr⟩
      · obtain ⟨u, hu', hr⟩ := n3 (j - c1.len) (by omega)
        refine ⟨u, ?_, ?_⟩
        · rw [Array.append_assoc, Array.getElem?_append_right (by omega), o2, Array.getElem?_append_left (by omega)]; exact hu'
        · have := ha.r (j - c1.len) (by omega)
          rw [show c1.len + (j - c1.len) = j by omega] at this
          rw [this]; exact hr
    refine hK _ _ (upd' ρ d ⟨w.heap.size, 0, (old ++ new ++ rest).size, true⟩) (fun b => A b ∨ b = w.heap.size) ?_
    rw [ovr_cons]
    have hzz : rest.size = (N - (c1.len + c2.len)) * 1 := g2
    refine (hst'.alloc (w' := { w with heap := w.heap.push (.cells (old ++ new ++ rest) E), drawn := w.drawn + 1 }) hn' (cs := old ++ new ++ rest) (T := E) (fz := (0, 0)) ⟨rfl, rfl, rfl, rfl⟩ (unfrozen0 _) (c := c) (by rw [ha.len, hsize]; omega) hcs hid (.inl rfl)).put hu.d ?_
    refine ⟨_, N, by rw [ha.len], by rw [ha.len]; exact g1, .inr ⟨by simp [upd'], ?_⟩⟩
    simp only [upd', if_true, Nat.zero_add]
    rw [hsize, hzz]
    omega
  · -- there is room
    have hip := inPlace (by omega)
    have hset : (a.put o.dst (.slice ad (c1.len + c2.len) cap)) = (a.put o.dst (.slice ad c.len cap)) := by rw [ha.len]
    -- nothing is written
    have still : c2.len = 0 → (execOp a.eval o).run cx.P w = .ok (.value (.slice ad c.len cap)) w := by
      intro h0
      have : new = #[] := Array.eq_empty_of_size_eq_zero (by omega)
      subst this
      rw [hexec, hip, ha.len]
      cases ad <;> rfl
    -- nothing
    have alone : c2.len = 0 → kill = none → c1.len = 0 → cap = 0 → o.wp cx.P a w K Q := by
      intro h0 hk h1 hc
      unfold Oper.wp
      rw [still h0]
      refine hK _ w (upd' ρ d ⟨0, 0, 0, false⟩) A ?_
      rw [ovr_cons, killL_ovr, hk]
      have hcl : c.len = 0 := by rw [ha.len]; omega
      exact (hst.adopt hn hcl).put hu.d ⟨ad, cap, rfl, by omega, .inl hc⟩
    cases hb' with
    | nilI k =>
      obtain ⟨ad', e3⟩ := hxr
      rw [e1] at e3
      simp only [Value.slice.injEq] at e3
      exact alone (by omega) rfl e3.2.1 e3.2.2
    | nilM =>
      obtain ⟨ad', e3⟩ := hxr
      rw [e1] at e3
      simp only [Value.slice.injEq] at e3
      exact alone (by omega) rfl e3.2.1 e3.2.2
    | ex k xs =>
      obtain ⟨ad', cap', e3, h4, h5, h6⟩ := hxr
      rw [e1] at e3
      simp only [Value.slice.injEq] at e3
      obtain ⟨rfl, e4, rfl⟩ := e3
      have hc := h5 rfl
      have hxl : (Cs.ints k xs).len = xs.length := rfl
      exact absurd (show c2.len = 0 by omega) (hex ⟨_, _, _, rfl⟩)
    | sg id off len c0 c1 hbb hl he =>
      subst he
      obtain ⟨ad', cap', e3, h4, h5⟩ := hxr
      rw [e1] at e3
      simp only [Value.slice.injEq] at e3
      obtain ⟨rfl, e4, rfl⟩ := e3
      have hdid : d ≠ id := by rintro rfl; rw [hn.h] at hbb; cases hbb
      have hlen1 : (c0.sub off len).len = len := Cs.sub_len (by omega)
      have upd2 : ∀ (H : Nat → Option Bk) (x y : Bk), upd (upd H id x) id y = upd H id y := by
        intro H x y; funext i; simp only [upd]; split <;> rfl
      have nomg : ∀ {x : Bk}, d ∉ x.ids → Nom cx d F' (upd H' id x) := by
        intro x hx
        refine ⟨hn.e, by simp only [upd]; rw [if_neg hdid]; exact hn.h, hn.f, fun i b' hb' => ?_⟩
        simp only [upd] at hb'
        split at hb'
        · cases hb'; exact hx
        · exact hn.g i b' hb'
      have hc0id : d ∉ c0.ids := hn.g id _ hbb
      by_cases h0 : c2.len = 0
      · unfold Oper.wp
        rw [still h0]
        refine hK _ w (upd' ρ d ⟨(ρ id).blk, (ρ id).off + off, (ρ id).size - off, (ρ id).own⟩) A ?_
        rw [ovr_cons, killL_ovr]
        have hmv := hst.move (id := id) (d := d) (off := off) (c := c0) (c' := c) hbb hn (by omega) (by rw [ha.len, hlen1]; omega) (fun j hj => by
          rw [ha.len, hlen1] at hj
          rw [ha.l j (by omega), Cs.sub_at (by omega)])
        refine hmv.put hu.d ⟨ad, cap, rfl, by rw [ha.len]; omega, h5.imp _root_.id fun ⟨q1, q2⟩ => ⟨by simp [upd', q1], ?_⟩⟩
        simp only [upd', if_true]; omega
      · -- it is written behind
        have hcap0 : cap ≠ 0 := by omega
        obtain ⟨had, hsz⟩ := h5.resolve_left hcap0
        have hz : (ρ id).size ≠ 0 := by omega
        have hownB : OwnB cx ρ A w (ρ id) c0 := hst.hp id _ hbb
        obtain ⟨r1, r2, cs, T0, fz, r3, r4, r5, r6⟩ := OwnB.real hownB hz
        obtain ⟨cs', k1, k2, k3⟩ := run_storeCells_fz (P := cx.P) (o := (ρ id).off + off + len) new.toList 0 cs w r3 r5 (by simp; omega) (by
          intro u hu'
          obtain ⟨j, hj, rfl⟩ := List.getElem_of_mem hu'
          simp only [Array.length_toList] at hj
          obtain ⟨u, hu2, h3⟩ := n3 j (by omega)
          simp only [Array.getElem?_eq_getElem hj, Option.some.injEq] at hu2
          simp only [Array.getElem_toList, hu2]
          exact (SV.rel_one (Cs.at_cell hcell (by omega)) h3).1)
        have hrun : (execOp a.eval o).run cx.P w = .ok (.value (.slice ad c.len cap)) { w with heap := w.heap.setIfInBounds (ρ id).blk (.cells cs' T0 fz) } := by
          rw [hexec, hip, had, hlen1]
          simp only [addr_add, k1, Result.andThen_ok, ha.len, hlen1]
        unfold Oper.wp
        rw [hrun]
        refine hK _ _ (upd' ρ d ⟨(ρ id).blk, (ρ id).off + off, (ρ id).size - off, (ρ id).own⟩) A ?_
        rw [ovr_cons, killL_ovr]
        have htl := App.toL c0 c2
        have hwr := hst.write (bk := .own (.mix (c0.toL ++ c2.toL))) hbb trivial r1 hz r3 k2 rfl (c' := .mix (c0.toL ++ c2.toL)) (by rw [htl.len]; omega) (fun j hj => by
          rw [htl.len] at hj
          rw [k3]
          simp only [Nat.add_zero, Array.length_toList, n2]
          by_cases hj1 : j < c0.len
          · rw [if_neg (by omega), htl.l j hj1]
            exact r6 j hj1
          · rw [if_pos ⟨by omega, by omega⟩]
            obtain ⟨u, hu', hr⟩ := n3 (j - c0.len) (by omega)
            have e := htl.r (j - c0.len) (by omega)
            rw [show c0.len + (j - c0.len) = j by omega] at e
            refine ⟨u, ?_, by rw [e]; exact hr⟩
            rw [Array.getElem?_toList, show (ρ id).off + j - ((ρ id).off + off + len) = j - c0.len by omega]; exact hu') (.inl rfl)
        have hmv := hwr.move (id := id) (d := d) (off := off) (c := .mix (c0.toL ++ c2.toL)) (c' := c) (by simp [upd]) (nomg (htl.nom (fun j hj hm => hc0id (Cs.ids_at hj hm)) (by intro j hj hmem; have hmem2 : d ∈ ((Cs.ints k (List.replicate c2.len 0)).at j).ids := hc2 ▸ hmem; simp [Cs.at, SV.ids] at hmem2))) (by rw [htl.len]; omega) (by rw [htl.len, ha.len, hlen1]; omega) (fun j hj => by
          rw [ha.len, hlen1] at hj
          by_cases hj1 : j < len
          · rw [ha.l j (by omega), Cs.sub_at (by omega), htl.l _ (by omega)]
          · have e := ha.r (j - len) (by omega)
            rw [hlen1, show len + (j - len) = j by omega] at e
            have e' := htl.r (j - len) (by omega)
            rw [show c0.len + (j - len) = off + j by omega] at e'
            rw [e, e'])
        rw [upd2] at hmv
        refine hmv.put hu.d ⟨ad, cap, rfl, by rw [ha.len]; omega, .inr ⟨by simp [upd', had], ?_⟩⟩
        simp only [upd', if_true]; omega


end
end Go.Proofs.Ytjgcmfedofmkpaa
