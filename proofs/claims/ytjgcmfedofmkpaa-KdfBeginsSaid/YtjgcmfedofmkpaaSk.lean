/-
  Rules: a call of a closure that reads one captured slice and hands back a slice of its own.
-/
import Derived.Test.YtjgcmfedofmkpaaPb
namespace Go.Proofs.Ytjgcmfedofmkpaa
open Go Go.Fx
set_option linter.unusedVariables false
set_option linter.unusedSimpArgs false
section
variable {cx : Cx} {ops : Array Oper} {o : Oper} {F : Nat → Option AV} {H : Nat → Option Bk}
theorem Y.callFc {d f cid : Nat} {key : List Nat} {x : Operand} {xs : List Operand} {ats : Array TypeId} {vs us : List AV} {res : AV} {k : IntKind} {ys : List Nat} (hc : VF cx.P f (us ++ [.one (.pcb key)]) res k ys) (hf : FnOK cx.P f) (hu : Up cx ops F o) (ho : o.op = .call { callee := .value x, args := xs.toArray, argTypes := ats }) (hx : evF F x = some (.one (.fn f [cid]))) (hcb : H cid = some (.own (.mix [.bs false .u8 key])))
    (he : EvL F xs vs) (hv : ViewL H vs us) (hid : us.all (fun u => u.ids.isEmpty) = true) (hr0 : res.ids.all (· == 0) = true) (hnb : noImm res = true) : Doing cx ops o F H ⟨res.ren [(0, d)], [(d, .own (.ints k ys))], [d]⟩ := by
  intro F' H' hF hH hN ρ A a w hst K Q hK
  have hn := hN d (by simp)
  have hst0 := hst.sub hF hH
  unfold StepOp
  rw [if_pos (hu.wanted hst0)]
  have hxr := ev_rel hst0 hx
  simp only [AV.Rel, SV.Rel, List.map_cons, List.map_nil] at hxr
  have hrl := relL_view hst0 (A' := fun _ => False) (fun _ h => h.elim) (fun _ _ _ _ _ _ h => h) he hv (fun u hu => by simpa using List.all_eq_true.1 hid u hu)
  have hcell := (OwnB.cells (hst0.hp cid _ hcb) (show 1 ≠ 0 by decide)).2 0 (show 0 < 1 by decide)
  obtain ⟨u0, hu0, hru0⟩ := hcell
  have hcap : (AV.one (.pcb key)).Rel ρz (fun _ => False) w (.pointer (some ⟨(ρ cid).blk, (ρ cid).off, none⟩)) := by
    refine ⟨(ρ cid).blk, (ρ cid).off, u0, rfl, fun h => h, hu0, ?_⟩
    have h2 : SV.Rel ρ A w (.bs false .u8 key) u0 := hru0
    exact SV.Rel.mono (s := .bs false .u8 key) (ρ' := ρz) (A' := fun _ => False) h2 (fun i hi => by simp [SV.ids] at hi) (fun _ _ _ => rfl) (Nat.le_refl _) (fun _ _ h => h.elim)
  have hrl2 : RelL ρz (fun _ => False) w (us ++ [.one (.pcb key)]) (xs.map a.eval ++ [.pointer (some ⟨(ρ cid).blk, (ρ cid).off, none⟩)]) := relL_append hrl ⟨hcap, trivial⟩
  unfold Oper.wp
  rw [run_call hf ho hxr]
  simp only [Oper.upon]
  rw [show (xs.map a.eval).toArray ++ [Value.pointer (some ⟨(ρ cid).blk, (ρ cid).off, none⟩)].toArray = (xs.map a.eval ++ [Value.pointer (some ⟨(ρ cid).blk, (ρ cid).off, none⟩)]).toArray by simp]
  refine (hc (fun _ => False) w _ (fun _ h => h.elim) hrl2).mono ?_
  rintro e w' ⟨r, l, rfl, hr, hb, hfl, hfr⟩
  let A' : Nat → Prop := fun b => A b ∨ (l.size ≠ 0 ∧ b = l.blk)
  refine hK r w' (upd' ρ d l) A' ?_
  rw [ovr_cons, ovr_nil]
  have hst1 := hst.below hb
  have hρ : ∀ i, i ≠ d → upd' ρ d l i = ρ i := fun i hi => by simp [upd', hi]
  have hlge : l.size ≠ 0 → w.heap.size ≤ l.blk ∧ l.blk < w'.heap.size := fun hz => by
    rcases hfr with h | h
    · exact absurd h hz
    · exact ⟨h.2.1, h.2.2.1⟩
  have hA' : ∀ b, b < w.heap.size → A' b → A b := by
    rintro b hb (h | ⟨hz, rfl⟩)
    · exact h
    · have := hlge hz; omega
  have keep : ∀ b, b < w.heap.size → ¬ A b → w'.heap[b]? = w.heap[b]? := fun b hb' _ => hb.block b hb'
  refine StRel.put (F := F') ⟨hst.df, hst.sz, fun t v hv => (hst.fr t v hv).mono (fun i hi => hρ i (fun e => hn.f t v hv (e ▸ hi))) keep hb.size hA', ?_, ?_, ?_, fun b hb => .inl (hst.O b hb), hst1.fm, ?_⟩ hu.d ?_
  · intro i b hb'
    simp only [upd] at hb'
    split at hb'
    · rename_i he
      subst he
      cases hb'
      simp only [upd', if_true]
      refine ⟨hfl, ?_⟩
      rcases hfr with h | ⟨h1, h2, h3, cs, T, fz, h4, h5, h6, h7⟩
      · exact .inl h
      · by_cases hz : l.size = 0
        · exact .inl hz
        refine .inr ⟨h1, .inr ⟨hz, rfl⟩, fun hO => ?_, .inl (Nat.le_trans hst.fm.size h2), cs, T, fz, h4, h5, h6, fun j hj => ⟨_, (h7 j hj).1, rfl, (h7 j hj).2⟩⟩
        have := hst.A1 _ (hst.O _ hO); omega
    · rename_i h1
      rw [hρ i h1]
      exact (hst.hp i b hb').mono (fun k hk => hρ k (fun e => hn.g i b hb' (e ▸ hk))) keep hb.size hA' (fun hl ho' hz => hb.block _ (hst.A1 _ (hst.liveA hb' hl ho' hz))) (fun hl ho' hz => .inl (hst.liveA hb' hl ho' hz))
  · intro i j bi bj hbi hbj li lj hne oi oj zi zj
    simp only [upd] at hbi hbj
    by_cases h1 : i = d
    · have h2 : j ≠ d := fun h => hne (h1.trans h.symm)
      rw [if_neg h2] at hbj
      subst h1
      rw [hρ j h2] at oj zj ⊢
      have := hst.A1 _ (hst.liveA hbj lj oj zj)
      simp only [upd', if_true] at zi ⊢
      have := hlge zi
      omega
    · rw [if_neg h1] at hbi
      rw [hρ i h1] at oi zi ⊢
      by_cases h2 : j = d
      · subst h2
        have := hst.A1 _ (hst.liveA hbi li oi zi)
        simp only [upd', if_true] at zj ⊢
        have := hlge zj
        omega
      · rw [if_neg h2] at hbj
        rw [hρ j h2] at oj zj ⊢
        exact hst.sep i j bi bj hbi hbj li lj hne oi oj zi zj
  · rintro b (hb' | ⟨hz, rfl⟩)
    · exact Nat.lt_of_lt_of_le (hst.A1 b hb') hb.size
    · exact (hlge hz).2
  · intro i hi
    have : i ≠ d := fun e => hn.e (e ▸ hi)
    rw [hρ i this]; exact hst.E i hi
  · refine AV.ren_rel ?_
    refine noImm_rel hnb (hr.mono (fun i hi => ?_) (fun _ _ _ => rfl) (Nat.le_refl _) (fun _ _ h => h))
    have : i = 0 := by simpa using List.all_eq_true.1 hr0 i hi
    subst this
    simp [rn, lk, upd']

end
end Go.Proofs.Ytjgcmfedofmkpaa
