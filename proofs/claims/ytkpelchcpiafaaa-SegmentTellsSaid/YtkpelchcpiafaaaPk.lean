/-
  The plain law of opened segments: the document's; what was sealed is opened.
-/
import Derived.Test.YtkpelchcpiafaaaTe
import Derived.Test.YtkpelchcpiafaaaPj
namespace Go.Proofs.Ytkpelchcpiafaaa
open Go Go.Fx
set_option linter.unusedVariables false
set_option linter.unusedSimpArgs false
theorem ffr_congr {p q : Nat → Bool} : ∀ k i, (∀ j, i ≤ j → j < i + k → p j = q j) → ffr p k i = ffr q k i
  | 0, i, _ => rfl
  | k + 1, i, h => by
    unfold ffr
    rw [h i (Nat.le_refl _) (by omega), ffr_congr k (i + 1) fun j h1 h2 => h j (by omega) (by omega)]
theorem ff_congr {p q : Nat → Bool} {n : Nat} (h : ∀ j, j < n → p j = q j) : ff p n = ff q n := ffr_congr n 0 fun j _ h2 => h j (by omega)
theorem ff_eq {p : Nat → Bool} {n : Nat} (h : ∀ j, j < n → p j = false) : ff p n = n := by
  have h1 := ffr_spec p n 0
  have h2 := ff_le p n
  by_cases q : ff p n < n
  · have := h1.2.2.2 (by unfold ff at q; omega)
    have h3 := h _ q
    unfold ff at h3
    rw [h3] at this
    cases this
  · omega
theorem sopen_of (key beside b : List Nat) {n : Nat} (hn : ff (fun i => decide (sbad key beside (sopen_it1 key beside b i) ∨ slast (sopen_it1 key beside b i))) ((b.length - 1) / 528) = n) :
    sopen key beside b = if sbad key beside (sopen_it1 key beside b n) then ([], 180) else ((sopen_it1 key beside b n).2.2 ++ (opened key (nonce (sopen_it1 key beside b n).2.1 (decide ((Min.min (sopen_it1 key beside b n).1.length 528) = (sopen_it1 key beside b n).1.length))) (((sopen_it1 key beside b n).1.drop 0).take ((Min.min (sopen_it1 key beside b n).1.length 528) - 0)) beside).1, 0) := by
  subst hn
  unfold sopen
  by_cases h : sbad key beside (sopen_it1 key beside b (ff (fun i => decide (sbad key beside (sopen_it1 key beside b i) ∨ slast (sopen_it1 key beside b i))) ((b.length - 1) / 528)))
  · exact (if_pos h).trans (if_pos h).symm
  · exact (if_neg h).trans (if_neg h).symm
theorem rsopen_of (key beside b : List Nat) {n : Nat} (hn : ff (fun i => decide (rsbad key beside (rsopen_it1 key beside b i) ∨ rslast (rsopen_it1 key beside b i))) ((b.length - 1) / 528) = n) :
    rsopen key beside b = if rsbad key beside (rsopen_it1 key beside b n) then ([], 180) else ((rsopen_it1 key beside b n).2.2 ++ (ropened key (rnonce (rsopen_it1 key beside b n).2.1 (decide ((if 528 < (rsopen_it1 key beside b n).1.length then 528 else (rsopen_it1 key beside b n).1.length) = (rsopen_it1 key beside b n).1.length))) (((rsopen_it1 key beside b n).1.drop 0).take ((if 528 < (rsopen_it1 key beside b n).1.length then 528 else (rsopen_it1 key beside b n).1.length) - 0)) beside).1, 0) := by
  subst hn
  unfold rsopen
  by_cases h : rsbad key beside (rsopen_it1 key beside b (ff (fun i => decide (rsbad key beside (rsopen_it1 key beside b i) ∨ rslast (rsopen_it1 key beside b i))) ((b.length - 1) / 528)))
  · exact (if_pos h).trans (if_pos h).symm
  · exact (if_neg h).trans (if_neg h).symm
theorem rone_eq {key beside : List Nat} (hk : Lt 256 key) (hs : Lt 256 beside) (m : List Nat × Nat × List Nat) (hm : Lt 256 m.1) :
    ropened key (rnonce m.2.1 (decide ((if 528 < m.1.length then 528 else m.1.length) = m.1.length))) ((m.1.drop 0).take ((if 528 < m.1.length then 528 else m.1.length) - 0)) beside = opened key (nonce m.2.1 (decide ((Min.min m.1.length 528) = m.1.length))) ((m.1.drop 0).take ((Min.min m.1.length 528) - 0)) beside := by
  rw [min528, rnonce_eq, ← opened_eq hk (nonce_lt _ _) ((hm.drop _).take _) hs]
theorem rsbad_iff {key beside : List Nat} (hk : Lt 256 key) (hs : Lt 256 beside) (m : List Nat × Nat × List Nat) (hm : Lt 256 m.1) : rsbad key beside m ↔ sbad key beside m := by
  unfold rsbad sbad
  rw [rone_eq hk hs m hm, min528]
theorem rslast_iff (m : List Nat × Nat × List Nat) : rslast m ↔ slast m := by
  unfold rslast slast
  rw [min528]
theorem sopen_lt {key beside b : List Nat} (hb : b.length ≤ 4194304) (lb : Lt 256 b) (i : Nat) (h : 528 * i ≤ b.length) : Lt 256 (sopen_it1 key beside b i).1 := by
  rw [(sopen_f0 key beside hb i h).1]; exact lb.drop _
theorem rsopen_it {key beside b : List Nat} (hk : Lt 256 key) (hs : Lt 256 beside) (hb : b.length ≤ 4194304) (lb : Lt 256 b) : ∀ i, 528 * i ≤ b.length → rsopen_it1 key beside b i = sopen_it1 key beside b i
  | 0, _ => rfl
  | i + 1, h => by
    have hl := sopen_lt (key := key) (beside := beside) hb lb i (by omega)
    rw [rsopen_it1_s, sopen_it1_s, rsopen_it hk hs hb lb i (by omega)]
    unfold rsopen_s1 sopen_s1
    dsimp only
    rw [rone_eq hk hs _ hl, min528]
theorem rsopen_eq {key beside b : List Nat} (hk : Lt 256 key) (hs : Lt 256 beside) (hb : b.length ≤ 4194304) (lb : Lt 256 b) : rsopen key beside b = sopen key beside b := by
  have hff : ff (fun i => decide (rsbad key beside (rsopen_it1 key beside b i) ∨ rslast (rsopen_it1 key beside b i))) ((b.length - 1) / 528) = ff (fun i => decide (sbad key beside (sopen_it1 key beside b i) ∨ slast (sopen_it1 key beside b i))) ((b.length - 1) / 528) := by
    refine ff_congr fun j hj => ?_
    have hj2 : 528 * j ≤ b.length := by omega
    rw [rsopen_it hk hs hb lb j hj2]
    exact decide_eq_decide.2 (or_congr (rsbad_iff hk hs _ (sopen_lt hb lb j hj2)) (rslast_iff _))
  have hle := ff_le (fun i => decide (sbad key beside (sopen_it1 key beside b i) ∨ slast (sopen_it1 key beside b i))) ((b.length - 1) / 528)
  have h2 : 528 * ff (fun i => decide (sbad key beside (sopen_it1 key beside b i) ∨ slast (sopen_it1 key beside b i))) ((b.length - 1) / 528) ≤ b.length := by omega
  rw [rsopen_of key beside b hff, sopen_of key beside b rfl]
  have hl := sopen_lt (key := key) (beside := beside) hb lb _ h2
  rw [rsopen_it hk hs hb lb _ h2, rone_eq hk hs _ hl]
  by_cases h : sbad key beside (sopen_it1 key beside b (ff (fun i => decide (sbad key beside (sopen_it1 key beside b i) ∨ slast (sopen_it1 key beside b i))) ((b.length - 1) / 528)))
  · rw [if_pos h, if_pos ((rsbad_iff hk hs _ hl).2 h)]
  · rw [if_neg h, if_neg (fun k => h ((rsbad_iff hk hs _ hl).1 k))]
/-- A state of opening what was sealed. -/
theorem sopen_seg {key : List Nat} (lk : key.length = 32) (beside : List Nat) {b : List Nat} (hb : b.length ≤ 4000000) {i : Nat} (hi : i ≤ (b.length - 1) / 512) {m : List Nat × Nat × List Nat} (h1 : m.1 = (sseal key beside b).1.drop (528 * i)) (h2 : m.2.1 = i) :
    (opened key (nonce m.2.1 (decide ((Min.min m.1.length 528) = m.1.length))) ((m.1.drop 0).take ((Min.min m.1.length 528) - 0)) beside) = ((b.drop (512 * i)).take 512, 0) ∧ (slast m ↔ i = (b.length - 1) / 512) := by
  have hn := sseal_len lk beside (b := b) (by omega)
  have hl : m.1.length = b.length + 16 * ((b.length - 1) / 512 + 1) - 528 * i := by rw [h1, List.length_drop, hn]
  unfold slast
  by_cases q : i = (b.length - 1) / 512
  · have e : Min.min m.1.length 528 = m.1.length := by omega
    have hs : m.1 = segm key beside b i := by rw [h1, q]; exact sseal_last lk beside (by omega)
    refine ⟨?_, ⟨fun _ => q, fun _ => e⟩⟩
    rw [h2, e, decide_eq_true rfl, List.drop_zero, Nat.sub_zero, List.take_of_length_le (Nat.le_refl _), hs]
    exact opened_segm lk beside b i (decide_eq_true (by omega))
  · have e : Min.min m.1.length 528 = 528 := by omega
    have ne : ¬ 528 = m.1.length := by omega
    have hs : m.1.take 528 = segm key beside b i := by rw [h1]; exact sseal_seg lk beside (by omega) (by omega)
    refine ⟨?_, ⟨fun k => absurd (e.symm.trans k) ne, fun k => absurd k q⟩⟩
    rw [h2, e, decide_eq_false ne, List.drop_zero, Nat.sub_zero, hs]
    exact opened_segm lk beside b i (decide_eq_false (by omega))
theorem sopen_state {key : List Nat} (lk : key.length = 32) (beside : List Nat) {b : List Nat} (hb : b.length ≤ 4000000) : ∀ i, i ≤ (b.length - 1) / 512 → sopen_it1 key beside (sseal key beside b).1 i = ((sseal key beside b).1.drop (528 * i), i, b.take (512 * i))
  | 0, _ => by rw [sopen_it1_z]; rfl
  | i + 1, h => by
    have ih := sopen_state lk beside hb i (by omega)
    have hn := sseal_len lk beside (b := b) (by omega)
    have f := sopen_f0 key beside (b := (sseal key beside b).1) (by omega) (i + 1) (by omega)
    obtain ⟨o, _⟩ := sopen_seg lk beside hb (i := i) (by omega) (m := sopen_it1 key beside (sseal key beside b).1 i) (by rw [ih]) (by rw [ih])
    have h3 : (sopen_it1 key beside (sseal key beside b).1 (i + 1)).2.2 = b.take (512 * (i + 1)) := by
      rw [sopen_it1_s]
      unfold sopen_s1
      dsimp only
      rw [o, ih]
      dsimp only
      rw [show 512 * (i + 1) = 512 * i + 512 by omega, List.take_add]
    exact Prod.ext f.1 (Prod.ext f.2.1 h3)
theorem sopen_sealed {key : List Nat} (lk : key.length = 32) (beside : List Nat) {b : List Nat} (hb : b.length ≤ 4000000) : sopen key beside (sseal key beside b).1 = (b, 0) := by
  have hn := sseal_len lk beside (b := b) (by omega)
  have hL : ((sseal key beside b).1.length - 1) / 528 = (b.length - 1) / 512 := by omega
  have one : ∀ i, i ≤ (b.length - 1) / 512 → (opened key (nonce (sopen_it1 key beside (sseal key beside b).1 i).2.1 (decide ((Min.min (sopen_it1 key beside (sseal key beside b).1 i).1.length 528) = (sopen_it1 key beside (sseal key beside b).1 i).1.length))) (((sopen_it1 key beside (sseal key beside b).1 i).1.drop 0).take ((Min.min (sopen_it1 key beside (sseal key beside b).1 i).1.length 528) - 0)) beside) = ((b.drop (512 * i)).take 512, 0) ∧ (slast (sopen_it1 key beside (sseal key beside b).1 i) ↔ i = (b.length - 1) / 512) := fun i hi =>
    sopen_seg lk beside hb hi (by rw [sopen_state lk beside hb i hi]) (by rw [sopen_state lk beside hb i hi])
  have nb : ∀ i, i ≤ (b.length - 1) / 512 → ¬ sbad key beside (sopen_it1 key beside (sseal key beside b).1 i) := by
    intro i hi
    have h := one i hi
    unfold sbad
    rw [h.1]
    rintro (k | ⟨k1, k2, k3⟩)
    · exact k rfl
    · have e := h.2.1 k1
      rw [sopen_state lk beside hb i hi] at k2
      simp only [List.length_take, List.length_drop] at k2 k3
      omega
  have hff : ff (fun i => decide (sbad key beside (sopen_it1 key beside (sseal key beside b).1 i) ∨ slast (sopen_it1 key beside (sseal key beside b).1 i))) (((sseal key beside b).1.length - 1) / 528) = (b.length - 1) / 512 := by
    rw [hL]
    refine ff_eq fun j hj => decide_eq_false ?_
    rintro (k | k)
    · exact nb j (by omega) k
    · have := (one j (by omega)).2.1 k
      omega
  rw [sopen_of key beside _ hff, if_neg (nb _ (Nat.le_refl _)), (one _ (Nat.le_refl _)).1, sopen_state lk beside hb _ (Nat.le_refl _)]
  dsimp only
  rw [List.take_of_length_le (l := b.drop (512 * ((b.length - 1) / 512))) (by rw [List.length_drop]; omega), List.take_append_drop]
end Go.Proofs.Ytkpelchcpiafaaa
