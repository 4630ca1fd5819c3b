/-
  Plain: the sum of parts is the document's sum of the whole.
-/
import Derived.Test.YtjgcmfedofmkpaaPa
namespace Go.Proofs.Ytjgcmfedofmkpaa
open Go Go.Fx
set_option linter.unusedVariables false
set_option linter.unusedSimpArgs false
theorem rsha_eq (m : List Nat) : rsha m = rsumby m snew.h rK := by unfold rsha snew; rfl
theorem it1_eq (m : List Nat) : ∀ i, rsumby_it1 m i = m ++ ([128] ++ List.replicate i 0)
  | 0 => by rw [rsumby_it1_z]; simp
  | i + 1 => by
    rw [rsumby_it1_s, it1_eq m i]
    unfold rsumby_s1
    rw [List.replicate_succ', List.append_assoc, List.append_assoc]
theorem zeros8 : [0, 0, 0, 0, 0, 0, 0, 0] = List.replicate 8 0 := rfl
theorem pad_eq {s : St} {m : List Nat} (h : Inv s m) : ∀ i, i ≤ 8 → rsumby_it2 m i = m ++ ssum_it1 s i
  | 0, _ => by
    have hl : s.r.length = m.length % 128 := by rw [h.r, List.length_drop]; omega
    rw [rsumby_it2_z, ssum_it1_z, it1_eq, hl, zeros8, List.append_assoc, List.append_assoc, List.replicate_append_replicate]
  | i + 1, hi => by
    rw [rsumby_it2_s, ssum_it1_s, pad_eq h i (by omega)]
    unfold rsumby_s2 ssum_s1
    dsimp only
    rw [List.append_assoc, h.n, show (8 * (8 - 1 - i)) % 18446744073709551616 = 56 - 8 * i by omega]
theorem pad_lt (s : St) : ∀ i, Lt 256 (ssum_it1 s i)
  | 0 => by
    rw [ssum_it1_z]
    exact Lt.append (Lt.of_mem (by decide) (by simp)) (Lt.replicate (by decide))
  | i + 1 => by
    rw [ssum_it1_s]
    unfold ssum_s1
    exact (pad_lt s i).append (Lt.of_mem (by decide) (by
      intro x hx
      simp only [List.mem_singleton] at hx
      subst hx
      exact Nat.mod_lt _ (by decide)))
theorem it3_eq (m : List Nat) : ∀ i, (rsumby_it3 m snew.h rK i).2 = hb (rsumby_it2 m 8) i
  | 0 => rfl
  | i + 1 => by
    rw [rsumby_it3_s, hb_succ, ← it3_eq m i]
    unfold rsumby_s3
    dsimp only
    rw [(rsumby_n3 m snew.h rK i).1, List.drop_zero]
theorem out_eq {s : St} {m : List Nat} (hh : (swrite s (ssum_it1 s 8)).h = (rsumby_it3 m snew.h rK ((m.length + 17 + (239 - m.length % 128) % 128) / 128)).2) : ∀ i, ssum_it2 s i = rsumby_it4 m snew.h rK i
  | 0 => rfl
  | i + 1 => by
    rw [ssum_it2_s, rsumby_it4_s, out_eq hh i]
    unfold ssum_s2 rsumby_s4
    dsimp only
    rw [hh, show (56 - (8 * (i % 8))) % 18446744073709551616 = 56 - (8 * (i % 8)) by omega]
theorem Inv.sum {s : St} {m : List Nat} (h : Inv s m) (hm : Lt 256 m) : ssum s = rsha m := by
  have hw := h.write hm (pad_lt s 8)
  rw [← pad_eq h 8 (Nat.le_refl _)] at hw
  have hl := rsumby_n2 m 8
  have hh : (swrite s (ssum_it1 s 8)).h = (rsumby_it3 m snew.h rK ((m.length + 17 + (239 - m.length % 128) % 128) / 128)).2 := by
    rw [hw.h, it3_eq, hl]
    congr 1
    omega
  rw [rsha_eq]
  have e1 : ssum s = ssum_it2 s 64 := by unfold ssum; rfl
  have e2 : rsumby m snew.h rK = rsumby_it4 m snew.h rK 64 := by unfold rsumby; rfl
  rw [e1, e2, out_eq hh]
/-- The sum of parts is the document's sum of the whole. -/
theorem sha_eq {ts : List (List Nat)} (hts : ∀ t ∈ ts, Lt 256 t) : sha ts = rsha ts.flatten := by
  obtain ⟨h1, h2⟩ := Inv.parts hts ts.length (Nat.le_refl _)
  rw [List.take_of_length_le (Nat.le_refl _)] at h1 h2
  rw [← h1.sum h2]
  unfold sha
  rfl
end Go.Proofs.Ytjgcmfedofmkpaa
