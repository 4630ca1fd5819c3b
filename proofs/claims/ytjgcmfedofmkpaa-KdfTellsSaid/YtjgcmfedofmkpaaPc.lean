/-
  Plain: the code of parts is the document's code of the whole.
-/
import Derived.Test.YtjgcmfedofmkpaaMb
import Derived.Test.YtjgcmfedofmkpaaWf
import Derived.Test.YtjgcmfedofmkpaaLb
namespace Go.Proofs.Ytjgcmfedofmkpaa
open Go Go.Fx
set_option linter.unusedVariables false
set_option linter.unusedSimpArgs false
/-- The key as a block takes it. -/
def mk (key : List Nat) : List Nat := if 128 < key.length then rsha key else key
theorem rsha_lt (a : List Nat) : Lt 256 (rsha a) := by
  have h : ∀ i, Lt 256 (rsumby_it4 a snew.h rK i) := by
    intro i
    induction i with
    | zero => rw [rsumby_it4_z]; exact Lt.replicate (by decide)
    | succ i ih =>
      rw [rsumby_it4_s]
      unfold rsumby_s4
      exact ih.set (Nat.mod_lt _ (by decide))
  rw [rsha_eq]
  unfold rsumby
  exact h 64
theorem mk_len {key : List Nat} : (mk key).length ≤ 128 := by
  unfold mk
  split
  · rw [rsha_l]; decide
  · omega
theorem mk_lt {key : List Nat} (h : Lt 256 key) : Lt 256 (mk key) := by
  unfold mk
  split
  · exact rsha_lt _
  · exact h
theorem rpad1 (key : List Nat) : ∀ i, i ≤ (mk key).length → rpad_it1 key i = (mk key).take i ++ List.replicate (128 - i) 0
  | 0, _ => by rw [rpad_it1_z]; simp
  | i + 1, h => by
    have hl := mk_len (key := key)
    have e : rpad_s1 key i (rpad_it1 key i) = (rpad_it1 key i).set i ((mk key).getD i 0) := by unfold rpad_s1 mk; rfl
    rw [rpad_it1_s, e, rpad1 key i (by omega)]
    have hi : ((mk key).take i).length = i := by rw [List.length_take]; omega
    rw [show 128 - i = (128 - (i + 1)) + 1 by omega, List.replicate_succ, List.set_append_right _ _ (by omega), hi, Nat.sub_self, List.set_cons_zero]
    rw [List.take_add_one, List.append_assoc]
    congr 1
    rw [List.getD_eq_getElem?_getD, List.getElem?_eq_getElem (by omega)]
    rfl
theorem rpad1_end (key : List Nat) : rpad_it1 key (mk key).length = (List.replicate 128 0).take 0 ++ (mk key) ++ (List.replicate 128 0).drop (0 + (mk key).length) := by
  rw [rpad1 key _ (Nat.le_refl _), List.take_of_length_le (Nat.le_refl _), List.drop_replicate, Nat.zero_add, List.take_zero, List.nil_append]
theorem pad2 (key : List Nat) (v : Nat) : ∀ i, rpad_it2 key v i = mpad_it1 v (mk key) i
  | 0 => by
    rw [rpad_it2_z, mpad_it1_z, ← rpad1_end]
    unfold mk
    rfl
  | i + 1 => by
    rw [rpad_it2_s, mpad_it1_s, pad2 key v i]
    unfold rpad_s2 mpad_s1
    rfl
theorem pad_same (key : List Nat) (v : Nat) : mpad v (mk key) = rpad key v := by
  have e1 : mpad v (mk key) = mpad_it1 v (mk key) 128 := by unfold mpad; rfl
  have e2 : rpad key v = rpad_it2 key v 128 := by unfold rpad; rfl
  rw [e1, e2, pad2]
theorem mpad_lt {v : Nat} (hv : v < 256) {key : List Nat} (hk : Lt 256 key) : Lt 256 (mpad v key) := by
  have h : ∀ i, Lt 256 (mpad_it1 v key i) := by
    intro i
    induction i with
    | zero =>
      rw [mpad_it1_z]
      exact (((Lt.replicate (by decide)).take _).append hk).append ((Lt.replicate (by decide)).drop _)
    | succ i ih =>
      rw [mpad_it1_s]
      unfold mpad_s1
      exact ih.set (Nat.xor_lt_two_pow (n := 8) (ih i) hv)
  have e1 : mpad v key = mpad_it1 v key 128 := by unfold mpad; rfl
  rw [e1]
  exact h 128
theorem flat_lt {ts : List (List Nat)} (h : ∀ t ∈ ts, Lt 256 t) : Lt 256 ts.flatten := Lt.of_mem (by decide) (fun x hx => by
  obtain ⟨t, ht, hx2⟩ := List.mem_flatten.1 hx
  exact (h t ht).mem x hx2)
theorem mac_mk {key : List Nat} (hk : Lt 256 key) (ts : List (List Nat)) : mac key ts = sha [mpad 92 (mk key), sha ([mpad 54 (mk key)] ++ ts)] := by
  unfold mac mk
  by_cases h : 128 < key.length
  · rw [if_pos h, if_pos h, sha_one hk]
  · rw [if_neg h, if_neg h]
/-- The code of parts is the document's code of the whole. -/
theorem mac_eq {key : List Nat} (hk : Lt 256 key) {ts : List (List Nat)} (hts : ∀ t ∈ ts, Lt 256 t) : mac key ts = rmac key ts.flatten := by
  have h1 : sha ([mpad 54 (mk key)] ++ ts) = rsha (rpad key 54 ++ ts.flatten) := by
    rw [sha_eq (by
      intro t ht
      rcases List.mem_append.1 ht with k | k
      · simp only [List.mem_singleton] at k
        exact k ▸ mpad_lt (by decide) (mk_lt hk)
      · exact hts t k), List.flatten_append, List.flatten_cons, List.flatten_nil, List.append_nil, pad_same]
  rw [mac_mk hk, h1, sha_two (mpad_lt (by decide) (mk_lt hk)) (rsha_lt _), pad_same]
  unfold rmac
  rfl
theorem mac_one {key a : List Nat} (hk : Lt 256 key) (ha : Lt 256 a) : mac key [a] = rmac key a := by
  rw [mac_eq hk (one_lt ha), List.flatten_cons, List.flatten_nil, List.append_nil]
end Go.Proofs.Ytjgcmfedofmkpaa
