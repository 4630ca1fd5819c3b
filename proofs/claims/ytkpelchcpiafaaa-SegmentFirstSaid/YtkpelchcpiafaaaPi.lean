/-
  The plain law of sealed segments: the first.
-/
import Derived.Test.YtkpelchcpiafaaaTa
namespace Go.Proofs.Ytkpelchcpiafaaa
open Go Go.Fx
set_option linter.unusedVariables false
set_option linter.unusedSimpArgs false
theorem sseal_pre1 {key : List Nat} (lk : key.length = 32) (beside : List Nat) {b : List Nat} (hb : b.length ≤ 4194304) : ∀ i, 512 * (i + 1) < b.length → (sseal_it1 key beside b (i + 1)).2.2.take 528 = (sealed key (nonce 0 false) (b.take 512) beside).1
  | 0, h => by
    have e : sseal_it1 key beside b (0 + 1) = sseal_s1 key beside b 0 (b, 0, []) := sseal_it1_s key beside b 0
    rw [e]
    unfold sseal_s1
    dsimp only
    rw [show Min.min b.length 512 = 512 by omega, decide_eq_false (by omega), List.drop_zero, Nat.sub_zero, List.nil_append]
    exact List.take_of_length_le (by rw [sealed_len lk (nonce_len _ _), List.length_take]; omega)
  | i + 1, h => by
    have h1 := sseal_pre1 lk beside hb i (by omega)
    have h2 := sseal_n lk beside hb (i + 1) (by omega)
    rw [sseal_it1_s]
    unfold sseal_s1
    dsimp only
    rw [List.take_append_of_le_length (by rw [h2]; omega), h1]
theorem sseal_pre {key : List Nat} (lk : key.length = 32) (beside : List Nat) {b : List Nat} (hb : b.length ≤ 4194304) (h : 512 < b.length) : (sseal key beside b).1.take 528 = (sealed key (nonce 0 false) (b.take 512) beside).1 := by
  obtain ⟨k, hk⟩ : ∃ k, (b.length - 1) / 512 = k + 1 := ⟨(b.length - 1) / 512 - 1, by omega⟩
  have h2 := sseal_n lk beside hb (k + 1) (by omega)
  have h1 := sseal_pre1 lk beside hb k (by omega)
  unfold sseal
  dsimp only
  rw [hk, List.take_append_of_le_length (by rw [h2]; omega), h1]
theorem sseal_528 {key beside b : List Nat} (lk : key.length = 32) (hb : b.length ≤ 4194304) (h : 512 < b.length) : ¬ (sseal key beside b).1.length < 528 := by
  intro q
  have h1 := congrArg List.length (sseal_pre lk beside hb h)
  rw [sealed_len lk (nonce_len _ _), List.length_take, List.length_take] at h1
  omega
theorem sseal_two {key beside a b : List Nat} (lk : key.length = 32) (ha : a.length ≤ 4194304) (ha2 : 512 < a.length) (hb : b.length ≤ 4194304) (hb2 : 512 < b.length) (h : a.take 512 = b.take 512) :
    ((sseal key beside a).1.drop 0).take (528 - 0) = ((sseal key beside b).1.drop 0).take (528 - 0) := by
  rw [List.drop_zero, List.drop_zero, Nat.sub_zero, sseal_pre lk beside ha ha2, sseal_pre lk beside hb hb2, h]
theorem pre512 {h t : List Nat} (hl : h.length = 512) : (([] ++ h) ++ t).take 512 = h := by
  rw [List.nil_append]
  exact List.take_left' hl
end Go.Proofs.Ytkpelchcpiafaaa
