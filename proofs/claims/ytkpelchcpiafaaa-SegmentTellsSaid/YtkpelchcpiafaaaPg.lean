/-
  The plain law of sealing: other tags, texts that begin alike.
-/
import Derived.Test.YtkpelchcpiafaaaPf
namespace Go.Proofs.Ytkpelchcpiafaaa
open Go Go.Fx
set_option linter.unusedVariables false
set_option linter.unusedSimpArgs false
theorem xor_same {x y : Nat} : x = x ^^^ y ↔ y = 0 := by
  constructor
  · intro h
    have : x ^^^ x = x ^^^ (x ^^^ y) := congrArg (x ^^^ ·) h
    rw [Nat.xor_self, ← Nat.xor_assoc, Nat.xor_self, Nat.zero_xor] at this
    exact this.symm
  · rintro rfl
    exact (Nat.xor_zero x).symm
theorem opened_flip {key nonce text beside : List Nat} (lk : key.length = 32) (ln : nonce.length = 12) {n y : Nat} (h1 : text.length ≤ n) (h2 : n < text.length + 16) :
    (opened key nonce ((sealed key nonce text beside).1.set n ((sealed key nonce text beside).1.getD n 0 ^^^ y)) beside).2 = 0 ↔ y = 0 := by
  rw [sealed_val]
  dsimp only
  have hc := stream_len block key 1 nonce text
  generalize stream block key 1 nonce text = c at *
  have hm := mark_len key nonce c beside lk ln
  have e : (c ++ mark key nonce c beside).getD n 0 = (mark key nonce c beside).getD (n - c.length) 0 := by
    rw [List.getD_eq_getElem?_getD, List.getElem?_append_right (by omega), List.getD_eq_getElem?_getD]
  rw [e, List.set_append_right _ _ (by omega), opened_join (by rw [List.length_set, hm])]
  constructor
  · intro h
    split at h
    · rename_i q
      have := congrArg (fun l => l.getD (n - c.length) 0) q
      rw [getD_set_eq (by omega)] at this
      exact xor_same.1 this
    · exact absurd h (by decide)
  · rintro rfl
    rw [Nat.xor_zero, if_pos]
    refine ext_getD (by rw [List.length_set]) fun j hj => ?_
    by_cases h : j = n - c.length
    · subst h; rw [getD_set_eq (by omega)]
    · rw [Fx.getD_set_ne (by omega)]
theorem stream_take (B : List Nat → Nat → List Nat → List Nat) (key : List Nat) (ctr : Nat) (nonce a more : List Nat) : (stream B key ctr nonce (a ++ more)).take a.length = stream B key ctr nonce a := by
  refine ext_getD (by rw [List.length_take, stream_len, stream_len, List.length_append]; omega) fun j hj => ?_
  have hj' : j < a.length := by rw [List.length_take, stream_len, List.length_append] at hj; omega
  rw [getD_take hj']
  unfold stream
  rw [getD_map_range (by rw [List.length_append]; omega), getD_map_range hj']
  unfold sbyte
  have : (a ++ more).getD j 0 = a.getD j 0 := by rw [List.getD_eq_getElem?_getD, List.getElem?_append_left hj', List.getD_eq_getElem?_getD]
  rw [this]
theorem sealed_pre {key nonce a more beside : List Nat} : (sealed key nonce (a ++ more) beside).1.take a.length = (sealed key nonce a beside).1.take a.length := by
  rw [sealed_take, sealed_val]
  dsimp only
  rw [List.take_append_of_le_length (by rw [stream_len, List.length_append]; omega), stream_take]
end Go.Proofs.Ytkpelchcpiafaaa
