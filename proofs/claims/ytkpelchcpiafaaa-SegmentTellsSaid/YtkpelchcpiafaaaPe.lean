/-
  The plain law of the tag's text.
-/
import Derived.Test.YtkpelchcpiafaaaRc
namespace Go.Proofs.Ytkpelchcpiafaaa
open Go Go.Fx
set_option linter.unusedVariables false
set_option linter.unusedSimpArgs false
theorem filled_it (b : List Nat) (i : Nat) : filled_it1 b i = b ++ List.replicate i 0 := by
  induction i with
  | zero => rw [filled_it1_z]; simp
  | succ i ih => rw [filled_it1_s]; unfold filled_s1; rw [ih, List.append_assoc, ← List.replicate_succ']
theorem filled_eq (b : List Nat) : filled b = b ++ List.replicate ((16 - b.length % 16) % 16) 0 := filled_it b _
def le8 (n k : Nat) : List Nat := (List.range k).map (fun j => n % 18446744073709551616 / 2 ^ (8 * j) % 256)
theorem le8_s (n k : Nat) : le8 n (k + 1) = le8 n k ++ [n % 18446744073709551616 / 2 ^ (8 * k) % 256] := by
  unfold le8; rw [List.range_succ, List.map_append]; rfl
theorem le8_lt (n k : Nat) : Lt 256 (le8 n k) := Lt.map_range (by decide) (fun i _ => Nat.mod_lt _ (by decide))
theorem long_it (b : List Nat) : ∀ i, i ≤ 8 → long_it1 b i = le8 b.length i := by
  intro i
  induction i with
  | zero => intro _; rfl
  | succ i ih =>
    intro h
    rw [long_it1_s, le8_s, ← ih (by omega)]
    unfold long_s1
    dsimp only
    rw [Nat.mod_eq_of_lt (show 8 * i < 18446744073709551616 by omega)]
theorem long_eq (b : List Nat) : long b = le8 b.length 8 := long_it b 8 (by decide)
theorem tag2_it (ts : List (List Nat)) (i : Nat) (m : (List (List Nat)) × (List Nat)) (k : Nat) : tagged_it2 ts i m k = m.2 ++ le8 (ts.getD i []).length k := by
  induction k with
  | zero => rw [tagged_it2_z]; exact (List.append_nil _).symm
  | succ k ih => rw [tagged_it2_s, le8_s, ← List.append_assoc, ← ih]; rfl
theorem tagged_two (a b : List Nat) : tagged [a, b] = [a, List.replicate ((16 - a.length % 16) % 16) 0, b, List.replicate ((16 - b.length % 16) % 16) 0, le8 a.length 8 ++ le8 b.length 8] := by
  have e2 : tagged_it1 [a, b] 2 = tagged_s1 [a, b] 1 (tagged_it1 [a, b] 1) := tagged_it1_s [a, b] 1
  have e1 : tagged_it1 [a, b] 1 = tagged_s1 [a, b] 0 (tagged_it1 [a, b] 0) := tagged_it1_s [a, b] 0
  rw [tagged_it1_z] at e1
  show (tagged_it1 [a, b] 2).1 ++ [(tagged_it1 [a, b] 2).2] = _
  unfold tagged_s1 at e1 e2
  dsimp only at e1 e2
  rw [tag2_it] at e1 e2
  rw [e2, e1]
  simp
theorem tagged_flat (a b : List Nat) : (tagged [a, b]).flatten = filled a ++ filled b ++ long a ++ long b := by
  rw [tagged_two, filled_eq, filled_eq, long_eq, long_eq]
  simp [List.append_assoc]
theorem tagged_le (a b : List Nat) : (tagged [a, b]).flatten.length < a.length + b.length + 48 := by
  have h1 := filled_le a
  have h2 := filled_le b
  rw [tagged_flat]
  simp only [List.length_append, long_len8]
  omega
theorem tagged_five (a b : List Nat) : (tagged [a, b]).length = 5 := by rw [tagged_two]; rfl
theorem filled_lt {b : List Nat} (h : Lt 256 b) : Lt 256 (filled b) := by rw [filled_eq]; exact h.append (Lt.replicate (by decide))
theorem long_lt (b : List Nat) : Lt 256 (long b) := by rw [long_eq]; exact le8_lt _ _
theorem tagged_lt {a b : List Nat} (ha : Lt 256 a) (hb : Lt 256 b) : Lt 256 (tagged [a, b]).flatten := by
  rw [tagged_flat]
  exact (((filled_lt ha).append (filled_lt hb)).append (long_lt a)).append (long_lt b)
end Go.Proofs.Ytkpelchcpiafaaa
