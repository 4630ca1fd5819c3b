/-
  The plain law of nonces, counts and a single segment.
-/
import Derived.Test.YtkpelchcpiafaaaSb
namespace Go.Proofs.Ytkpelchcpiafaaa
open Go Go.Fx
set_option linter.unusedVariables false
set_option linter.unusedSimpArgs false
theorem seal1_val {key beside b : List Nat} (hb : b.length ≤ 512) : seal1 key beside b = ((sealed key (nonce 0 true) b beside).1, 0) := by
  unfold seal1
  dsimp only
  rw [List.drop_zero, Nat.sub_zero, List.take_of_length_le (by omega), List.nil_append]
theorem seal1_l19 {key beside b : List Nat} (lk : key.length = 32) (lb : b.length = 3) : (seal1 key beside b).1.length = 19 := by
  rw [seal1_val (by omega)]
  dsimp only
  rw [sealed_len lk (nonce_len _ _), lb]
theorem open1_seal1 {key beside b : List Nat} (lk : key.length = 32) (hb : b.length ≤ 512) : open1 key beside (seal1 key beside b).1 = (b, 0) := by
  rw [seal1_val hb]
  have hl : (sealed key (nonce 0 true) b beside).1.length = b.length + 16 := sealed_len lk (nonce_len _ _)
  unfold open1
  dsimp only
  rw [List.drop_zero, Nat.sub_zero, List.take_of_length_le (by omega), opened_sealed lk (nonce_len _ _)]
  rfl
theorem open1_nil (key beside : List Nat) : open1 key beside [] = ([], 180) := by
  unfold open1
  dsimp only
  rw [opened_lt (by decide)]
  rfl
theorem nonce_g (n : Nat) (i : Nat) (hi : i ≤ 8) : (∀ j, j < i → (nonce_it1 n i).getD j 0 = n / 2 ^ (56 - 8 * j) % 256) ∧ (∀ j, i ≤ j → (nonce_it1 n i).getD j 0 = 0) := by
  induction i with
  | zero =>
    refine ⟨fun j hj => absurd hj (Nat.not_lt_zero j), fun j _ => ?_⟩
    rw [nonce_it1_z]
    by_cases h : j < 12
    · exact getD_replicate h
    · exact getD_ge (by simp; omega)
  | succ i ih =>
    obtain ⟨h1, h2⟩ := ih (by omega)
    rw [nonce_it1_s]
    unfold nonce_s1
    dsimp only
    refine ⟨fun j hj => ?_, fun j hj => ?_⟩
    · by_cases h : j = i
      · subst h
        rw [getD_set_eq (by rw [nonce_it1_l]; simp; omega)]
      · rw [Fx.getD_set_ne (by omega)]
        exact h1 j (by omega)
    · rw [Fx.getD_set_ne (by omega)]
      exact h2 j (by omega)
theorem nonce_lo (n : Nat) (a : Bool) {j : Nat} (hj : j < 8) : (nonce n a).getD j 0 = n / 2 ^ (56 - 8 * j) % 256 := by
  unfold nonce
  split
  · rw [Fx.getD_set_ne (by omega)]; exact (nonce_g n 8 (by decide)).1 j hj
  · exact (nonce_g n 8 (by decide)).1 j hj
theorem nonce_hi (n : Nat) (a : Bool) {j : Nat} (hj : 8 < j) : (nonce n a).getD j 0 = 0 := by
  unfold nonce
  split
  · rw [Fx.getD_set_ne (by omega)]; exact (nonce_g n 8 (by decide)).2 j (by omega)
  · exact (nonce_g n 8 (by decide)).2 j (by omega)
theorem nonce_t (n : Nat) : (nonce n true).getD 8 0 = 1 := by
  unfold nonce
  rw [if_pos rfl, getD_set_eq (by rw [nonce_it1_l]; decide)]
theorem nonce_f (n : Nat) : (nonce n false).getD 8 0 = 0 := by
  unfold nonce
  rw [if_neg (by decide)]
  exact (nonce_g n 8 (by decide)).2 8 (by decide)
theorem nonce_inj {n m : Nat} (hn : n < 18446744073709551616) (hm : m < 18446744073709551616) {a b : Bool} (h : nonce n a = nonce m b) : n = m := by
  have e : ∀ j, j < 8 → n / 2 ^ (56 - 8 * j) % 256 = m / 2 ^ (56 - 8 * j) % 256 := fun j hj => by rw [← nonce_lo n a hj, ← nonce_lo m b hj, h]
  have e0 : n / 72057594037927936 % 256 = m / 72057594037927936 % 256 := e 0 (by decide)
  have e1 : n / 281474976710656 % 256 = m / 281474976710656 % 256 := e 1 (by decide)
  have e2 : n / 1099511627776 % 256 = m / 1099511627776 % 256 := e 2 (by decide)
  have e3 : n / 4294967296 % 256 = m / 4294967296 % 256 := e 3 (by decide)
  have e4 : n / 16777216 % 256 = m / 16777216 % 256 := e 4 (by decide)
  have e5 : n / 65536 % 256 = m / 65536 % 256 := e 5 (by decide)
  have e6 : n / 256 % 256 = m / 256 % 256 := e 6 (by decide)
  have e7 : n / 1 % 256 = m / 1 % 256 := e 7 (by decide)
  have f0 : n / 72057594037927936 = m / 72057594037927936 := by omega
  have f1 : n / 281474976710656 = m / 281474976710656 := by omega
  have f2 : n / 1099511627776 = m / 1099511627776 := by omega
  have f3 : n / 4294967296 = m / 4294967296 := by omega
  have f4 : n / 16777216 = m / 16777216 := by omega
  have f5 : n / 65536 = m / 65536 := by omega
  have f6 : n / 256 = m / 256 := by omega
  omega
theorem nonce_eq1 {n m : Nat} {a b : Bool} (h : n = m) : (decide (nonce n a = nonce m b) == (a == b)) = true := by
  subst h
  have hne : nonce n true ≠ nonce n false := fun q => by
    have := congrArg (fun l => l.getD 8 0) q
    rw [nonce_t, nonce_f] at this
    cases this
  cases a <;> cases b <;> simp [hne, hne.symm]
theorem nonce_eq2 {n m : Nat} (hn : n < 18446744073709551616) (hm : m < 18446744073709551616) {a b : Bool} (h : ¬ n = m) : (decide (nonce n a = nonce m b) == false) = true := by
  rw [decide_eq_false (fun q => h (nonce_inj hn hm q))]; rfl
theorem count_le {few many : Int} (h1 : ¬ few < ((0 : Nat) : Int)) (h2 : ¬ ((4194304 : Nat) : Int) < many) (h3 : ¬ many < few) :
    (countz few).1 ≤ (countz many).1 ∧ (countz few).2 ≤ (countz many).2 ∧ 1 ≤ (countz few).1 ∧ (¬ few = many → (countz few).2 < (countz many).2) := by
  unfold countz
  rw [if_neg h1, if_neg (by omega), if_neg (by omega), if_neg h2]
  dsimp only
  refine ⟨by omega, by omega, by omega, fun h => by omega⟩
end Go.Proofs.Ytkpelchcpiafaaa
