/-
  Plain: a product of whole numbers in digits.
-/
import Derived.Test.YtjgcmfedofmkpaaRa
namespace Go.Proofs.Ytjgcmfedofmkpaa
open Go Go.Fx
set_option linter.unusedVariables false
set_option linter.unusedSimpArgs false
theorem val_take_s (B : Nat) {xs : List Nat} {k : Nat} (h : k < xs.length) : val B (xs.take (k + 1)) = val B (xs.take k) + B ^ k * xs.getD k 0 := by
  have e : xs.take (k + 1) = xs.take k ++ [xs.getD k 0] := by
    rw [List.take_add_one, List.getD_eq_getElem?_getD, List.getElem?_eq_getElem h]
    rfl
  rw [e, val_append, List.length_take, Nat.min_eq_left (by omega), val, val, Nat.mul_zero, Nat.add_zero]
theorem getD_replicate0 (n j : Nat) : (List.replicate n 0).getD j 0 = 0 := by
  by_cases h : j < n <;> simp [List.getD_eq_getElem?_getD, h]
theorem sq_bd {x y : Nat} (hx : x < 65536) (hy : y < 65536) : x * y ≤ 4294836225 := Nat.mul_le_mul (show x ≤ 65535 by omega) (show y ≤ 65535 by omega)
theorem rt2 {a b : List Nat} (ba : Lt 65536 a) (bb : Lt 65536 b) (lb : b.length = 20) {i : Nat} (hi : i < 20) {m : List Nat} (lm : m.length = 20) (hm : ∀ j, m.getD j 0 ≤ i * 4294836225) : ∀ k, k ≤ 20 - i →
    val 65536 (rtim_it2 a b i m k) = val 65536 m + 65536 ^ i * (a.getD i 0 * val 65536 (b.take k)) ∧ (∀ j, (rtim_it2 a b i m k).getD j 0 ≤ (i + 1) * 4294836225) ∧ (∀ j, i + k ≤ j → (rtim_it2 a b i m k).getD j 0 = m.getD j 0)
  | 0, _ => by
    rw [rtim_it2_z, List.take_zero, val, Nat.mul_zero, Nat.mul_zero, Nat.add_zero]
    exact ⟨rfl, fun j => Nat.le_trans (hm j) (by omega), fun _ _ => rfl⟩
  | k + 1, hk => by
    obtain ⟨h1, h2, h3⟩ := rt2 ba bb lb hi lm hm k (by omega)
    have hl := (rtim_it2_l a b i m k).trans lm
    rw [rtim_it2_s]
    unfold rtim_s2
    dsimp only
    generalize rtim_it2 a b i m k = r at *
    have e0 := h3 (i + k) (Nat.le_refl _)
    have e1 := hm (i + k)
    have e2 := sq_bd (ba i) (bb k)
    have e3 : (r.getD (i + k) 0 + a.getD i 0 * b.getD k 0 % 18446744073709551616) % 18446744073709551616 = r.getD (i + k) 0 + a.getD i 0 * b.getD k 0 := by
      rw [Nat.mod_eq_of_lt (by omega : a.getD i 0 * b.getD k 0 < 18446744073709551616), Nat.mod_eq_of_lt]
      omega
    rw [e3]
    have e4 := val_set (B := 65536) (xs := r) (i := i + k) (v := r.getD (i + k) 0 + a.getD i 0 * b.getD k 0) (by omega)
    refine ⟨?_, ?_, ?_⟩
    · rw [val_take_s 65536 (by omega : k < b.length)]
      generalize val 65536 (r.set (i + k) (r.getD (i + k) 0 + a.getD i 0 * b.getD k 0)) = X at *
      rw [Nat.mul_add, h1, Nat.pow_add] at e4
      generalize 65536 ^ i = P at *
      generalize 65536 ^ k = Q at *
      generalize val 65536 (b.take k) = V at *
      generalize a.getD i 0 = u at *
      generalize b.getD k 0 = v at *
      generalize r.getD (i + k) 0 = z at *
      generalize val 65536 m = M at *
      grind
    · intro j
      by_cases hj : i + k = j
      · subst hj
        rw [Go.Fx.getD_set_eq (by omega)]
        omega
      · rw [Go.Fx.getD_set_ne hj]
        exact h2 j
    · intro j hj
      rw [Go.Fx.getD_set_ne (by omega)]
      exact h3 j (by omega)
theorem rt1 {a b : List Nat} (ba : Lt 65536 a) (bb : Lt 65536 b) (la : a.length = 20) (lb : b.length = 20) : ∀ i, i ≤ 20 →
    (∃ q, val 65536 (rtim_it1 a b i) + 65536 ^ 20 * q = val 65536 (a.take i) * val 65536 b) ∧ ∀ j, (rtim_it1 a b i).getD j 0 ≤ i * 4294836225
  | 0, _ => by
    rw [rtim_it1_z, List.take_zero, val, Nat.zero_mul]
    exact ⟨⟨0, by rw [val_replicate]⟩, fun j => by rw [getD_replicate0]; omega⟩
  | i + 1, hi => by
    obtain ⟨⟨q, h1⟩, h2⟩ := rt1 ba bb la lb i (by omega)
    have hl : (rtim_it1 a b i).length = 20 := (rtim_it1_l a b i).trans (by simp)
    rw [rtim_it1_s]
    unfold rtim_s1
    obtain ⟨k1, k2, _⟩ := rt2 ba bb lb (by omega : i < 20) hl h2 (20 - i) (Nat.le_refl _)
    refine ⟨⟨q + a.getD i 0 * val 65536 (b.drop (20 - i)), ?_⟩, k2⟩
    rw [k1, val_take_s 65536 (by omega : i < a.length)]
    have e := val_split 65536 (20 - i) b (by omega)
    have e2 : 65536 ^ 20 = 65536 ^ i * 65536 ^ (20 - i) := by rw [← Nat.pow_add]; congr 1; omega
    rw [e2] at h1 ⊢
    generalize val 65536 (rtim_it1 a b i) = M at *
    generalize val 65536 (b.take (20 - i)) = T at *
    generalize val 65536 (b.drop (20 - i)) = D at *
    generalize 65536 ^ i = P at *
    generalize 65536 ^ (20 - i) = Q at *
    generalize a.getD i 0 = u at *
    generalize val 65536 (a.take i) = A at *
    generalize val 65536 b = V at *
    subst e
    grind
theorem rt3 {a b : List Nat} (hl : (rtim_it1 a b 20).length = 20) (hb : ∀ j, (rtim_it1 a b 20).getD j 0 ≤ 85896724500) : ∀ i, i ≤ 20 →
    val 65536 (rtim_it3 a b i).2 + 65536 ^ i * (rtim_it3 a b i).1 = val 65536 (rtim_it1 a b 20) ∧ (∀ j, j < i → (rtim_it3 a b i).2.getD j 0 < 65536) ∧ (∀ j, i ≤ j → (rtim_it3 a b i).2.getD j 0 = (rtim_it1 a b 20).getD j 0) ∧ (rtim_it3 a b i).1 ≤ 85896724500
  | 0, _ => by
    rw [rtim_it3_z]
    exact ⟨by rw [Nat.mul_zero, Nat.add_zero], fun j h => by omega, fun _ _ => rfl, Nat.zero_le _⟩
  | i + 1, hi => by
    obtain ⟨h1, h2, h3, h4⟩ := rt3 hl hb i (by omega)
    have hr : (rtim_it3 a b i).2.length = 20 := (rtim_it3_l1 a b i).trans hl
    rw [rtim_it3_s]
    unfold rtim_s3
    dsimp only
    have e0 := h3 i (Nat.le_refl _)
    have e1 := hb i
    have e3 : ((rtim_it3 a b i).2.getD i 0 + (rtim_it3 a b i).1) % 18446744073709551616 = (rtim_it3 a b i).2.getD i 0 + (rtim_it3 a b i).1 := Nat.mod_eq_of_lt (by omega)
    rw [e3]
    generalize (rtim_it3 a b i).2 = r at *
    generalize (rtim_it3 a b i).1 = c at *
    generalize val 65536 (rtim_it1 a b 20) = V at *
    have e4 := val_set (B := 65536) (xs := r) (i := i) (v := (r.getD i 0 + c) % 65536) (by omega)
    refine ⟨?_, ?_, ?_, by omega⟩
    · have e5 := Nat.div_add_mod (r.getD i 0 + c) 65536
      rw [Nat.pow_succ]
      generalize (r.getD i 0 + c) / 65536 = d at *
      generalize (r.getD i 0 + c) % 65536 = t at *
      generalize val 65536 (r.set i t) = X at *
      generalize r.getD i 0 = z at *
      generalize val 65536 r = Y at *
      generalize 65536 ^ i = P at *
      grind
    · intro j hj
      by_cases hij : i = j
      · subst hij
        rw [Go.Fx.getD_set_eq (by omega)]
        exact Nat.mod_lt _ (by decide)
      · rw [Go.Fx.getD_set_ne hij]
        exact h2 j (by omega)
    · intro j hj
      rw [Go.Fx.getD_set_ne (by omega)]
      exact h3 j (by omega)
theorem rtim_l (a b : List Nat) : (rtim a b).length = 20 := by
  unfold rtim
  exact (rtim_it3_l1 a b 20).trans ((rtim_it1_l a b 20).trans (by simp))
theorem rt3_lt (a b : List Nat) : ∀ i, i ≤ 20 → ∀ j, j < i → (rtim_it3 a b i).2.getD j 0 < 65536
  | 0, _, j, h => by omega
  | i + 1, hi, j, h => by
    have hr : (rtim_it3 a b i).2.length = 20 := (rtim_it3_l1 a b i).trans ((rtim_it1_l a b 20).trans (by simp))
    rw [rtim_it3_s]
    unfold rtim_s3
    dsimp only
    by_cases hij : i = j
    · subst hij
      rw [Go.Fx.getD_set_eq (by omega)]
      exact Nat.mod_lt _ (by decide)
    · rw [Go.Fx.getD_set_ne hij]
      exact rt3_lt a b i (by omega) j (by omega)
theorem rtim_lt (a b : List Nat) : Lt 65536 (rtim a b) := by
  intro j
  by_cases hj : j < 20
  · unfold rtim
    exact rt3_lt a b 20 (Nat.le_refl _) j hj
  · rw [getD_ge (by rw [rtim_l]; omega)]; decide
theorem rtim_ok {a b : List Nat} (ba : Lt 65536 a) (bb : Lt 65536 b) (la : a.length = 20) (lb : b.length = 20) : Lt 65536 (rtim a b) ∧ (rtim a b).length = 20 ∧ val 65536 (rtim a b) = val 65536 a * val 65536 b % 65536 ^ 20 := by
  have hl : (rtim_it1 a b 20).length = 20 := (rtim_it1_l a b 20).trans (by simp)
  obtain ⟨⟨q, h1⟩, h2⟩ := rt1 ba bb la lb 20 (Nat.le_refl _)
  obtain ⟨k1, k2, k3, k4⟩ := rt3 hl h2 20 (Nat.le_refl _)
  have hr : (rtim_it3 a b 20).2.length = 20 := (rtim_it3_l1 a b 20).trans hl
  have hd : rtim a b = (rtim_it3 a b 20).2 := by unfold rtim; rfl
  rw [hd]
  generalize (rtim_it3 a b 20).2 = r at *
  have hlt : Lt 65536 r := by
    intro j
    by_cases hj : j < 20
    · exact k2 j hj
    · rw [getD_ge (by omega)]; decide
  refine ⟨hlt, hr, ?_⟩
  rw [List.take_of_length_le (by omega)] at h1
  have hv := hlt.val_lt
  rw [hr] at hv
  rw [← h1, ← k1, Nat.add_assoc, ← Nat.mul_add, Nat.add_mul_mod_self_left, Nat.mod_eq_of_lt hv]
theorem rtim_digs {x y : Nat} (h : x * y < 65536 ^ 20) (hx : x < 65536 ^ 20) (hy : y < 65536 ^ 20) : rtim (digs 65536 20 x) (digs 65536 20 y) = digs 65536 20 (x * y) := by
  obtain ⟨h1, h2, h3⟩ := rtim_ok (digs_lt (by decide) 20 x) (digs_lt (by decide) 20 y) (digs_len _ _ _) (digs_len _ _ _)
  rw [val_digs (by decide), val_digs (by decide), Nat.mod_eq_of_lt hx, Nat.mod_eq_of_lt hy, Nat.mod_eq_of_lt h] at h3
  refine val_inj (B := 65536) (by decide) h1.mem (digs_lt (by decide) 20 _).mem (by rw [h2, digs_len]) ?_
  rw [h3, val_digs (by decide), Nat.mod_eq_of_lt h]
end Go.Proofs.Ytjgcmfedofmkpaa
