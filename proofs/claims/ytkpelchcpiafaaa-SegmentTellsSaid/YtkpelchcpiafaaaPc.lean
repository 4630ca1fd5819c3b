/-
  The plain law of Poly1305: the other tag as numbers.
-/
import Derived.Test.YtkpelchcpiafaaaPb
namespace Go.Proofs.Ytkpelchcpiafaaa
open Go Go.Fx
set_option linter.unusedVariables false
set_option linter.unusedSimpArgs false

theorem rcarried_val {n : List Nat} (hn : n.length = 40) (hv : val 256 n < 256 ^ 40) : val 256 (rcarried n) = val 256 n := by
  have key : ∀ i, i ≤ 40 → val 256 (rcarried_it1 n i).2 + 256 ^ i * (rcarried_it1 n i).1 = val 256 n := by
    intro i
    induction i with
    | zero => intro _; rw [rcarried_it1_z]; rfl
    | succ i ih =>
      intro hi
      have h1 := ih (by omega)
      rw [rcarried_it1_s]
      simp only [rcarried_s1]
      have h4 := carry_set (B := 256) (x := (rcarried_it1 n i).2.getD i 0 + (rcarried_it1 n i).1) (m := (rcarried_it1 n i).2) (i := i) (by rw [rcarried_it1_l1]; omega)
      rw [Nat.mul_add] at h4
      omega
  have h := key 40 (by omega)
  have hlt := (rcarried_lt hn).val_lt
  rw [rcarried_len, hn] at hlt
  show val 256 (rcarried_it1 n 40).2 = _
  have h0 : (rcarried_it1 n 40).1 = 0 := by
    rcases Nat.eq_zero_or_pos (rcarried_it1 n 40).1 with h0 | h0
    · exact h0
    · exfalso
      have : 256 ^ 40 * 1 ≤ 256 ^ 40 * (rcarried_it1 n 40).1 := Nat.mul_le_mul_left _ h0
      omega
  rw [h0] at h
  omega
theorem rcarried_digs {n : List Nat} (hn : n.length = 40) (hv : val 256 n < 256 ^ 40) : rcarried n = digs 256 40 (val 256 n) := by
  have := eq_digs (by decide) (rcarried_lt hn) (n := 40) (by rw [rcarried_len, hn])
  rwa [rcarried_val hn hv] at this
/-- The number from a place on. -/
theorem val_div_step {m : List Nat} (h : Lt 256 m) (j : Nat) : val 256 m / 256 ^ j = m.getD j 0 + 256 * (val 256 m / 256 ^ (j + 1)) := by
  have h1 := val_group (B := 256) (k := 1) (by decide) (by decide) m j (by simpa using h)
  simp only [Nat.pow_one, Nat.div_one, Nat.mod_one, Nat.pow_zero] at h1
  have h2 := h j
  rw [Nat.pow_succ, ← Nat.div_div_eq_div_mul]
  omega
theorem rm2_digs {m : List Nat} (lm : m.length = 40) (h : Lt 256 m) : rmodulo_it2 m 24 = digs 256 40 (val 256 m / 2 ^ 130) := by
  have hz : ∀ j, 40 ≤ j → val 256 m / 256 ^ j = 0 := fun j hj => by
    refine Nat.div_eq_of_lt (Nat.lt_of_lt_of_le h.val_lt ?_)
    rw [lm]; exact Nat.pow_le_pow_right (by decide) hj
  have key : ∀ i, i ≤ 24 → (∀ j, j < i → (rmodulo_it2 m i).getD j 0 = val 256 m / 2 ^ 130 / 256 ^ j % 256) ∧ (∀ j, i ≤ j → (rmodulo_it2 m i).getD j 0 = 0) := by
    intro i
    induction i with
    | zero => intro _; exact ⟨fun j hj => by omega, fun j _ => rep_getD 40 j⟩
    | succ i ih =>
      intro hi
      obtain ⟨h1, h2⟩ := ih (by omega)
      have e : val 256 m / 2 ^ 130 / 256 ^ i % 256 = (m.getD (16 + i) 0) / 4 + (m.getD (16 + i + 1) 0 % 4) * 64 := by
        rw [show (2 : Nat) ^ 130 = 256 ^ 16 * 4 by decide, ← Nat.div_div_eq_div_mul, Nat.div_div_eq_div_mul (val 256 m / 256 ^ 16), Nat.mul_comm 4, ← Nat.div_div_eq_div_mul, Nat.div_div_eq_div_mul (val 256 m), ← Nat.pow_add,
          val_div_step h (16 + i), val_div_step h (16 + i + 1)]
        have := h (16 + i)
        have := h (16 + i + 1)
        omega
      have z39 : i = 23 → m.getD (16 + i + 1) 0 = 0 := fun hi => by subst hi; exact getD_ge (by omega)
      rw [rmodulo_it2_s]
      simp only [rmodulo_s2, show 16 + i - 16 = i by omega]
      have hlen : (rmodulo_it2 m i).length = 40 := by rw [rmodulo_it2_l, List.length_replicate]
      refine ⟨fun j hj => ?_, fun j hj => ?_⟩
      · by_cases hji : j = i
        · subst hji
          rw [e]
          split
          · rw [getD_set_eq (by omega)]
          · rw [getD_set_eq (by omega), z39 (by omega)]; simp
        · split
          · rw [Fx.getD_set_ne (by omega)]; exact h1 j (by omega)
          · rw [Fx.getD_set_ne (by omega)]; exact h1 j (by omega)
      · split
        · rw [Fx.getD_set_ne (by omega)]; exact h2 j (by omega)
        · rw [Fx.getD_set_ne (by omega)]; exact h2 j (by omega)
  obtain ⟨h1, h2⟩ := key 24 (by omega)
  refine ext_getD (by rw [rmodulo_it2_l, List.length_replicate, digs_len]) fun j hj => ?_
  rw [rmodulo_it2_l, List.length_replicate] at hj
  rw [digs_getD hj]
  by_cases hj24 : j < 24
  · exact h1 j hj24
  · rw [h2 j (by omega), show (2 : Nat) ^ 130 = 256 ^ 16 * 4 by decide, ← Nat.div_div_eq_div_mul, Nat.div_div_eq_div_mul (val 256 m / 256 ^ 16), Nat.mul_comm 4, ← Nat.div_div_eq_div_mul, Nat.div_div_eq_div_mul (val 256 m), ← Nat.pow_add, hz (16 + j) (by omega)]
theorem rm3_val {m : List Nat} (lm : m.length = 40) (h : Lt 256 m) : val 256 (rmodulo_it3 m 23) = val 256 m % 2 ^ 130 := by
  have key : ∀ i, i ≤ 23 → (∀ j, 17 ≤ j → j < 17 + i → (rmodulo_it3 m i).getD j 0 = 0) ∧ (∀ j, j < 17 → (rmodulo_it3 m i).getD j 0 = (m.set 16 (m.getD 16 0 % 4)).getD j 0) := by
    intro i
    induction i with
    | zero => intro _; exact ⟨fun j _ hj => by omega, fun j _ => rfl⟩
    | succ i ih =>
      intro hi
      obtain ⟨h1, h2⟩ := ih (by omega)
      rw [rmodulo_it3_s]
      simp only [rmodulo_s3]
      have hlen : (rmodulo_it3 m i).length = 40 := by rw [rmodulo_it3_l, List.length_set, lm]
      refine ⟨fun j hj1 hj2 => ?_, fun j hj => ?_⟩
      · by_cases hji : j = 17 + i
        · subst hji; exact getD_set_eq (by omega)
        · rw [Fx.getD_set_ne (by omega)]; exact h1 j hj1 (by omega)
      · rw [Fx.getD_set_ne (by omega)]; exact h2 j hj
  obtain ⟨h1, h2⟩ := key 23 (by omega)
  have hlen : (rmodulo_it3 m 23).length = 40 := by rw [rmodulo_it3_l, List.length_set, lm]
  rw [val_drop_zero (n := 17) (fun j hj => by
    by_cases hj4 : j < 40
    · exact h1 j hj (by omega)
    · exact getD_ge (by omega))]
  rw [show (17 : Nat) = 16 + 1 from rfl, val_take_succ (by omega), h2 16 (by omega), getD_set_eq (by omega)]
  have e : (rmodulo_it3 m 23).take 16 = m.take 16 := by
    refine ext_getD (by simp [hlen, lm]) fun j hj => ?_
    simp [hlen] at hj
    rw [getD_take (by omega), getD_take (by omega), h2 j (by omega), Fx.getD_set_ne (by omega)]
  rw [e]
  have h3 := val_split 256 16 m (by omega)
  have h4 : m.drop 16 = m.getD 16 0 :: m.drop 17 := by
    rw [List.drop_eq_getElem_cons (by omega)]
    simp [List.getD_eq_getElem?_getD, lm]
  rw [h4, val] at h3
  have h5 := (h.take 16).val_lt
  rw [List.length_take, Nat.min_eq_left (by omega)] at h5
  simp only [show (256 : Nat) ^ 16 = 340282366920938463463374607431768211456 from rfl, show (2 : Nat) ^ 130 = 1361129467683753853853498429727072845824 from rfl] at *
  omega
theorem rm4_val {m : List Nat} (lm : m.length = 40) (h : Lt 256 m) : val 256 (rmodulo_it4 m 40) = val 256 m % 2 ^ 130 + 5 * (val 256 m / 2 ^ 130) := by
  have hH := rm2_digs lm h
  have key : ∀ i, i ≤ 40 → val 256 (rmodulo_it4 m i) = val 256 (rmodulo_it3 m 23) + 5 * val 256 ((rmodulo_it2 m 24).take i) := by
    intro i
    induction i with
    | zero => intro _; rw [rmodulo_it4_z]; simp [val]
    | succ i ih =>
      intro hi
      have h1 := ih (by omega)
      rw [rmodulo_it4_s]
      simp only [rmodulo_s4]
      have h5 := val_set (B := 256) (xs := rmodulo_it4 m i) (i := i) (v := (rmodulo_it4 m i).getD i 0 + 5 * (rmodulo_it2 m 24).getD i 0) (by rw [rmodulo_it4_l, rmodulo_it3_l, List.length_set]; omega)
      rw [val_take_succ (by rw [rmodulo_it2_l, List.length_replicate]; omega)]
      rw [Nat.mul_add, Nat.mul_left_comm] at h5
      omega
  rw [key 40 (by omega), rm3_val lm h, List.take_of_length_le (by rw [rmodulo_it2_l, List.length_replicate]; omega), hH, val_digs (by decide), Nat.mod_eq_of_lt (a := val 256 m / 2 ^ 130) (b := 256 ^ 40)]
  refine Nat.lt_of_le_of_lt (Nat.div_le_self _ _) ?_
  have := h.val_lt
  rwa [lm] at this
def P130 : Nat := 1361129467683753853853498429727072845819
theorem pfold_mod (V : Nat) : pfold V % P130 = V % P130 := by
  unfold pfold P130
  simp only [show (2 : Nat) ^ 130 = 1361129467683753853853498429727072845824 from rfl]
  omega
theorem pfold_lt {X : Nat} (h : X < 256 ^ 40) : pfold X < 256 ^ 40 := by
  unfold pfold
  simp only [show (2 : Nat) ^ 130 = 1361129467683753853853498429727072845824 from rfl, show (256 : Nat) ^ 40 = 2135987035920910082395021706169552114602704522356652769947041607822219725780640550022962086936576 from rfl] at *
  omega
theorem pfold4_lt {X : Nat} (h : X < 256 ^ 40) : pfold (pfold (pfold (pfold X))) < 2 ^ 130 := by
  unfold pfold
  simp only [show (2 : Nat) ^ 130 = 1361129467683753853853498429727072845824 from rfl, show (256 : Nat) ^ 40 = 2135987035920910082395021706169552114602704522356652769947041607822219725780640550022962086936576 from rfl] at *
  omega
theorem rm1_val {n : List Nat} (ln : n.length = 40) (hv : val 256 n < 256 ^ 40) : ∀ i, rmodulo_it1 n i = digs 256 40 (iter (fun _ V => pfold V) i (val 256 n)) ∧ iter (fun _ V => pfold V) i (val 256 n) < 256 ^ 40 := by
  intro i
  induction i with
  | zero => exact ⟨rcarried_digs ln hv, hv⟩
  | succ i ih =>
    obtain ⟨h1, h2⟩ := ih
    have lm : (rmodulo_it1 n i).length = 40 := by rw [h1, digs_len]
    have bm : Lt 256 (rmodulo_it1 n i) := by rw [h1]; exact digs_lt (by decide) _ _
    have vm : val 256 (rmodulo_it1 n i) = iter (fun _ V => pfold V) i (val 256 n) := by rw [h1, val_digs (by decide), Nat.mod_eq_of_lt h2]
    have h4 := rm4_val lm bm
    rw [vm] at h4
    have h5 : iter (fun _ V => pfold V) (i + 1) (val 256 n) = pfold (iter (fun _ V => pfold V) i (val 256 n)) := rfl
    rw [h5, rmodulo_it1_s]
    simp only [rmodulo_s1]
    have h6 := pfold_lt h2
    refine ⟨?_, h6⟩
    have h7 := rcarried_digs (n := rmodulo_it4 (rmodulo_it1 n i) 40) (by rw [rmodulo_it4_l, rmodulo_it3_l, List.length_set, lm]) (by rw [h4]; exact h6)
    rw [h4] at h7
    exact h7
theorem rmodulo_val {n : List Nat} (ln : n.length = 40) (hv : val 256 n < 256 ^ 40) : rmodulo n = digs 256 40 (val 256 n % P130) := by
  obtain ⟨h1, h2⟩ := rm1_val ln hv 4
  have h3 : iter (fun _ V => pfold V) 4 (val 256 n) < 2 ^ 130 := pfold4_lt hv
  have h4 : iter (fun _ V => pfold V) 4 (val 256 n) % P130 = val 256 n % P130 := by
    have e : iter (fun _ V => pfold V) 4 (val 256 n) = pfold (pfold (pfold (pfold (val 256 n)))) := rfl
    rw [e, pfold_mod, pfold_mod, pfold_mod, pfold_mod]
  rw [← h4]
  generalize iter (fun _ V => pfold V) 4 (val 256 n) = W at *
  have lW : (digs 256 40 W).length = 40 := digs_len _ _ _
  have vW : val 256 (digs 256 40 W) = W := by rw [val_digs (by decide), Nat.mod_eq_of_lt h2]
  have v5 : val 256 ((digs 256 40 W).set 0 ((digs 256 40 W).getD 0 0 + 5)) = W + 5 := by
    have := val_set (B := 256) (xs := digs 256 40 W) (i := 0) (v := (digs 256 40 W).getD 0 0 + 5) (by omega)
    rw [vW] at this
    omega
  have hc := rcarried_digs (n := (digs 256 40 W).set 0 ((digs 256 40 W).getD 0 0 + 5)) (by rw [List.length_set, lW]) (by rw [v5]; simp only [show (2 : Nat) ^ 130 = 1361129467683753853853498429727072845824 from rfl, show (256 : Nat) ^ 40 = 2135987035920910082395021706169552114602704522356652769947041607822219725780640550022962086936576 from rfl] at *; omega)
  rw [v5] at hc
  have hg : (digs 256 40 (W + 5)).getD 16 0 = (W + 5) / 256 ^ 16 % 256 := digs_getD (by decide)
  have hp : P130 = 1361129467683753853853498429727072845819 := rfl
  have e16 : (256 : Nat) ^ 16 = 340282366920938463463374607431768211456 := rfl
  have h3' : W < 1361129467683753853853498429727072845824 := h3
  have e : rmodulo n = if 4 ≤ (rcarried ((rmodulo_it1 n 4).set 0 ((rmodulo_it1 n 4).getD 0 0 + 5))).getD 16 0 then (rcarried ((rmodulo_it1 n 4).set 0 ((rmodulo_it1 n 4).getD 0 0 + 5))).set 16 ((rcarried ((rmodulo_it1 n 4).set 0 ((rmodulo_it1 n 4).getD 0 0 + 5))).getD 16 0 - 4) else rmodulo_it1 n 4 := by
    unfold rmodulo; dsimp only
  rw [e, h1, hc, hg]
  by_cases h : 4 ≤ (W + 5) / 256 ^ 16 % 256
  · rw [if_pos h]
    have hlt : (W + 5) < 256 ^ 40 := Nat.lt_trans (m := 1361129467683753853853498429727072845830) (by omega) (by decide)
    have h7 := val_set (B := 256) (xs := digs 256 40 (W + 5)) (i := 16) (v := (W + 5) / 256 ^ 16 % 256 - 4) (by rw [digs_len]; decide)
    rw [val_digs (by decide), Nat.mod_eq_of_lt hlt, hg] at h7
    have h8 : Lt 256 ((digs 256 40 (W + 5)).set 16 ((W + 5) / 256 ^ 16 % 256 - 4)) := (digs_lt (by decide) _ _).set (Nat.lt_of_le_of_lt (Nat.sub_le _ _) (Nat.mod_lt _ (by decide)))
    rw [eq_digs (by decide) h8 (n := 40) (by rw [List.length_set, digs_len])]
    refine congrArg (digs 256 40) ?_
    rw [e16] at h h7
    rw [e16, hp]
    omega
  · rw [if_neg h]
    refine congrArg (digs 256 40) ?_
    rw [hp]
    rw [e16] at h
    omega
theorem rtimes_in {a b m : List Nat} (lm : m.length = 40) {i : Nat} (hi : i < 20) (lb : b.length = 40) : ∀ k, k ≤ 20 → val 256 (rtimes_it2 a b i m k) = val 256 m + 256 ^ i * (a.getD i 0 * val 256 (b.take k)) := by
  intro k
  induction k with
  | zero => intro _; simp [rtimes_it2_z, val]
  | succ k ih =>
    intro hk
    have h1 := ih (by omega)
    rw [rtimes_it2_s]
    simp only [rtimes_s2]
    have h5 := val_set (B := 256) (xs := rtimes_it2 a b i m k) (i := i + k) (v := (rtimes_it2 a b i m k).getD (i + k) 0 + a.getD i 0 * b.getD k 0) (by rw [rtimes_it2_l]; omega)
    rw [val_take_succ (by omega)]
    rw [Nat.mul_add] at h5
    rw [Nat.mul_add, Nat.mul_add, Nat.mul_left_comm (a.getD i 0), ← Nat.mul_assoc (256 ^ i) (256 ^ k), ← Nat.pow_add]
    omega
theorem rtimes_out {a b : List Nat} (la : a.length = 40) (lb : b.length = 40) : ∀ i, i ≤ 20 → val 256 (rtimes_it1 a b i) = val 256 (a.take i) * val 256 (b.take 20) := by
  intro i
  induction i with
  | zero => intro _; rw [rtimes_it1_z, val_replicate]; simp [val]
  | succ i ih =>
    intro hi
    rw [rtimes_it1_s]
    simp only [rtimes_s1]
    rw [rtimes_in (by rw [rtimes_it1_l, List.length_replicate]) (by omega) lb 20 (by omega), ih (by omega), val_take_succ (xs := a) (by omega), Nat.add_mul, Nat.mul_assoc]
theorem rtimes_val {a b : List Nat} (la : a.length = 40) (lb : b.length = 40) (ha : Lt 256 a) (hb : Lt 256 b) (za : ∀ j, 20 ≤ j → a.getD j 0 = 0) (zb : ∀ j, 20 ≤ j → b.getD j 0 = 0) : rtimes a b = digs 256 40 (val 256 a * val 256 b % P130) := by
  have h1 := rtimes_out la lb 20 (by omega)
  rw [← val_drop_zero za, ← val_drop_zero zb] at h1
  have ba := (ha.take 20).val_lt
  have bb := (hb.take 20).val_lt
  rw [List.length_take, Nat.min_eq_left (by omega), ← val_drop_zero za] at ba
  rw [List.length_take, Nat.min_eq_left (by omega), ← val_drop_zero zb] at bb
  unfold rtimes
  rw [rmodulo_val (by rw [rtimes_it1_l, List.length_replicate]) (by
    rw [h1]
    calc val 256 a * val 256 b < 256 ^ 20 * 256 ^ 20 := Nat.mul_lt_mul_of_lt_of_lt ba bb
      _ = 256 ^ 40 := by rw [← Nat.pow_add]), h1]
end Go.Proofs.Ytkpelchcpiafaaa
