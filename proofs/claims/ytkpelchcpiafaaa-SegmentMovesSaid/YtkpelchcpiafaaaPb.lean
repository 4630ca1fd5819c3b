/-
  The plain law of Poly1305: the program's tag as numbers.
-/
import Derived.Test.YtkpelchcpiafaaaQf
import Derived.Test.YtkpelchcpiafaaaFc
namespace Go.Proofs.Ytkpelchcpiafaaa
open Go Go.Fx
set_option linter.unusedVariables false
set_option linter.unusedSimpArgs false

theorem and_low2 {x : Nat} (h : x < 18446744073709551616) : x &&& (18446744073709551616 - 1 - 3) = x - x % 4 := by
  have h1 : (x &&& (18446744073709551616 - 1 - 3)) / 2 ^ 2 = x / 4 := by
    rw [Nat.and_div_two_pow]
    show x / 4 &&& 4611686018427387903 = x / 4
    rw [show (4611686018427387903 : Nat) = 2 ^ 62 - 1 by decide, and_mask]
    omega
  have h2 : (x &&& (18446744073709551616 - 1 - 3)) % 2 ^ 2 = 0 := by
    rw [Nat.and_mod_two_pow]
    show x % 4 &&& 0 = 0
    simp
  simp only [show (2 : Nat) ^ 2 = 4 from rfl] at h1 h2
  omega
theorem and_three (x : Nat) : x &&& 3 = x % 4 := and_mask x 2
theorem pword_val {b : List Nat} (hb : Lt 256 b) (hl : 8 ≤ b.length) : pword b = val 256 (b.take 8) := by
  have key : ∀ i, i ≤ 8 → pword_it1 b i = val 256 (b.take i) := by
    intro i
    induction i with
    | zero => intro _; rfl
    | succ i ih =>
      intro hi
      rw [pword_it1_s]
      simp only [pword_s1]
      rw [ih (by omega), word_step hb (by omega), val_take_succ (by omega)]
  exact key 8 (by omega)
theorem pword_lt {b : List Nat} (hb : Lt 256 b) (hl : 8 ≤ b.length) : pword b < 18446744073709551616 := by
  rw [pword_val hb hl]
  have := (hb.take 8).val_lt
  rwa [List.length_take, Nat.min_eq_left hl] at this
theorem padd_val {a b : List Nat} (la : a.length = 3) (lb : b.length = 3) (ha : Lt 18446744073709551616 a) (hb : Lt 18446744073709551616 b) :
    Lt 18446744073709551616 (padd a b) ∧ val 18446744073709551616 (padd a b) = (val 18446744073709551616 a + val 18446744073709551616 b) % 18446744073709551616 ^ 3 := by
  have key : ∀ i, i ≤ 3 → Lt 18446744073709551616 (padd_it1 a b i).2 ∧ (∀ j, i ≤ j → (padd_it1 a b i).2.getD j 0 = 0) ∧
      val 18446744073709551616 (padd_it1 a b i).2 + 18446744073709551616 ^ i * (padd_it1 a b i).1 = val 18446744073709551616 (a.take i) + val 18446744073709551616 (b.take i) := by
    intro i
    induction i with
    | zero => intro _; exact ⟨Lt.replicate (by decide), fun j _ => rep_getD 3 j, rfl⟩
    | succ i ih =>
      intro hi
      obtain ⟨h1, h2, h3⟩ := ih (by omega)
      rw [padd_it1_s]
      simp only [padd_s1]
      refine ⟨h1.set (Nat.mod_lt _ (by decide)), fun j hj => ?_, ?_⟩
      · rw [Fx.getD_set_ne (by omega)]; exact h2 j (by omega)
      · have h4 := carry_set (B := 18446744073709551616) (x := a.getD i 0 + b.getD i 0 + (padd_it1 a b i).1) (m := (padd_it1 a b i).2) (i := i) (by rw [padd_it1_l1, List.length_replicate]; omega)
        rw [h2 i (Nat.le_refl i), Nat.mul_zero, Nat.mul_add, Nat.mul_add] at h4
        rw [val_take_succ (by omega), val_take_succ (by omega)]
        omega
  obtain ⟨h1, _, h3⟩ := key 3 (by omega)
  rw [List.take_of_length_le (by omega), List.take_of_length_le (by omega)] at h3
  refine ⟨h1, ?_⟩
  have h4 := h1.val_lt
  rw [padd_it1_l1, List.length_replicate] at h4
  show val 18446744073709551616 (padd_it1 a b 3).2 = _
  rw [← h3, Nat.add_mul_mod_self_left, Nat.mod_eq_of_lt h4]
def pfold (V : Nat) : Nat := V % 2 ^ 130 + 5 * (V / 2 ^ 130)
theorem pfolded_val {w : List Nat} (lw : w.length = 5) (hw : Lt 18446744073709551616 w) (hN : val 18446744073709551616 w < 1067993517960455041197510853084776057301352261178326384973520803911109862890320275011481043468288) :
    Lt 18446744073709551616 (pfolded w) ∧ val 18446744073709551616 (pfolded w) = pfold (val 18446744073709551616 w) := by
  unfold pfold
  match w, lw with
  | [w0, w1, w2, w3, w4], _ =>
    have b0 : w0 < 18446744073709551616 := hw 0
    have b1 : w1 < 18446744073709551616 := hw 1
    have b2 : w2 < 18446744073709551616 := hw 2
    have b3 : w3 < 18446744073709551616 := hw 3
    have b4 : w4 < 18446744073709551616 := hw 4
    have e : pfolded [w0, w1, w2, w3, w4] = padd (padd [w0, w1, w2 % 4] [w2 - w2 % 4, w3, w4]) [w2 / 4 + w3 % 4 * 4611686018427387904, w3 / 4 + w4 % 4 * 4611686018427387904, w4 / 4] := by
      have h1 : w2 / 2 ^ 2 ||| w3 * 2 ^ 62 % 18446744073709551616 = w2 / 4 + w3 % 4 * 4611686018427387904 := by
        rw [show w3 * 2 ^ 62 % 18446744073709551616 = w3 % 4 * 2 ^ 62 by simp only [show (2 : Nat) ^ 62 = 4611686018427387904 from rfl]; omega, or_add (by simp only [show (2 : Nat) ^ 62 = 4611686018427387904 from rfl, show (2 : Nat) ^ 2 = 4 from rfl]; omega)]
      have h2 : w3 / 2 ^ 2 ||| w4 * 2 ^ 62 % 18446744073709551616 = w3 / 4 + w4 % 4 * 4611686018427387904 := by
        rw [show w4 * 2 ^ 62 % 18446744073709551616 = w4 % 4 * 2 ^ 62 by simp only [show (2 : Nat) ^ 62 = 4611686018427387904 from rfl]; omega, or_add (by simp only [show (2 : Nat) ^ 62 = 4611686018427387904 from rfl, show (2 : Nat) ^ 2 = 4 from rfl]; omega)]
      show padd (padd [w0, w1, w2 &&& 3] [w2 &&& (18446744073709551616 - 1 - 3), w3, w4]) [w2 / 2 ^ 2 ||| w3 * 2 ^ 62 % 18446744073709551616, w3 / 2 ^ 2 ||| w4 * 2 ^ 62 % 18446744073709551616, w4 / 2 ^ 2] = _
      rw [and_three, and_low2 b2, h1, h2]
    have lt3 : ∀ {x y z : Nat}, x < 18446744073709551616 → y < 18446744073709551616 → z < 18446744073709551616 → Lt 18446744073709551616 [x, y, z] := fun hx hy hz => Lt.of_mem (by decide) (by simp; exact ⟨hx, hy, hz⟩)
    have g1 := padd_val (a := [w0, w1, w2 % 4]) (b := [w2 - w2 % 4, w3, w4]) rfl rfl (lt3 b0 b1 (by omega)) (lt3 (by omega) b3 b4)
    have g2 := padd_val (a := padd [w0, w1, w2 % 4] [w2 - w2 % 4, w3, w4]) (b := [w2 / 4 + w3 % 4 * 4611686018427387904, w3 / 4 + w4 % 4 * 4611686018427387904, w4 / 4]) (padd_len _ _) rfl g1.1 (lt3 (by omega) (by omega) (by omega))
    rw [e]
    refine ⟨g2.1, ?_⟩
    rw [g2.2, g1.2]
    simp only [val, show (18446744073709551616 : Nat) ^ 3 = 6277101735386680763835789423207666416102355444464034512896 from rfl, show (2 : Nat) ^ 130 = 1361129467683753853853498429727072845824 from rfl] at *
    generalize hA : w0 + 18446744073709551616 * (w1 + 18446744073709551616 * (w2 % 4 + 18446744073709551616 * 0)) = A at *
    generalize hB : w2 - w2 % 4 + 18446744073709551616 * (w3 + 18446744073709551616 * (w4 + 18446744073709551616 * 0)) = B at *
    generalize hC : w2 / 4 + w3 % 4 * 4611686018427387904 + 18446744073709551616 * (w3 / 4 + w4 % 4 * 4611686018427387904 + 18446744073709551616 * (w4 / 4 + 18446744073709551616 * 0)) = C at *
    generalize hN' : w0 + 18446744073709551616 * (w1 + 18446744073709551616 * (w2 + 18446744073709551616 * (w3 + 18446744073709551616 * (w4 + 18446744073709551616 * 0)))) = N at *
    have e1 : B = 4 * C := by omega
    have e2 : N = A + 1361129467683753853853498429727072845824 * C := by omega
    have e3 : A < 1361129467683753853853498429727072845824 := by omega
    clear hA hB hC hN' g1 g2
    subst e1 e2
    rw [Nat.add_mul_mod_self_left, Nat.mod_eq_of_lt e3, Nat.add_mul_div_left _ _ (by decide), Nat.div_eq_of_lt e3, Nat.zero_add]
    have h1 : A + 4 * C < 6277101735386680763835789423207666416102355444464034512896 := by omega
    rw [Nat.mod_eq_of_lt h1]
    omega
theorem mul64_val {x y : Nat} (hx : x < 18446744073709551616) (hy : y < 18446744073709551616) : (mul64 x y).1 = x * y / 18446744073709551616 ∧ (mul64 x y).2 = x * y % 18446744073709551616 := ⟨mul_hi hx hy, rfl⟩
theorem ptimes_in {a r w : List Nat} (la : a.length = 3) (lr : r.length = 2) (lw : w.length = 5) (ha : Lt 18446744073709551616 a) (hr : Lt 18446744073709551616 r) (hw : Lt 18446744073709551616 w) {i : Nat} (hi : i < 3) : ∀ k, k ≤ 2 →
    Lt 18446744073709551616 (ptimes_it2 a r i w k).2 ∧ (ptimes_it2 a r i w k).1 < 18446744073709551616 ∧ (∀ j, i + k ≤ j → (ptimes_it2 a r i w k).2.getD j 0 = w.getD j 0) ∧
      val 18446744073709551616 (ptimes_it2 a r i w k).2 + 18446744073709551616 ^ (i + k) * (ptimes_it2 a r i w k).1 = val 18446744073709551616 w + 18446744073709551616 ^ i * (a.getD i 0 * val 18446744073709551616 (r.take k)) := by
  intro k
  induction k with
  | zero => intro _; exact ⟨hw, (by decide : (0 : Nat) < 18446744073709551616), fun j _ => rfl, by simp [ptimes_it2_z, val]⟩
  | succ k ih =>
    intro hk
    obtain ⟨h1, h2, h3, h4⟩ := ih (by omega)
    have hm := mul64_val (ha i) (hr k)
    have hacc := mul_acc (ha i) (hr k) h2 (h1 (i + k)) hm.1 hm.2
    rw [ptimes_it2_s]
    simp only [ptimes_s2]
    refine ⟨h1.set (Nat.mod_lt _ (by decide)), Nat.mod_lt _ (by decide), fun j hj => ?_, ?_⟩
    · rw [Fx.getD_set_ne (by omega)]; exact h3 j (by omega)
    · have h5 := val_set (B := 18446744073709551616) (xs := (ptimes_it2 a r i w k).2) (i := i + k) (v := ((ptimes_it2 a r i w k).2.getD (i + k) 0 + ((mul64 (a.getD i 0) (r.getD k 0)).2 + (ptimes_it2 a r i w k).1 + 0) % 18446744073709551616 + 0) % 18446744073709551616) (by rw [ptimes_it2_l1]; omega)
      rw [← Nat.add_assoc i k 1, Nat.pow_succ, Nat.mul_assoc, val_take_succ (by omega)]
      have h6 := congrArg (18446744073709551616 ^ (i + k) * ·) hacc
      simp only [Nat.mul_add] at h6 ⊢
      rw [Nat.mul_left_comm (a.getD i 0), ← Nat.mul_assoc (18446744073709551616 ^ i) (18446744073709551616 ^ k), ← Nat.pow_add]
      omega
theorem ptimes_out {a r : List Nat} (la : a.length = 3) (lr : r.length = 2) (ha : Lt 18446744073709551616 a) (hr : Lt 18446744073709551616 r) : ∀ i, i ≤ 3 →
    Lt 18446744073709551616 (ptimes_it1 a r i) ∧ (∀ j, i + 2 ≤ j → (ptimes_it1 a r i).getD j 0 = 0) ∧ val 18446744073709551616 (ptimes_it1 a r i) = val 18446744073709551616 (a.take i) * val 18446744073709551616 r := by
  intro i
  induction i with
  | zero => intro _; exact ⟨Lt.replicate (by decide), fun j _ => rep_getD 5 j, by rw [ptimes_it1_z, val_replicate]; simp [val]⟩
  | succ i ih =>
    intro hi
    obtain ⟨h1, h2, h3⟩ := ih (by omega)
    have l1 : (ptimes_it1 a r i).length = 5 := by rw [ptimes_it1_l, List.length_replicate]
    obtain ⟨g1, g2, g3, g4⟩ := ptimes_in la lr l1 ha hr h1 (show i < 3 by omega) 2 (by omega)
    have z := g3 (i + 2) (Nat.le_refl _)
    rw [h2 (i + 2) (by omega)] at z
    rw [ptimes_it1_s]
    simp only [ptimes_s1]
    rw [z, Nat.zero_add, Nat.mod_eq_of_lt g2]
    refine ⟨g1.set g2, fun j hj => ?_, ?_⟩
    · rw [Fx.getD_set_ne (by omega), g3 j (by omega)]; exact h2 j (by omega)
    · have h5 := val_set (B := 18446744073709551616) (xs := (ptimes_it2 a r i (ptimes_it1 a r i) 2).2) (i := i + 2) (v := (ptimes_it2 a r i (ptimes_it1 a r i) 2).1) (by rw [ptimes_it2_l1]; omega)
      rw [z, Nat.mul_zero] at h5
      rw [List.take_of_length_le (l := r) (by omega), h3] at g4
      rw [val_take_succ (by omega), Nat.add_mul, Nat.mul_assoc]
      omega
theorem ptimes_val {a r : List Nat} (la : a.length = 3) (lr : r.length = 2) (ha : Lt 18446744073709551616 a) (hr : Lt 18446744073709551616 r) (hN : val 18446744073709551616 a * val 18446744073709551616 r < 1067993517960455041197510853084776057301352261178326384973520803911109862890320275011481043468288) :
    Lt 18446744073709551616 (ptimes a r) ∧ val 18446744073709551616 (ptimes a r) = pfold (val 18446744073709551616 a * val 18446744073709551616 r) := by
  obtain ⟨h1, _, h3⟩ := ptimes_out la lr ha hr 3 (by omega)
  rw [List.take_of_length_le (by omega)] at h3
  have := pfolded_val (by rw [ptimes_it1_l, List.length_replicate]) h1 (by rw [h3]; exact hN)
  rw [h3] at this
  exact this
end Go.Proofs.Ytkpelchcpiafaaa
