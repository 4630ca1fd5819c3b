/-
  Plain: the document's numbers in sixteen digits: differences.
-/
import Derived.Test.YtnfiiclmbiiokaaRa
import Derived.Test.YtnfiiclmbiiokaaFc
namespace Go.Proofs.Ytnfiiclmbiiokaa
open Go Go.Fx
set_option linter.unusedVariables false
set_option linter.unusedSimpArgs false
theorem rP_val : val 65536 rP = 57896044618658097711785492504343953926634992332820282019728792003956564819949 := by decide +kernel
theorem rP_lt : Lt 65536 rP := Lt.of_mem (by decide) (by decide +kernel)
theorem rless_key {x y : List Nat} (lx : x.length = 16) (ly : y.length = 16) (bx : Lt 65536 x) (bY : Lt 65536 y) : ∀ i, i ≤ 16 →
    (rless_it1 x y i).1 ≤ 1 ∧ Lt 65536 (rless_it1 x y i).2 ∧ (rless_it1 x y i).2.length = 16 ∧ (∀ j, i ≤ j → (rless_it1 x y i).2.getD j 0 = 0) ∧
      val 65536 (rless_it1 x y i).2 + val 65536 (y.take i) = val 65536 (x.take i) + 65536 ^ i * (rless_it1 x y i).1 := by
  intro i
  induction i with
  | zero => intro _; exact ⟨Nat.zero_le _, Lt.replicate (by decide), rfl, fun j _ => rep_getD 16 j, by simp [rless_it1_z, val]⟩
  | succ i ih =>
    intro hi
    obtain ⟨h0, h1, hl, h2, h3⟩ := ih (by omega)
    have hxi := bx i
    have hyi := bY i
    rw [rless_it1_s]
    unfold rless_s1
    dsimp only
    generalize (rless_it1 x y i).1 = b at *
    generalize (rless_it1 x y i).2 = o at *
    have hn : ((((x.getD i 0 + 65536) % 18446744073709551616 + (18446744073709551616 - y.getD i 0)) % 18446744073709551616) + (18446744073709551616 - b)) % 18446744073709551616 = x.getD i 0 + 65536 - y.getD i 0 - b := by omega
    rw [hn]
    refine ⟨by omega, h1.set (Nat.mod_lt _ (by decide)), by rw [List.length_set]; exact hl, fun j hj => ?_, ?_⟩
    · rw [Fx.getD_set_ne (by omega)]; exact h2 j (by omega)
    · have h5 := val_set (B := 65536) (xs := o) (i := i) (v := (x.getD i 0 + 65536 - y.getD i 0 - b) % 65536) (by omega)
      rw [h2 i (Nat.le_refl i), Nat.mul_zero] at h5
      rw [val_take_succ (by omega), val_take_succ (by omega), Nat.pow_succ, Nat.mul_assoc]
      have e : (x.getD i 0 + 65536 - y.getD i 0 - b) % 65536 + y.getD i 0 + b = x.getD i 0 + 65536 * ((1 + (18446744073709551616 - (x.getD i 0 + 65536 - y.getD i 0 - b) / 65536)) % 18446744073709551616) := by omega
      have e' := congrArg (65536 ^ i * ·) e
      simp only [Nat.mul_add] at e'
      omega
theorem rless_lt {x y : List Nat} (lx : x.length = 16) (ly : y.length = 16) (bx : Lt 65536 x) (bY : Lt 65536 y) : Lt 65536 (rless x y) := (rless_key lx ly bx bY 16 (by omega)).2.1
theorem rless_val {x y : List Nat} (lx : x.length = 16) (ly : y.length = 16) (bx : Lt 65536 x) (bY : Lt 65536 y) (h : val 65536 y ≤ val 65536 x) : val 65536 (rless x y) = val 65536 x - val 65536 y := by
  obtain ⟨h0, h1, hl, _, h3⟩ := rless_key lx ly bx bY 16 (by omega)
  have hv := h1.val_lt
  rw [hl] at hv
  rw [List.take_of_length_le (by omega), List.take_of_length_le (by omega)] at h3
  have e1 : rless x y = (rless_it1 x y 16).2 := rfl
  rw [e1]
  generalize (rless_it1 x y 16).1 = b at *
  generalize (rless_it1 x y 16).2 = o at *
  rcases (show b = 0 ∨ b = 1 by omega) with k | k
  · rw [k] at h3; omega
  · rw [k] at h3; omega
end Go.Proofs.Ytnfiiclmbiiokaa
