/-
  Plain: the field of 2^255 - 19 elements: powers, inverses, no divisors of 0, roots of quotients.
-/
import Derived.Test.YtnfiiclmbiiokaaFc
namespace Go.Proofs.Ytnfiiclmbiiokaa
open Go Go.Fx
set_option linter.unusedVariables false
set_option linter.unusedSimpArgs false
/-- The field. -/
abbrev K := Fin 57896044618658097711785492504343953926634992332820282019728792003956564819949
def kof (n : Nat) : K := Fin.ofNat _ n
theorem kof_val (n : Nat) : (kof n).val = n % 57896044618658097711785492504343953926634992332820282019728792003956564819949 := rfl
theorem kof_of (x : K) : kof x.val = x := by
  apply Fin.ext
  rw [kof_val]
  exact Nat.mod_eq_of_lt x.isLt
theorem kof_eq {a b : Nat} : kof a = kof b ↔ a % 57896044618658097711785492504343953926634992332820282019728792003956564819949 = b % 57896044618658097711785492504343953926634992332820282019728792003956564819949 := by
  constructor
  · intro h; exact congrArg Fin.val h
  · intro h; exact Fin.ext h
theorem kof_mod (n : Nat) : kof (n % 57896044618658097711785492504343953926634992332820282019728792003956564819949) = kof n := kof_eq.2 (Nat.mod_mod _ _)
theorem kof_add (a b : Nat) : kof (a + b) = kof a + kof b := by
  apply Fin.ext
  rw [Fin.val_add, kof_val, kof_val, kof_val, ← Nat.add_mod]
theorem kof_mul (a b : Nat) : kof (a * b) = kof a * kof b := by
  apply Fin.ext
  rw [Fin.val_mul, kof_val, kof_val, kof_val, ← Nat.mul_mod]
theorem kof_zero : kof 0 = 0 := rfl
theorem kof_one : kof 1 = 1 := rfl
theorem kof_sub {a b c : Nat} (h : c + b = a) : kof c = kof a - kof b := by
  have : kof a = kof c + kof b := by rw [← kof_add, h]
  rw [this]
  grind
theorem kof_eq0 {n : Nat} : kof n = 0 ↔ 57896044618658097711785492504343953926634992332820282019728792003956564819949 ∣ n := by
  rw [← kof_zero, kof_eq, Nat.zero_mod]
  exact ⟨Nat.dvd_of_mod_eq_zero, Nat.mod_eq_zero_of_dvd⟩
def kp (x : K) : Nat → K
  | 0 => 1
  | n + 1 => kp x n * x
theorem kp_zero (x : K) : kp x 0 = 1 := rfl
theorem kp_succ (x : K) (n : Nat) : kp x (n + 1) = kp x n * x := rfl
attribute [irreducible] kp
theorem kp_one (x : K) : kp x 1 = x := by rw [show (1 : Nat) = 0 + 1 from rfl, kp_succ, kp_zero]; grind
theorem kp_two (x : K) : kp x 2 = x * x := by rw [show (2 : Nat) = 1 + 1 from rfl, kp_succ, kp_one]
theorem kp_add (x : K) (a : Nat) : ∀ b, kp x (a + b) = kp x a * kp x b
  | 0 => by rw [Nat.add_zero, kp_zero]; grind
  | b + 1 => by rw [← Nat.add_assoc, kp_succ, kp_succ, kp_add x a b]; grind
theorem kp_mul (x : K) (a : Nat) : ∀ b, kp (kp x a) b = kp x (a * b)
  | 0 => by rw [Nat.mul_zero, kp_zero, kp_zero]
  | b + 1 => by rw [kp_succ, kp_mul x a b, Nat.mul_add, Nat.mul_one, kp_add]
theorem kp_mulb (x y : K) : ∀ n, kp (x * y) n = kp x n * kp y n
  | 0 => by rw [kp_zero, kp_zero, kp_zero]; grind
  | n + 1 => by rw [kp_succ, kp_succ, kp_succ, kp_mulb x y n]; grind
theorem kp_1 : ∀ n, kp 1 n = 1
  | 0 => kp_zero _
  | n + 1 => by rw [kp_succ, kp_1 n]; rfl
theorem kp_0 {n : Nat} (h : n ≠ 0) : kp 0 n = 0 := by
  obtain ⟨m, rfl⟩ : ∃ m, n = m + 1 := ⟨n - 1, by omega⟩
  rw [kp_succ]
  grind
theorem kp_kof (a : Nat) : ∀ n, kp (kof a) n = kof (a ^ n)
  | 0 => by rw [kp_zero, Nat.pow_zero]; rfl
  | n + 1 => by rw [kp_succ, kp_kof a n, Nat.pow_succ, kof_mul]
theorem kp_pwm {a e r : Nat} (he : e < 2 ^ 256) (h : pwm 57896044618658097711785492504343953926634992332820282019728792003956564819949 256 a e % 57896044618658097711785492504343953926634992332820282019728792003956564819949 = r % 57896044618658097711785492504343953926634992332820282019728792003956564819949) : kp (kof a) e = kof r := by
  rw [kp_kof, kof_eq, ← pwm_eq _ 256 _ _ he]
  exact h
theorem k_int {x y : K} (h : x * y = 0) : x = 0 ∨ y = 0 := by
  rw [← kof_of x, ← kof_of y, ← kof_mul] at h
  rw [← kof_of x, ← kof_of y]
  rcases prP.dvd_mul (kof_eq0.1 h) with k | k
  · exact .inl (kof_eq0.2 k)
  · exact .inr (kof_eq0.2 k)
theorem fermat_kof {p v : Nat} (hp : p = 57896044618658097711785492504343953926634992332820282019728792003956564819949) (hq : Pr p) (h : ¬ p ∣ v) : kp (kof v) (p - 1) = 1 := by
  rw [kp_kof, ← kof_one, kof_eq, ← hp, hq.fermat h]
  exact (Nat.mod_eq_of_lt hq.1).symm
theorem kp_fermat {x : K} (h : x ≠ 0) : kp x 57896044618658097711785492504343953926634992332820282019728792003956564819948 = 1 := by
  have h1 : ¬ 57896044618658097711785492504343953926634992332820282019728792003956564819949 ∣ x.val := fun k => h ((kof_of x).symm.trans (kof_eq0.2 k))
  have h2 := fermat_kof rfl prP h1
  rw [kof_of] at h2
  exact h2
/-- The inverse, and 0 of 0. -/
def ki (x : K) : K := kp x 57896044618658097711785492504343953926634992332820282019728792003956564819947
theorem ki_mul {x : K} (h : x ≠ 0) : x * ki x = 1 := by
  have h1 := kp_fermat h
  have h2 : kp x 57896044618658097711785492504343953926634992332820282019728792003956564819948 = kp x 57896044618658097711785492504343953926634992332820282019728792003956564819947 * x := kp_succ x 57896044618658097711785492504343953926634992332820282019728792003956564819947
  unfold ki
  rw [h2] at h1
  generalize kp x 57896044618658097711785492504343953926634992332820282019728792003956564819947 = z at *
  grind
theorem ki_zero : ki 0 = 0 := kp_0 (by decide)
theorem k_cancel {x y z : K} (h : x ≠ 0) (e : x * y = x * z) : y = z := by
  have := ki_mul h
  grind
theorem k_ne {x y : K} (h : x.val ≠ y.val) : x ≠ y := fun e => h (congrArg _ e)
/-- The root of -1. -/
def kI : K := kp 2 14474011154664524427946373126085988481658748083205070504932198000989141204987
theorem kI_sq : kI * kI = -1 := by
  have e : kI = kof 19681161376707505956807079304988542015446066515923890162744021073123829784752 := kp_pwm (a := 2) (by decide +kernel) (by decide +kernel)
  rw [e, ← kof_mul]
  decide +kernel
theorem k_two {x : K} (h : x + x = 0) : x = 0 := by
  have h1 : (2 : K) * x = 0 := by grind
  rcases k_int h1 with k | k
  · exact absurd k (k_ne (by decide +kernel))
  · exact k
/-- The document's root of a quotient, of numbers. -/
def kr1 (q : K) : K := kp q 7237005577332262213973186563042994240829374041602535252466099000494570602494
def kr2 (q : K) : K := if kr1 q * kr1 q = q then kr1 q else kr1 q * kI
def kodd (r : K) : K := if r.val % 2 = 1 then -r else r
def kratio (u v : K) : K × Bool :=
  if u = 0 then (0, true) else if v = 0 then (0, false) else if kr2 (u * ki v) * kr2 (u * ki v) = u * ki v then (kodd (kr2 (u * ki v)), true) else (0, false)
/-- The program's. -/
def pr1 (u v : K) : K := u * (v * v * v) * (kp (u * (v * v * v * (v * v * v) * v)) 7237005577332262213973186563042994240829374041602535252466099000494570602493)
def pr2 (u v : K) : K := if v * (pr1 u v * pr1 u v) = -u ∧ u ≠ 0 then pr1 u v * kI else pr1 u v
def pratio (u v : K) : K × Bool := if v * (pr2 u v * pr2 u v) = u then (kodd (pr2 u v), true) else (0, false)
theorem kodd0 : kodd 0 = 0 := by decide +kernel
theorem pr1_kr1 (u : K) {v : K} (hv : v ≠ 0) : pr1 u v = kr1 (u * ki v) := by
  unfold pr1 kr1 ki
  have e7 : v * v * v * (v * v * v) * v = kp v 7 := by
    rw [show (7 : Nat) = 1 + 1 + 1 + 1 + 1 + 1 + 1 from rfl]
    simp only [kp_add, kp_one]
    grind
  have e3 : v * v * v = kp v 3 := by
    rw [show (3 : Nat) = 1 + 1 + 1 from rfl]
    simp only [kp_add, kp_one]
  rw [e7, e3, kp_mulb, kp_mulb, kp_mul, kp_mul]
  have hu : u * kp u 7237005577332262213973186563042994240829374041602535252466099000494570602493 = kp u 7237005577332262213973186563042994240829374041602535252466099000494570602494 := by
    have h2 : kp u 7237005577332262213973186563042994240829374041602535252466099000494570602494 = kp u 7237005577332262213973186563042994240829374041602535252466099000494570602493 * u := kp_succ u 7237005577332262213973186563042994240829374041602535252466099000494570602493
    rw [h2]
    generalize kp u 7237005577332262213973186563042994240829374041602535252466099000494570602493 = z
    grind
  have hv2 : kp v 418993997810706159361688281193932691483730181893512293053861295116305125939530573818697278115798724212480904781417002249640515033532084647807752419147818 = kp v 3 * kp v (7 * 7237005577332262213973186563042994240829374041602535252466099000494570602493) := by
    rw [show 418993997810706159361688281193932691483730181893512293053861295116305125939530573818697278115798724212480904781417002249640515033532084647807752419147818 = 57896044618658097711785492504343953926634992332820282019728792003956564819948 * 7237005577332262213973186563042994240829374041602535252466099000494570602493 + (3 + 7 * 7237005577332262213973186563042994240829374041602535252466099000494570602493) from by decide +kernel, kp_add, kp_add, ← kp_mul, kp_fermat hv, kp_1]
    grind
  rw [show 57896044618658097711785492504343953926634992332820282019728792003956564819947 * 7237005577332262213973186563042994240829374041602535252466099000494570602494 = 418993997810706159361688281193932691483730181893512293053861295116305125939530573818697278115798724212480904781417002249640515033532084647807752419147818 from by decide +kernel, hv2, ← hu]
  grind
theorem pratio_eq (u v : K) : pratio u v = kratio u v := by
  by_cases hu : u = 0
  · have h1 : pr1 u v = 0 := by unfold pr1; rw [hu]; grind
    have h2 : pr2 u v = 0 := by unfold pr2; rw [if_neg (fun k => k.2 hu), h1]
    unfold pratio kratio
    rw [h2, if_pos (by rw [hu]; grind), if_pos hu, kodd0]
  · by_cases hv : v = 0
    · have h1 : v * (pr1 u v * pr1 u v) = 0 := by rw [hv]; grind
      have h2 : pr2 u v = pr1 u v := by
        unfold pr2
        rw [if_neg]
        rintro ⟨k, _⟩
        rw [h1] at k
        exact hu (by grind)
      unfold pratio kratio
      rw [h2, h1, if_neg (fun k => hu k.symm), if_neg hu, if_pos hv]
    · have hi := ki_mul hv
      have e := pr1_kr1 u hv
      have iff1 : ∀ r c : K, v * (r * r) = c ↔ r * r = c * ki v := by
        intro r c
        constructor <;> intro h <;> grind
      have h2 : pr2 u v = kr2 (u * ki v) ∨ (¬ (v * (pr2 u v * pr2 u v) = u) ∧ ¬ (kr2 (u * ki v) * kr2 (u * ki v) = u * ki v)) := by
        unfold pr2 kr2
        rw [e]
        generalize kr1 (u * ki v) = r
        have hI := kI_sq
        by_cases h3 : r * r = u * ki v
        · left
          rw [if_pos h3, if_neg]
          rintro ⟨k, _⟩
          have k2 := (iff1 r u).2 h3
          exact hu (k_two (by grind))
        · by_cases h4 : v * (r * r) = -u
          · left
            rw [if_neg h3, if_pos ⟨h4, hu⟩]
          · right
            rw [if_neg h3, if_neg (fun k => h4 k.1)]
            refine ⟨fun k => h3 ((iff1 r u).1 k), fun k => h4 ?_⟩
            grind
      unfold pratio kratio
      rw [if_neg hu, if_neg hv]
      rcases h2 with h2 | ⟨h2, h3⟩
      · rw [h2]
        by_cases h3 : kr2 (u * ki v) * kr2 (u * ki v) = u * ki v
        · rw [if_pos h3, if_pos ((iff1 _ _).2 h3)]
        · rw [if_neg h3, if_neg (fun k => h3 ((iff1 _ _).1 k))]
      · rw [if_neg h2, if_neg h3]
end Go.Proofs.Ytnfiiclmbiiokaa
