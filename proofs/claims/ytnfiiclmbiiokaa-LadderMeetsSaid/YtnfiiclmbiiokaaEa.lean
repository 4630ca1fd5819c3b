/-
  Plain: the group of a curve u u + v v = 1 + d u u v v over the field, where d is no square.
-/
import Derived.Test.YtnfiiclmbiiokaaNa
namespace Go.Proofs.Ytnfiiclmbiiokaa
open Go Go.Fx
set_option linter.unusedVariables false
set_option linter.unusedSimpArgs false
theorem assoc_u {d u1 v1 u2 v2 u3 v3 : K} (h1 : u1*u1+v1*v1 = 1 + d*(u1*u1)*(v1*v1)) (h2 : u2*u2+v2*v2 = 1 + d*(u2*u2)*(v2*v2)) (h3 : u3*u3+v3*v3 = 1 + d*(u3*u3)*(v3*v3)) :
  ((u1*v2+u2*v1)*(1-d*u1*u2*v1*v2)*v3 + u3*((v1*v2-u1*u2)*(1+d*u1*u2*v1*v2)))*((1+d*u2*u3*v2*v3)*(1-d*u2*u3*v2*v3)+d*u1*v1*(u2*v3+u3*v2)*(v2*v3-u2*u3)) =
  (u1*((v2*v3-u2*u3)*(1+d*u2*u3*v2*v3)) + (u2*v3+u3*v2)*(1-d*u2*u3*v2*v3)*v1)*((1+d*u1*u2*v1*v2)*(1-d*u1*u2*v1*v2)+d*(u1*v2+u2*v1)*(v1*v2-u1*u2)*u3*v3) := by
  grind -lia
theorem assoc_v {d u1 v1 u2 v2 u3 v3 : K} (h1 : u1*u1+v1*v1 = 1 + d*(u1*u1)*(v1*v1)) (h2 : u2*u2+v2*v2 = 1 + d*(u2*u2)*(v2*v2)) (h3 : u3*u3+v3*v3 = 1 + d*(u3*u3)*(v3*v3)) :
  (((v1*v2-u1*u2)*(1+d*u1*u2*v1*v2))*v3 - (u1*v2+u2*v1)*(1-d*u1*u2*v1*v2)*u3)*((1+d*u2*u3*v2*v3)*(1-d*u2*u3*v2*v3)-d*u1*v1*(u2*v3+u3*v2)*(v2*v3-u2*u3)) =
  (v1*((v2*v3-u2*u3)*(1+d*u2*u3*v2*v3)) - u1*((u2*v3+u3*v2)*(1-d*u2*u3*v2*v3)))*((1+d*u1*u2*v1*v2)*(1-d*u1*u2*v1*v2)-d*(u1*v2+u2*v1)*(v1*v2-u1*u2)*u3*v3) := by
  grind -lia
theorem add_on {d u1 v1 u2 v2 : K} (h1 : u1*u1+v1*v1 = 1 + d*(u1*u1)*(v1*v1)) (h2 : u2*u2+v2*v2 = 1 + d*(u2*u2)*(v2*v2)) :
   ((u1*v2+u2*v1)*(1-d*u1*u2*v1*v2))*((u1*v2+u2*v1)*(1-d*u1*u2*v1*v2)) + ((v1*v2-u1*u2)*(1+d*u1*u2*v1*v2))*((v1*v2-u1*u2)*(1+d*u1*u2*v1*v2)) = ((1+d*u1*u2*v1*v2)*(1-d*u1*u2*v1*v2))*((1+d*u1*u2*v1*v2)*(1-d*u1*u2*v1*v2)) + d*((u1*v2+u2*v1)*(u1*v2+u2*v1))*((v1*v2-u1*u2)*(v1*v2-u1*u2)) := by
  grind -lia
theorem k_mul_ne {x y : K} (hx : x ≠ 0) (hy : y ≠ 0) : x * y ≠ 0 := fun e => (k_int e).elim hx hy
theorem k_sq0 {x : K} (h : x * x = 0) : x = 0 := (k_int h).elim id id
theorem k_one_ne : (1 : K) ≠ 0 := by decide
theorem k_two_ne : (2 : K) ≠ 0 := by decide
theorem k_half {x y : K} (h : 2 * x = 2 * y) : x = y := k_cancel k_two_ne h
/-- On the curve. -/
def On (d : K) (P : K × K) : Prop := P.1 * P.1 + P.2 * P.2 = 1 + d * (P.1 * P.1) * (P.2 * P.2)
/-- No square. -/
def NS (d : K) : Prop := ∀ z : K, z * z ≠ d
theorem den0 {d : K} (hd : NS d) {u1 v1 u2 v2 e : K} (h1 : u1*u1+v1*v1 = 1 + d*(u1*u1)*(v1*v1)) (h2 : u2*u2+v2*v2 = 1 + d*(u2*u2)*(v2*v2)) (he : e * e = 1) : d*u1*u2*v1*v2 ≠ e := by
  intro h
  have e0 : e ≠ 0 := by rintro rfl; exact k_one_ne (by grind -lia)
  have hu1 : u1 ≠ 0 := by rintro rfl; exact e0 (by grind -lia)
  have hv1 : v1 ≠ 0 := by rintro rfl; exact e0 (by grind -lia)
  have hu2 : u2 ≠ 0 := by rintro rfl; exact e0 (by grind -lia)
  have k1 : (u1 + e * v1) * (u1 + e * v1) = d * (u1 * v1) * (u1 * v1) * ((u2 + v2) * (u2 + v2)) := by grind -lia
  have k2 : (u1 - e * v1) * (u1 - e * v1) = d * (u1 * v1) * (u1 * v1) * ((u2 - v2) * (u2 - v2)) := by grind -lia
  have sq : ∀ a b : K, b ≠ 0 → a * a = d * (u1 * v1) * (u1 * v1) * (b * b) → False := by
    intro a b hb hab
    have hw : u1 * v1 * b ≠ 0 := k_mul_ne (k_mul_ne hu1 hv1) hb
    have hi := ki_mul hw
    refine hd (a * ki (u1 * v1 * b)) ?_
    generalize ki (u1 * v1 * b) = i at *
    grind -lia
  by_cases hs : u2 + v2 = 0
  · by_cases hm : u2 - v2 = 0
    · exact hu2 (k_half (by grind -lia))
    · exact sq _ _ hm k2
  · exact sq _ _ hs k1
theorem den {d : K} (hd : NS d) {P Q : K × K} (hP : On d P) (hQ : On d Q) : 1 + d*P.1*Q.1*P.2*Q.2 ≠ 0 ∧ 1 - d*P.1*Q.1*P.2*Q.2 ≠ 0 := by
  have a1 := den0 hd (e := -1) hP hQ (by decide)
  have a2 := den0 hd (e := 1) hP hQ (by decide)
  generalize d*P.1*Q.1*P.2*Q.2 = x at *
  exact ⟨fun h => a1 (by grind -lia), fun h => a2 (by grind -lia)⟩
/-- The sum of two points. -/
def pl (d : K) (P Q : K × K) : K × K := ((P.1*Q.2+Q.1*P.2) * ki (1 + d*P.1*Q.1*P.2*Q.2), (P.2*Q.2-P.1*Q.1) * ki (1 - d*P.1*Q.1*P.2*Q.2))
theorem pl_1 {d : K} (hd : NS d) {P Q : K × K} (hP : On d P) (hQ : On d Q) : (pl d P Q).1 * (1 + d*P.1*Q.1*P.2*Q.2) = P.1*Q.2+Q.1*P.2 := by
  have h := ki_mul (den hd hP hQ).1
  unfold pl
  dsimp only
  generalize ki (1 + d*P.1*Q.1*P.2*Q.2) = i at *
  generalize 1 + d*P.1*Q.1*P.2*Q.2 = x at *
  grind -lia
theorem pl_2 {d : K} (hd : NS d) {P Q : K × K} (hP : On d P) (hQ : On d Q) : (pl d P Q).2 * (1 - d*P.1*Q.1*P.2*Q.2) = P.2*Q.2-P.1*Q.1 := by
  have h := ki_mul (den hd hP hQ).2
  unfold pl
  dsimp only
  generalize ki (1 - d*P.1*Q.1*P.2*Q.2) = i at *
  generalize 1 - d*P.1*Q.1*P.2*Q.2 = x at *
  grind -lia
theorem pl_on {d : K} (hd : NS d) {P Q : K × K} (hP : On d P) (hQ : On d Q) : On d (pl d P Q) := by
  have e1 := pl_1 hd hP hQ
  have e2 := pl_2 hd hP hQ
  obtain ⟨n1, n2⟩ := den hd hP hQ
  have h := add_on hP hQ
  unfold On
  generalize (pl d P Q).1 = U at *
  generalize (pl d P Q).2 = V at *
  rw [← e1, ← e2] at h
  have hn := k_mul_ne (k_mul_ne n1 n2) (k_mul_ne n1 n2)
  generalize 1 + d*P.1*Q.1*P.2*Q.2 = p at *
  generalize 1 - d*P.1*Q.1*P.2*Q.2 = m at *
  refine k_cancel hn ?_
  grind -lia
theorem k_cross {x e y e' : K} (he : e ≠ 0) (he' : e' ≠ 0) (h : x * e' = y * e) : x * ki e = y * ki e' := by
  have h1 := ki_mul he
  have h2 := ki_mul he'
  generalize ki e = i at *
  generalize ki e' = j at *
  grind -lia
theorem pl_assoc {d : K} (hd : NS d) {P Q R : K × K} (hP : On d P) (hQ : On d Q) (hR : On d R) : pl d (pl d P Q) R = pl d P (pl d Q R) := by
  have hPQ := pl_on hd hP hQ
  have hQR := pl_on hd hQ hR
  have e1 := pl_1 hd hP hQ
  have e2 := pl_2 hd hP hQ
  have e3 := pl_1 hd hQ hR
  have e4 := pl_2 hd hQ hR
  obtain ⟨n1, n2⟩ := den hd hP hQ
  obtain ⟨n3, n4⟩ := den hd hQ hR
  obtain ⟨n5, n6⟩ := den hd hPQ hR
  obtain ⟨n7, n8⟩ := den hd hP hQR
  have au := assoc_u hP hQ hR
  have av := assoc_v hP hQ hR
  have hn := k_mul_ne (k_mul_ne n1 n2) (k_mul_ne n3 n4)
  have goal1 : ((pl d P Q).1*R.2+R.1*(pl d P Q).2) * (1 + d*P.1*(pl d Q R).1*P.2*(pl d Q R).2) = (P.1*(pl d Q R).2+(pl d Q R).1*P.2) * (1 + d*(pl d P Q).1*R.1*(pl d P Q).2*R.2) := by
    refine k_cancel hn ?_
    rw [← e1, ← e2, ← e3, ← e4] at au
    generalize (pl d P Q).1 = U at *
    generalize (pl d P Q).2 = V at *
    generalize (pl d Q R).1 = U' at *
    generalize (pl d Q R).2 = V' at *
    clear av e1 e2 e3 e4 n1 n2 n3 n4 n5 n6 n7 n8 hPQ hQR hP hQ hR hn
    generalize 1 + d*P.1*Q.1*P.2*Q.2 = p at *
    generalize 1 - d*P.1*Q.1*P.2*Q.2 = m at *
    generalize 1 + d*Q.1*R.1*Q.2*R.2 = p' at *
    generalize 1 - d*Q.1*R.1*Q.2*R.2 = m' at *
    grind -lia
  have goal2 : ((pl d P Q).2*R.2-(pl d P Q).1*R.1) * (1 - d*P.1*(pl d Q R).1*P.2*(pl d Q R).2) = (P.2*(pl d Q R).2-P.1*(pl d Q R).1) * (1 - d*(pl d P Q).1*R.1*(pl d P Q).2*R.2) := by
    refine k_cancel hn ?_
    rw [← e1, ← e2, ← e3, ← e4] at av
    generalize (pl d P Q).1 = U at *
    generalize (pl d P Q).2 = V at *
    generalize (pl d Q R).1 = U' at *
    generalize (pl d Q R).2 = V' at *
    clear au e1 e2 e3 e4 n1 n2 n3 n4 n5 n6 n7 n8 hPQ hQR hP hQ hR hn
    generalize 1 + d*P.1*Q.1*P.2*Q.2 = p at *
    generalize 1 - d*P.1*Q.1*P.2*Q.2 = m at *
    generalize 1 + d*Q.1*R.1*Q.2*R.2 = p' at *
    generalize 1 - d*Q.1*R.1*Q.2*R.2 = m' at *
    grind -lia
  have s1 := k_cross n5 n7 goal1
  have s2 := k_cross n6 n8 goal2
  exact Prod.ext s1 s2
theorem pl_comm (d : K) (P Q : K × K) : pl d P Q = pl d Q P := by
  unfold pl
  have e1 : d*P.1*Q.1*P.2*Q.2 = d*Q.1*P.1*Q.2*P.2 := by grind -lia
  have e2 : P.1*Q.2+Q.1*P.2 = Q.1*P.2+P.1*Q.2 := by grind -lia
  have e3 : P.2*Q.2-P.1*Q.1 = Q.2*P.2-Q.1*P.1 := by grind -lia
  rw [e1, e2, e3]
theorem ki_one : ki 1 = 1 := by
  have := ki_mul k_one_ne
  generalize ki 1 = i at *
  grind -lia
def o0 : K × K := (0, 1)
theorem o0_on (d : K) : On d o0 := by unfold On o0; dsimp only; grind -lia
theorem pl_o0 (d : K) (P : K × K) : pl d P o0 = P := by
  unfold pl o0
  dsimp only
  have e1 : 1 + d*P.1*0*P.2*1 = 1 := by grind -lia
  have e2 : 1 - d*P.1*0*P.2*1 = 1 := by grind -lia
  rw [e1, e2, ki_one]
  refine Prod.ext ?_ ?_ <;> (dsimp only; grind -lia)
def ng (P : K × K) : K × K := (-P.1, P.2)
theorem ng_on {d : K} {P : K × K} (h : On d P) : On d (ng P) := by
  unfold On ng at *
  dsimp only
  grind -lia
theorem pl_ng {d : K} (hd : NS d) {P : K × K} (h : On d P) : pl d P (ng P) = o0 := by
  have e1 := pl_1 hd h (ng_on h)
  have e2 := pl_2 hd h (ng_on h)
  obtain ⟨n1, n2⟩ := den hd h (ng_on h)
  unfold On at h
  have k1 : (pl d P (ng P)).1 = 0 := by
    refine k_cancel n1 ?_
    generalize (pl d P (ng P)).1 = U at *
    unfold ng at *
    dsimp only at *
    grind -lia
  have k2 : (pl d P (ng P)).2 = 1 := by
    refine k_cancel n2 ?_
    generalize (pl d P (ng P)).2 = U at *
    unfold ng at *
    dsimp only at *
    grind -lia
  exact Prod.ext k1 k2
/-- So many times a point. -/
def mu (d : K) (P : K × K) : Nat → K × K
  | 0 => o0
  | n + 1 => pl d (mu d P n) P
theorem mu_zero (d : K) (P : K × K) : mu d P 0 = o0 := rfl
theorem mu_succ (d : K) (P : K × K) (n : Nat) : mu d P (n + 1) = pl d (mu d P n) P := rfl
attribute [irreducible] mu pl
theorem mu_on {d : K} (hd : NS d) {P : K × K} (h : On d P) : ∀ n, On d (mu d P n)
  | 0 => by rw [mu_zero]; exact o0_on d
  | n + 1 => by rw [mu_succ]; exact pl_on hd (mu_on hd h n) h
theorem mu_one {d : K} {P : K × K} : mu d P 1 = P := by rw [show (1 : Nat) = 0 + 1 from rfl, mu_succ, mu_zero, pl_comm, pl_o0]
theorem mu_add {d : K} (hd : NS d) {P : K × K} (h : On d P) (m : Nat) : ∀ n, mu d P (m + n) = pl d (mu d P m) (mu d P n)
  | 0 => by rw [Nat.add_zero, mu_zero, pl_o0]
  | n + 1 => by rw [← Nat.add_assoc, mu_succ, mu_succ, mu_add hd h m n, pl_assoc hd (mu_on hd h m) (mu_on hd h n) h]
theorem mu_mul {d : K} (hd : NS d) {P : K × K} (h : On d P) (m : Nat) : ∀ n, mu d (mu d P m) n = mu d P (m * n)
  | 0 => by rw [Nat.mul_zero, mu_zero, mu_zero]
  | n + 1 => by rw [mu_succ, mu_mul hd h m n, Nat.mul_add, Nat.mul_one, mu_add hd h]
theorem mu_o0 {d : K} : ∀ n, mu d o0 n = o0
  | 0 => mu_zero _ _
  | n + 1 => by rw [mu_succ, mu_o0 n, pl_o0]
theorem on_one {d : K} (hd : NS d) {P : K × K} (h : On d P) (hv : P.2 * P.2 = 1) : P.1 = 0 := by
  unfold On at h
  have e : P.1 * P.1 * (1 - d) = 0 := by
    generalize P.1 = u at *
    generalize P.2 = v at *
    grind -lia
  rcases k_int e with e | e
  · exact k_sq0 e
  · exact absurd (show (1 : K) * 1 = d by grind -lia) (hd 1)
end Go.Proofs.Ytnfiiclmbiiokaa
