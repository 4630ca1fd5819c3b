/-
  Plain: a turn of the ladder doubles one point and adds two.
-/
import Derived.Test.YtnfiiclmbiiokaaEa
import Derived.Test.YtnfiiclmbiiokaaPk
namespace Go.Proofs.Ytnfiiclmbiiokaa
open Go Go.Fx
set_option linter.unusedVariables false
set_option linter.unusedSimpArgs false
/-- Two numbers whose quotient tells a point's second coordinate. -/
def Rl (s X Z v : K) : Prop := ∃ l, l ≠ 0 ∧ X = l * (1 + v) ∧ Z = l * (s * (1 - v))
theorem Rl.mk {s X Z v : K} (hs : s * s = 1) (h : X * (s * (1 - v)) = Z * (1 + v)) (h0 : X = 0 → Z = 0 → False) : Rl s X Z v := by
  have e2 := ki_mul k_two_ne
  refine ⟨ki 2 * (X + s * Z), ?_, ?_, ?_⟩
  · intro e
    generalize ki 2 = i at *
    have k : X + s * Z = 0 := by grind -lia
    exact h0 (k_half (by grind -lia)) (k_half (by grind -lia))
  · generalize ki 2 = i at *
    grind -lia
  · generalize ki 2 = i at *
    grind -lia
/-- The curve's constant and the sign. -/
def Sg (q d s : K) : Prop := (s = 1 ∧ d * (q + 1) = q) ∨ (s = -1 ∧ d * q = q + 1)
theorem Sg.sq {q d s : K} (h : Sg q d s) : s * s = 1 := by
  rcases h with ⟨rfl, _⟩ | ⟨rfl, _⟩ <;> decide
def coreA (a b : K) : K := ((a + b) * (a + b)) * ((a - b) * (a - b))
def coreB (q a b : K) : K := ((a + b) * (a + b) - (a - b) * (a - b)) * ((a + b) * (a + b) + q * ((a + b) * (a + b) - (a - b) * (a - b)))
def coreC (a b c d : K) : K := ((c + d) * (a - b) + (c - d) * (a + b)) * ((c + d) * (a - b) + (c - d) * (a + b))
def coreD (x a b c d : K) : K := x * (((c + d) * (a - b) - (c - d) * (a + b)) * ((c + d) * (a - b) - (c - d) * (a + b)))
theorem k4_ne : (4 : K) ≠ 0 := by decide
theorem dbl_core {q d s l : K} (hs : Sg q d s) (hq : q ≠ 0) (hq1 : q + 1 ≠ 0) {P : K × K} (hd : NS d) (hP : On d P) (hl : l ≠ 0) :
    Rl s (coreA (l * (1 + P.2)) (l * (s * (1 - P.2)))) (coreB q (l * (1 + P.2)) (l * (s * (1 - P.2)))) (pl d P P).2 := by
  have e2 := pl_2 hd hP hP
  obtain ⟨_, n2⟩ := den hd hP hP
  have hn : ∀ z : K, z * z * d ≠ 1 := by
    intro z hz
    have z0 : z ≠ 0 := by rintro rfl; exact k_one_ne (by grind -lia)
    have hi := ki_mul z0
    refine hd (ki z) ?_
    generalize ki z = i at *
    grind -lia
  unfold On at hP
  generalize (pl d P P).2 = w at *
  generalize P.1 = u at *
  generalize P.2 = v at *
  have hu : u * u * (1 - d * (v * v)) = 1 - v * v := by grind -lia
  have nv : 1 - d * (v * v) ≠ 0 := fun e => hn v (by grind -lia)
  have w1 : (1 - d*u*u*v*v) * (1 + w) = 2 * (v * v) * (1 - d * (u * u)) := by grind -lia
  have w2 : (1 - d*u*u*v*v) * (1 - w) = 2 * (1 - v * v) := by grind -lia
  have hv2 : (1 - d * (u * u)) * (1 - d * (v * v)) = 1 - d := by grind -lia
  generalize 1 - d*u*u*v*v = p at *
  refine Rl.mk hs.sq ?_ ?_
  · refine k_cancel n2 (k_cancel nv ?_)
    have t1 : p * (coreA (l * (1 + v)) (l * (s * (1 - v))) * (s * (1 - w))) = coreA (l * (1 + v)) (l * (s * (1 - v))) * s * (2 * (1 - v * v)) := by rw [← w2]; generalize coreA (l * (1 + v)) (l * (s * (1 - v))) = A; grind -lia
    have t2 : p * (coreB q (l * (1 + v)) (l * (s * (1 - v))) * (1 + w)) = coreB q (l * (1 + v)) (l * (s * (1 - v))) * (2 * (v * v) * (1 - d * (u * u))) := by rw [← w1]; generalize coreB q (l * (1 + v)) (l * (s * (1 - v))) = A; grind -lia
    have t3 : (1 - d * (v * v)) * (p * (coreA (l * (1 + v)) (l * (s * (1 - v))) * (s * (1 - w)))) = (1 - d * (v * v)) * (coreA (l * (1 + v)) (l * (s * (1 - v))) * s * (2 * (1 - v * v))) := by rw [t1]
    have t4 : (1 - d * (v * v)) * (p * (coreB q (l * (1 + v)) (l * (s * (1 - v))) * (1 + w))) = coreB q (l * (1 + v)) (l * (s * (1 - v))) * (2 * (v * v) * (1 - d)) := by
      rw [t2, ← hv2]
      generalize coreB q (l * (1 + v)) (l * (s * (1 - v))) = A
      grind -lia
    have key : (1 - d * (v * v)) * (coreA (l * (1 + v)) (l * (s * (1 - v))) * s * (2 * (1 - v * v))) = coreB q (l * (1 + v)) (l * (s * (1 - v))) * (2 * (v * v) * (1 - d)) := by
      unfold coreA coreB
      clear t1 t2 t3 t4 w1 w2 hv2 hu e2 n2 nv hn hP hd
      rcases hs with ⟨rfl, h⟩ | ⟨rfl, h⟩
      · refine k_cancel hq1 ?_
        grind -lia
      · refine k_cancel hq ?_
        grind -lia
    grind -lia
  · intro a0 b0
    unfold coreA at a0
    unfold coreB at b0
    clear w1 w2 hv2 hu e2 n2 nv hn hP hd
    have hl4 : l * l * l * l ≠ 0 := k_mul_ne (k_mul_ne (k_mul_ne hl hl) hl) hl
    have h16 := k_mul_ne k4_ne k4_ne
    have hv0 : v = 0 := by
      refine k_sq0 (k_cancel (k_mul_ne h16 hl4) ?_)
      rcases hs with ⟨rfl, h⟩ | ⟨rfl, h⟩
      · grind -lia
      · grind -lia
    subst hv0
    rcases hs with ⟨rfl, h⟩ | ⟨rfl, h⟩
    · exact k_mul_ne (k_mul_ne h16 hl4) hq1 (by grind -lia)
    · exact k_mul_ne (k_mul_ne h16 hl4) hq (by grind -lia)
theorem diff_id {d u1 v1 u2 v2 E : K} (hE : E = d*u1*u2*v1*v2) (h1 : u1*u1+v1*v1 = 1 + d*(u1*u1)*(v1*v1)) (h2 : u2*u2+v2*v2 = 1 + d*(u2*u2)*(v2*v2)) :
    (v1+v2)*(v1+v2)*(((1-E)-(v1*v2-u1*u2))*((1+E)-(v1*v2+u1*u2))) = (v1-v2)*(v1-v2)*(((1+E)+(v1*v2+u1*u2))*((1-E)+(v1*v2-u1*u2))) := by
  subst hE
  grind -lia
/-- The sum of two points whose difference is known. -/
theorem add_core {d s l m x v0 : K} (hs : s = 1 ∨ s = -1) {S T : K × K} (hd : NS d) (hS : On d S) (hT : On d T) (hl : l ≠ 0) (hm : m ≠ 0) (hx : x * (s * (1 - v0)) = 1 + v0) (hx0 : x ≠ 0) (hv1 : v0 ≠ 1) (h0 : (pl d T (ng S)).2 = v0) :
    Rl s (coreC (l * (1 + S.2)) (l * (s * (1 - S.2))) (m * (1 + T.2)) (m * (s * (1 - T.2)))) (coreD x (l * (1 + S.2)) (l * (s * (1 - S.2))) (m * (1 + T.2)) (m * (s * (1 - T.2)))) (pl d S T).2 := by
  have e2 := pl_2 hd hS hT
  have e3 := pl_2 hd hT (ng_on hS)
  rw [h0] at e3
  clear h0
  obtain ⟨n1, n2⟩ := den hd hS hT
  unfold ng at e3
  dsimp only at e3
  unfold On at hS hT
  generalize (pl d S T).2 = w at *
  generalize S.1 = u1 at *
  generalize S.2 = v1 at *
  generalize T.1 = u2 at *
  generalize T.2 = v2 at *
  have e3' : v0 * (1 + d*u1*u2*v1*v2) = v1 * v2 + u1 * u2 := by
    clear e2 n1 n2 hS hT hx
    grind -lia
  have id := diff_id (E := d*u1*u2*v1*v2) rfl hS hT
  clear e3
  generalize hE : d*u1*u2*v1*v2 = E at *
  have hc : coreC (l * (1 + v1)) (l * (s * (1 - v1))) (m * (1 + v2)) (m * (s * (1 - v2))) = 16 * (l * l * (m * m)) * ((v1 + v2) * (v1 + v2)) := by
    unfold coreC
    clear e2 n1 n2 hS hT hx e3' id hE
    rcases hs with rfl | rfl <;> grind -lia
  have hdd : coreD x (l * (1 + v1)) (l * (s * (1 - v1))) (m * (1 + v2)) (m * (s * (1 - v2))) = x * (16 * (l * l * (m * m)) * ((v1 - v2) * (v1 - v2))) := by
    unfold coreD
    clear e2 n1 n2 hS hT hx e3' id hE hc
    rcases hs with rfl | rfl <;> grind -lia
  have hss : s * s = 1 := by rcases hs with rfl | rfl <;> decide
  have h16 := k_mul_ne k4_ne k4_ne
  have hlm : l * l * (m * m) ≠ 0 := k_mul_ne (k_mul_ne hl hl) (k_mul_ne hm hm)
  rw [hc, hdd]
  have nv : 1 - v0 ≠ 0 := fun e => hv1 (by grind -lia)
  refine Rl.mk hss ?_ ?_
  · refine k_cancel n2 (k_cancel n1 (k_cancel nv ?_))
    rw [← e2, ← e3'] at id
    have id2 : (v1+v2)*(v1+v2)*(1 - w)*(1 - v0)*((1 - E)*(1 + E)) = (v1-v2)*(v1-v2)*(1 + w)*(1 + v0)*((1 - E)*(1 + E)) := by
      clear hE e2 e3' hS hT hc hdd hlm h16 n1 n2 nv hx
      grind -lia
    clear id hE e2 e3' hS hT hc hdd hlm h16
    rw [← hx] at id2
    grind -lia
  · intro a0 b0
    have q1 : v1 + v2 = 0 := by
      refine k_sq0 (k_cancel (k_mul_ne h16 hlm) ?_)
      clear hc hdd id hE e2 e3' hS hT hx b0 hs hss
      grind -lia
    have q2 : v1 - v2 = 0 := by
      refine k_sq0 (k_cancel (k_mul_ne hx0 (k_mul_ne h16 hlm)) ?_)
      clear hc hdd id hE e2 e3' hS hT hx a0 hs hss q1
      grind -lia
    have r1 : v1 = 0 := k_half (by grind -lia)
    have r2 : v2 = 0 := k_half (by grind -lia)
    have E0 : E = 0 := by rw [← hE, r1]; grind -lia
    have s1 : v0 * v0 = 1 := by
      rw [r1] at hS e3'
      rw [r2] at hT e3'
      rw [E0] at e3'
      clear id hE e2 hc hdd hlm h16 a0 b0 hx
      grind -lia
    have s2 : (v0 - 1) * (v0 + 1) = 0 := by grind -lia
    rcases k_int s2 with s2 | s2
    · exact hv1 (by grind -lia)
    · refine hx0 (k_cancel (k_mul_ne (show s ≠ 0 by rintro rfl; exact k_one_ne (by grind -lia)) nv) ?_)
      grind -lia
end Go.Proofs.Ytnfiiclmbiiokaa
