/-
  Plain: products, powers, inverses, roots.
-/
import Derived.Test.YtnfiiclmbiiokaaPc
import Derived.Test.YtnfiiclmbiiokaaWf
namespace Go.Proofs.Ytnfiiclmbiiokaa
open Go Go.Fx
set_option linter.unusedVariables false
set_option linter.unusedSimpArgs false
theorem mulHi_val {x y : Nat} (hx : x < 18446744073709551616) (hy : y < 18446744073709551616) : mulHi x y = x * y / 18446744073709551616 := by
  unfold mulHi
  exact mul_hi hx hy
/-- The columns of a product: high and low words, and what they are together. -/
structure MI (m : List Nat × List Nat) (C : List Nat) (B : Nat) : Prop where
  l1 : m.1.length = 5
  l2 : m.2.length = 5
  b1 : Lt 18446744073709551616 m.1
  b2 : Lt 18446744073709551616 m.2
  lc : C.length = 5
  col : ∀ j, m.2.getD j 0 + 18446744073709551616 * m.1.getD j 0 = C.getD j 0
  bd : ∀ j, C.getD j 0 ≤ B
theorem MI.put {m : List Nat × List Nat} {C : List Nat} {B D k a b : Nat} (h : MI m C B) (hk : k < 5) (ha : a < 18446744073709551616) (hb : b < 18446744073709551616) (hD : a * b ≤ D) (hB : B + D < 340282366920938463463374607431768211456) :
    MI ((put k a b m.2 m.1).2, (put k a b m.2 m.1).1) (C.set k (C.getD k 0 + a * b)) (B + D) := by
  have hc := h.col k
  have hl := h.b2 k
  have hh := h.b1 k
  have hbd := h.bd k
  unfold Go.Proofs.Ytnfiiclmbiiokaa.put
  rw [mulHi_val ha hb]
  generalize a * b = p at *
  dsimp only
  refine ⟨by rw [List.length_set]; exact h.l1, by rw [List.length_set]; exact h.l2, h.b1.set (Nat.mod_lt _ (by decide)), h.b2.set (Nat.mod_lt _ (by decide)), by rw [List.length_set]; exact h.lc, fun j => ?_, fun j => ?_⟩
  · by_cases q : k = j
    · subst q
      rw [getD_set_eq (by rw [h.l2]; exact hk), getD_set_eq (by rw [h.l1]; exact hk), getD_set_eq (by rw [h.lc]; exact hk)]
      generalize m.2.getD k 0 = lo at *
      generalize m.1.getD k 0 = hi at *
      generalize C.getD k 0 = c at *
      omega
    · rw [Fx.getD_set_ne q, Fx.getD_set_ne q, Fx.getD_set_ne q]; exact h.col j
  · by_cases q : k = j
    · subst q
      rw [getD_set_eq (by rw [h.lc]; exact hk)]
      omega
    · rw [Fx.getD_set_ne q]
      have := h.bd j
      omega
def cS2 (x y : List Nat) (i k : Nat) (C : List Nat) : List Nat := if i + k < 5 then C.set (i + k) (C.getD (i + k) 0 + x.getD i 0 * y.getD k 0) else C.set (i + k - 5) (C.getD (i + k - 5) 0 + x.getD i 0 * (19 * y.getD k 0))
def cS1 (x y : List Nat) (i : Nat) (C : List Nat) : List Nat := iter (cS2 x y i) 5 C
theorem mul_bd {x y : Nat} (hx : x < 4503599627370496) (hy : y < 4503599627370496) : x * y ≤ 20282409603651670423947251286016 := Nat.mul_le_mul (show x ≤ 4503599627370496 by omega) (show y ≤ 4503599627370496 by omega)
theorem mi2 {x y : List Nat} (hx : Lt 4503599627370496 x) (hy : Lt 4503599627370496 y) {i : Nat} (hi : i < 5) {m : List Nat × List Nat} {C : List Nat} {B : Nat} (h : MI m C B) (hB : B ≤ 100000 * 20282409603651670423947251286016) : ∀ k, k ≤ 5 → MI (mul_it2 x y i m k) (iter (cS2 x y i) k C) (B + k * 385365782469381738054997774434304)
  | 0, _ => by rw [mul_it2_z, Nat.zero_mul, Nat.add_zero]; exact h
  | k + 1, hk => by
    have ih := mi2 hx hy hi h hB k (by omega)
    have bx := hx i
    have bY := hy k
    have hm := mul_bd bx bY
    rw [mul_it2_s, iterS]
    unfold mul_s2 cS2
    rw [show B + (k + 1) * 385365782469381738054997774434304 = (B + k * 385365782469381738054997774434304) + 385365782469381738054997774434304 by omega]
    by_cases q : i + k < 5
    · rw [if_pos q, if_pos q]
      exact ih.put q (by omega) (by omega) (by omega) (by omega)
    · rw [if_neg q, if_neg q]
      dsimp only
      rw [show 19 * y.getD k 0 % 18446744073709551616 = 19 * y.getD k 0 by omega]
      exact ih.put (by omega) (by omega) (by omega) (by rw [Nat.mul_left_comm]; omega) (by omega)
theorem mi1 {x y : List Nat} (hx : Lt 4503599627370496 x) (hy : Lt 4503599627370496 y) : ∀ i, i ≤ 5 → MI (mul_it1 x y i) (iter (cS1 x y) i (List.replicate 5 0)) (i * 1926828912346908690274988872171520)
  | 0, _ => by
    rw [mul_it1_z]
    exact ⟨rfl, rfl, Lt.replicate (by decide), Lt.replicate (by decide), rfl, fun j => by rw [iter0]; simp only [rep_getD], fun j => by rw [iter0, rep_getD]; omega⟩
  | i + 1, hi => by
    have ih := mi1 hx hy i (by omega)
    have h2 := mi2 hx hy (show i < 5 by omega) ih (by omega) 5 (Nat.le_refl _)
    rw [mul_it1_s, iterS]
    unfold mul_s1 cS1
    rw [show (i + 1) * 1926828912346908690274988872171520 = i * 1926828912346908690274988872171520 + 5 * 385365782469381738054997774434304 by omega]
    exact h2
theorem cS1_0 (x0 x1 x2 x3 x4 y0 y1 y2 y3 y4 a b c d e : Nat) : cS1 [x0, x1, x2, x3, x4] [y0, y1, y2, y3, y4] 0 [a, b, c, d, e] = [a + x0 * y0, b + x0 * y1, c + x0 * y2, d + x0 * y3, e + x0 * y4] := rfl
theorem cS1_1 (x0 x1 x2 x3 x4 y0 y1 y2 y3 y4 a b c d e : Nat) : cS1 [x0, x1, x2, x3, x4] [y0, y1, y2, y3, y4] 1 [a, b, c, d, e] = [a + x1 * (19 * y4), b + x1 * y0, c + x1 * y1, d + x1 * y2, e + x1 * y3] := rfl
theorem cS1_2 (x0 x1 x2 x3 x4 y0 y1 y2 y3 y4 a b c d e : Nat) : cS1 [x0, x1, x2, x3, x4] [y0, y1, y2, y3, y4] 2 [a, b, c, d, e] = [a + x2 * (19 * y3), b + x2 * (19 * y4), c + x2 * y0, d + x2 * y1, e + x2 * y2] := rfl
theorem cS1_3 (x0 x1 x2 x3 x4 y0 y1 y2 y3 y4 a b c d e : Nat) : cS1 [x0, x1, x2, x3, x4] [y0, y1, y2, y3, y4] 3 [a, b, c, d, e] = [a + x3 * (19 * y2), b + x3 * (19 * y3), c + x3 * (19 * y4), d + x3 * y0, e + x3 * y1] := rfl
theorem cS1_4 (x0 x1 x2 x3 x4 y0 y1 y2 y3 y4 a b c d e : Nat) : cS1 [x0, x1, x2, x3, x4] [y0, y1, y2, y3, y4] 4 [a, b, c, d, e] = [a + x4 * (19 * y1), b + x4 * (19 * y2), c + x4 * (19 * y3), d + x4 * (19 * y4), e + x4 * y0] := rfl
theorem cS_eq (x0 x1 x2 x3 x4 y0 y1 y2 y3 y4 : Nat) : iter (cS1 [x0, x1, x2, x3, x4] [y0, y1, y2, y3, y4]) 5 (List.replicate 5 0) =
    [0 + x0 * y0 + x1 * (19 * y4) + x2 * (19 * y3) + x3 * (19 * y2) + x4 * (19 * y1), 0 + x0 * y1 + x1 * y0 + x2 * (19 * y4) + x3 * (19 * y3) + x4 * (19 * y2), 0 + x0 * y2 + x1 * y1 + x2 * y0 + x3 * (19 * y4) + x4 * (19 * y3), 0 + x0 * y3 + x1 * y2 + x2 * y1 + x3 * y0 + x4 * (19 * y4), 0 + x0 * y4 + x1 * y3 + x2 * y2 + x3 * y1 + x4 * y0] := by
  rw [iterS, iterS, iterS, iterS, iterS, iter0, show List.replicate 5 0 = [0, 0, 0, 0, 0] from rfl, cS1_0, cS1_1, cS1_2, cS1_3, cS1_4]
theorem mul_it3_eq (x y : List Nat) : mul_it3 x y 5 = ([(mul_it1 x y 5).2.getD 0 0 &&& 2251799813685247, (mul_it1 x y 5).2.getD 1 0 &&& 2251799813685247, (mul_it1 x y 5).2.getD 2 0 &&& 2251799813685247, (mul_it1 x y 5).2.getD 3 0 &&& 2251799813685247, (mul_it1 x y 5).2.getD 4 0 &&& 2251799813685247],
    [(mul_it1 x y 5).1.getD 0 0 * 2 ^ 13 % 18446744073709551616 ||| (mul_it1 x y 5).2.getD 0 0 / 2 ^ 51, (mul_it1 x y 5).1.getD 1 0 * 2 ^ 13 % 18446744073709551616 ||| (mul_it1 x y 5).2.getD 1 0 / 2 ^ 51, (mul_it1 x y 5).1.getD 2 0 * 2 ^ 13 % 18446744073709551616 ||| (mul_it1 x y 5).2.getD 2 0 / 2 ^ 51, (mul_it1 x y 5).1.getD 3 0 * 2 ^ 13 % 18446744073709551616 ||| (mul_it1 x y 5).2.getD 3 0 / 2 ^ 51, (mul_it1 x y 5).1.getD 4 0 * 2 ^ 13 % 18446744073709551616 ||| (mul_it1 x y 5).2.getD 4 0 / 2 ^ 51]) := by
  rw [mul_it3_s, mul_it3_s, mul_it3_s, mul_it3_s, mul_it3_s, mul_it3_z]
  unfold mul_s3
  generalize mul_it1 x y 5 = m
  rfl
theorem mul_it4_eq (x y : List Nat) {o0 o1 o2 o3 o4 v0 v1 v2 v3 v4 : Nat} (h : mul_it3 x y 5 = ([o0, o1, o2, o3, o4], [v0, v1, v2, v3, v4])) : mul_it4 x y 4 = [(o0 + (19 * v4 % 18446744073709551616)) % 18446744073709551616, (o1 + v0) % 18446744073709551616, (o2 + v1) % 18446744073709551616, (o3 + v2) % 18446744073709551616, (o4 + v3) % 18446744073709551616] := by
  rw [mul_it4_s, mul_it4_s, mul_it4_s, mul_it4_s, mul_it4_z]
  unfold mul_s4
  rw [h]
  rfl
theorem mul_part {lo hi c : Nat} (h : lo + 18446744073709551616 * hi = c) (hl : lo < 18446744073709551616) (hc : c < 41538374868278621028243970633760768) : lo &&& 2251799813685247 = c % 2251799813685248 ∧ (hi * 2 ^ 13 % 18446744073709551616 ||| lo / 2 ^ 51) = c / 2251799813685248 := by
  refine ⟨by rw [mask51]; omega, ?_⟩
  rw [show hi * 2 ^ 13 % 18446744073709551616 = hi * 2 ^ 13 by simp only [show (2 : Nat) ^ 13 = 8192 from rfl]; omega, or_add' (by simp only [show (2 : Nat) ^ 13 = 8192 from rfl, show (2 : Nat) ^ 51 = 2251799813685248 from rfl]; omega)]
  simp only [show (2 : Nat) ^ 13 = 8192 from rfl, show (2 : Nat) ^ 51 = 2251799813685248 from rfl]
  omega
theorem mul_id (x0 x1 x2 x3 x4 y0 y1 y2 y3 y4 : Nat) :
  (x0 + 2251799813685248 * (x1 + 2251799813685248 * (x2 + 2251799813685248 * (x3 + 2251799813685248 * x4)))) * (y0 + 2251799813685248 * (y1 + 2251799813685248 * (y2 + 2251799813685248 * (y3 + 2251799813685248 * y4)))) =
    ((0 + x0 * y0 + x1 * (19 * y4) + x2 * (19 * y3) + x3 * (19 * y2) + x4 * (19 * y1)) + 2251799813685248 * ((0 + x0 * y1 + x1 * y0 + x2 * (19 * y4) + x3 * (19 * y3) + x4 * (19 * y2)) + 2251799813685248 * ((0 + x0 * y2 + x1 * y1 + x2 * y0 + x3 * (19 * y4) + x4 * (19 * y3)) + 2251799813685248 * ((0 + x0 * y3 + x1 * y2 + x2 * y1 + x3 * y0 + x4 * (19 * y4)) + 2251799813685248 * (0 + x0 * y4 + x1 * y3 + x2 * y2 + x3 * y1 + x4 * y0)))))
    + ((x1 * y4 + x2 * y3 + x3 * y2 + x4 * y1) + 2251799813685248 * ((x2 * y4 + x3 * y3 + x4 * y2) + 2251799813685248 * ((x3 * y4 + x4 * y3) + 2251799813685248 * (x4 * y4)))) * 57896044618658097711785492504343953926634992332820282019728792003956564819949 := by
  grind
theorem mul_val {x y : List Nat} (hx : Fe x) (hy : Fe y) : Fe (mul x y) ∧ kv (mul x y) = kv x * kv y := by
  obtain ⟨hx5, hx⟩ := hx
  obtain ⟨hy5, hy⟩ := hy
  have hm := mi1 hx hy 5 (Nat.le_refl _)
  obtain ⟨x0, x1, x2, x3, x4, rfl⟩ := five hx5
  obtain ⟨y0, y1, y2, y3, y4, rfl⟩ := five hy5
  obtain ⟨a0, a1, a2, a3, a4⟩ := lt5 hx
  obtain ⟨b0, b1, b2, b3, b4⟩ := lt5 hy
  rw [cS_eq] at hm
  have d0 := mul_bd a0 b4
  have d1 := mul_bd a1 b3
  have d2 := mul_bd a2 b2
  have d3 := mul_bd a3 b1
  have d4 := mul_bd a4 b0
  have kid := mul_id x0 x1 x2 x3 x4 y0 y1 y2 y3 y4
  have hC4 : 0 + x0 * y4 + x1 * y3 + x2 * y2 + x3 * y1 + x4 * y0 ≤ 101412048018258352119736256430080 := by omega
  generalize (x1 * y4 + x2 * y3 + x3 * y2 + x4 * y1) + 2251799813685248 * ((x2 * y4 + x3 * y3 + x4 * y2) + 2251799813685248 * ((x3 * y4 + x4 * y3) + 2251799813685248 * (x4 * y4))) = kk at kid
  generalize 0 + x0 * y0 + x1 * (19 * y4) + x2 * (19 * y3) + x3 * (19 * y2) + x4 * (19 * y1) = c0 at *
  generalize 0 + x0 * y1 + x1 * y0 + x2 * (19 * y4) + x3 * (19 * y3) + x4 * (19 * y2) = c1 at *
  generalize 0 + x0 * y2 + x1 * y1 + x2 * y0 + x3 * (19 * y4) + x4 * (19 * y3) = c2 at *
  generalize 0 + x0 * y3 + x1 * y2 + x2 * y1 + x3 * y0 + x4 * (19 * y4) = c3 at *
  generalize 0 + x0 * y4 + x1 * y3 + x2 * y2 + x3 * y1 + x4 * y0 = c4 at *
  have g0 : c0 ≤ 5 * 1926828912346908690274988872171520 := hm.bd 0
  have g1 : c1 ≤ 5 * 1926828912346908690274988872171520 := hm.bd 1
  have g2 : c2 ≤ 5 * 1926828912346908690274988872171520 := hm.bd 2
  have g3 : c3 ≤ 5 * 1926828912346908690274988872171520 := hm.bd 3
  obtain ⟨p0, q0⟩ := mul_part (hm.col 0) (hm.b2 0) (show c0 < _ by omega)
  obtain ⟨p1, q1⟩ := mul_part (hm.col 1) (hm.b2 1) (show c1 < _ by omega)
  obtain ⟨p2, q2⟩ := mul_part (hm.col 2) (hm.b2 2) (show c2 < _ by omega)
  obtain ⟨p3, q3⟩ := mul_part (hm.col 3) (hm.b2 3) (show c3 < _ by omega)
  obtain ⟨p4, q4⟩ := mul_part (hm.col 4) (hm.b2 4) (show c4 < _ by omega)
  have h3 := mul_it3_eq [x0, x1, x2, x3, x4] [y0, y1, y2, y3, y4]
  rw [p0, p1, p2, p3, p4, q0, q1, q2, q3, q4] at h3
  have h4 := mul_it4_eq _ _ h3
  have f0 : [c0, c1, c2, c3, c4].getD 0 0 = c0 := rfl
  have f1 : [c0, c1, c2, c3, c4].getD 1 0 = c1 := rfl
  have f2 : [c0, c1, c2, c3, c4].getD 2 0 = c2 := rfl
  have f3 : [c0, c1, c2, c3, c4].getD 3 0 = c3 := rfl
  have f4 : [c0, c1, c2, c3, c4].getD 4 0 = c4 := rfl
  rw [f0, f1, f2, f3, f4] at h4
  rw [show (c0 % 2251799813685248 + 19 * (c4 / 2251799813685248) % 18446744073709551616) % 18446744073709551616 = c0 % 2251799813685248 + 19 * (c4 / 2251799813685248) by omega, show (c1 % 2251799813685248 + c0 / 2251799813685248) % 18446744073709551616 = c1 % 2251799813685248 + c0 / 2251799813685248 by omega, show (c2 % 2251799813685248 + c1 / 2251799813685248) % 18446744073709551616 = c2 % 2251799813685248 + c1 / 2251799813685248 by omega, show (c3 % 2251799813685248 + c2 / 2251799813685248) % 18446744073709551616 = c3 % 2251799813685248 + c2 / 2251799813685248 by omega, show (c4 % 2251799813685248 + c3 / 2251799813685248) % 18446744073709551616 = c4 % 2251799813685248 + c3 / 2251799813685248 by omega] at h4
  unfold Go.Proofs.Ytnfiiclmbiiokaa.mul
  rw [h4]
  obtain ⟨k1, k2⟩ := car_ok (l := [c0 % 2251799813685248 + 19 * (c4 / 2251799813685248), c1 % 2251799813685248 + c0 / 2251799813685248, c2 % 2251799813685248 + c1 / 2251799813685248, c3 % 2251799813685248 + c2 / 2251799813685248, c4 % 2251799813685248 + c3 / 2251799813685248]) rfl (lt5_mk (by omega) (by omega) (by omega) (by omega) (by omega))
  refine ⟨k1, k2.trans ?_⟩
  unfold kv
  rw [← kof_mul, val5, val5, val5, kid]
  refine (kof_of_add (k := c4 / 2251799813685248) ?_).trans (kof_of_add (k := kk) rfl)
  omega
end Go.Proofs.Ytnfiiclmbiiokaa
