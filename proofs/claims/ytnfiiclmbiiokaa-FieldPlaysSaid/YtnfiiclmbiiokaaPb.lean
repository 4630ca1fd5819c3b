/-
  Plain: limbs of 51 bits: carries, the least limbs, bytes, loading.
-/
import Derived.Test.YtnfiiclmbiiokaaWb
import Derived.Test.YtnfiiclmbiiokaaNa
import Derived.Test.YtnfiiclmbiiokaaFc
namespace Go.Proofs.Ytnfiiclmbiiokaa
open Go Go.Fx
set_option linter.unusedVariables false
set_option linter.unusedSimpArgs false
theorem five {l : List Nat} (h : l.length = 5) : ∃ a b c d e, l = [a, b, c, d, e] := by
  match l, h with
  | [a, b, c, d, e], _ => exact ⟨a, b, c, d, e, rfl⟩
theorem lt5 {B a b c d e : Nat} (h : Lt B [a, b, c, d, e]) : a < B ∧ b < B ∧ c < B ∧ d < B ∧ e < B := ⟨h 0, h 1, h 2, h 3, h 4⟩
theorem lt5_mk {B a b c d e : Nat} (ha : a < B) (hb : b < B) (hc : c < B) (hd : d < B) (he : e < B) : Lt B [a, b, c, d, e] := by
  refine Lt.of_mem (by omega) ?_
  intro x hx
  simp only [List.mem_cons, List.not_mem_nil, or_false] at hx
  omega
theorem val5 (B a b c d e : Nat) : val B [a, b, c, d, e] = a + B * (b + B * (c + B * (d + B * e))) := by simp only [val, Nat.mul_zero, Nat.add_zero]
theorem mask51 (x : Nat) : x &&& 2251799813685247 = x % 2251799813685248 := and_mask x 51
theorem car_raw (a b c d e : Nat) : car [a, b, c, d, e] = [((a &&& 2251799813685247) + (19 * (e / 2 ^ 51) % 18446744073709551616)) % 18446744073709551616, ((b &&& 2251799813685247) + a / 2 ^ 51) % 18446744073709551616, ((c &&& 2251799813685247) + b / 2 ^ 51) % 18446744073709551616, ((d &&& 2251799813685247) + c / 2 ^ 51) % 18446744073709551616, ((e &&& 2251799813685247) + d / 2 ^ 51) % 18446744073709551616] := by
  unfold car
  rfl
theorem car_n {a b c d e : Nat} (ha : a < 9223372036854775808) (hb : b < 9223372036854775808) (hc : c < 9223372036854775808) (hd : d < 9223372036854775808) (he : e < 9223372036854775808) :
    car [a, b, c, d, e] = [a % 2251799813685248 + 19 * (e / 2251799813685248), b % 2251799813685248 + a / 2251799813685248, c % 2251799813685248 + b / 2251799813685248, d % 2251799813685248 + c / 2251799813685248, e % 2251799813685248 + d / 2251799813685248] := by
  rw [car_raw]
  simp only [mask51, show (2 : Nat) ^ 51 = 2251799813685248 from rfl]
  rw [show (a % 2251799813685248 + 19 * (e / 2251799813685248) % 18446744073709551616) % 18446744073709551616 = a % 2251799813685248 + 19 * (e / 2251799813685248) by omega, show (b % 2251799813685248 + a / 2251799813685248) % 18446744073709551616 = b % 2251799813685248 + a / 2251799813685248 by omega, show (c % 2251799813685248 + b / 2251799813685248) % 18446744073709551616 = c % 2251799813685248 + b / 2251799813685248 by omega, show (d % 2251799813685248 + c / 2251799813685248) % 18446744073709551616 = d % 2251799813685248 + c / 2251799813685248 by omega, show (e % 2251799813685248 + d / 2251799813685248) % 18446744073709551616 = e % 2251799813685248 + d / 2251799813685248 by omega]
theorem kof_of_add {x y k : Nat} (h : x + k * 57896044618658097711785492504343953926634992332820282019728792003956564819949 = y) : kof x = kof y := by
  rw [kof_eq, ← h, Nat.add_mul_mod_self_right]
/-- Five limbs below 2^52. -/
def Fe (x : List Nat) : Prop := x.length = 5 ∧ Lt 4503599627370496 x
def kv (x : List Nat) : K := kof (val 2251799813685248 x)
theorem car_ok {l : List Nat} (h5 : l.length = 5) (h : Lt 9223372036854775808 l) : Fe (car l) ∧ kv (car l) = kv l := by
  obtain ⟨a, b, c, d, e, rfl⟩ := five h5
  obtain ⟨ha, hb, hc, hd, he⟩ := lt5 h
  rw [car_n ha hb hc hd he]
  refine ⟨⟨rfl, lt5_mk (by omega) (by omega) (by omega) (by omega) (by omega)⟩, ?_⟩
  unfold kv
  rw [val5, val5]
  exact kof_of_add (k := e / 2251799813685248) (by omega)
theorem least_of {x : List Nat} {a b c d e : Nat} (h : car (car x) = [a, b, c, d, e]) (ha : a < 4503599627370496) (hb : b ≤ 2251799813685248) (hc : c ≤ 2251799813685248) (hd : d ≤ 2251799813685248) (he : e ≤ 2251799813685248) :
    least x = [(a + 19 * ((e + (d + (c + (b + (a + 19) / 2251799813685248) / 2251799813685248) / 2251799813685248) / 2251799813685248) / 2251799813685248)) % 2251799813685248, 
      (b + (a + 19 * ((e + (d + (c + (b + (a + 19) / 2251799813685248) / 2251799813685248) / 2251799813685248) / 2251799813685248) / 2251799813685248)) / 2251799813685248) % 2251799813685248,
      (c + (b + (a + 19 * ((e + (d + (c + (b + (a + 19) / 2251799813685248) / 2251799813685248) / 2251799813685248) / 2251799813685248) / 2251799813685248)) / 2251799813685248) / 2251799813685248) % 2251799813685248,
      (d + (c + (b + (a + 19 * ((e + (d + (c + (b + (a + 19) / 2251799813685248) / 2251799813685248) / 2251799813685248) / 2251799813685248) / 2251799813685248)) / 2251799813685248) / 2251799813685248) / 2251799813685248) % 2251799813685248,
      (e + (d + (c + (b + (a + 19 * ((e + (d + (c + (b + (a + 19) / 2251799813685248) / 2251799813685248) / 2251799813685248) / 2251799813685248) / 2251799813685248)) / 2251799813685248) / 2251799813685248) / 2251799813685248) / 2251799813685248) % 2251799813685248] := by
  have hq : least_it1 x 4 = (e + (d + (c + (b + (a + 19) / 2251799813685248) / 2251799813685248) / 2251799813685248) / 2251799813685248) / 2251799813685248 := by
    have e0 : least_it1 x 4 = ((e + ((d + ((c + ((b + ((a + 19) % 18446744073709551616 / 2 ^ 51)) % 18446744073709551616 / 2 ^ 51)) % 18446744073709551616 / 2 ^ 51)) % 18446744073709551616 / 2 ^ 51)) % 18446744073709551616) / 2 ^ 51 := by
      rw [least_it1_s, least_it1_s, least_it1_s, least_it1_s, least_it1_z]
      unfold least_s1
      rw [h]
      rfl
    rw [e0]
    simp only [show (2 : Nat) ^ 51 = 2251799813685248 from rfl]
    rw [show (a + 19) % 18446744073709551616 = a + 19 by omega]
    generalize hz0 : (a + 19) / 2251799813685248 = z0
    have h0 : z0 ≤ 4 := by omega
    rw [show (b + z0) % 18446744073709551616 = b + z0 by omega]
    generalize hz1 : (b + z0) / 2251799813685248 = z1
    have h1 : z1 ≤ 4 := by omega
    rw [show (c + z1) % 18446744073709551616 = c + z1 by omega]
    generalize hz2 : (c + z1) / 2251799813685248 = z2
    have h2 : z2 ≤ 4 := by omega
    rw [show (d + z2) % 18446744073709551616 = d + z2 by omega]
    generalize hz3 : (d + z2) / 2251799813685248 = z3
    have h3 : z3 ≤ 4 := by omega
    rw [show (e + z3) % 18446744073709551616 = e + z3 by omega]
  have hq1 : (e + (d + (c + (b + (a + 19) / 2251799813685248) / 2251799813685248) / 2251799813685248) / 2251799813685248) / 2251799813685248 ≤ 1 := by
    generalize hz0 : (a + 19) / 2251799813685248 = z0
    have h0 : z0 ≤ 2 := by omega
    clear hz0
    generalize hz1 : (b + z0) / 2251799813685248 = z1
    have h1 : z1 ≤ 1 := by omega
    clear hz1
    generalize hz2 : (c + z1) / 2251799813685248 = z2
    have h2 : z2 ≤ 1 := by omega
    clear hz2
    generalize hz3 : (d + z2) / 2251799813685248 = z3
    have h3 : z3 ≤ 1 := by omega
    clear hz3
    omega
  have e1 : least x = (least_it2 x 4).set 4 ((least_it2 x 4).getD 4 0 &&& 2251799813685247) := by unfold least; rfl
  rw [e1, least_it2_s, least_it2_s, least_it2_s, least_it2_s, least_it2_z, h, hq]
  generalize (e + (d + (c + (b + (a + 19) / 2251799813685248) / 2251799813685248) / 2251799813685248) / 2251799813685248) / 2251799813685248 = q at *
  clear hq
  have r : ∀ A B C D E : Nat, (least_s2 x 3 (least_s2 x 2 (least_s2 x 1 (least_s2 x 0 [A, B, C, D, E])))).set 4 ((least_s2 x 3 (least_s2 x 2 (least_s2 x 1 (least_s2 x 0 [A, B, C, D, E])))).getD 4 0 &&& 2251799813685247) =
      [A &&& 2251799813685247, ((B + A / 2 ^ 51) % 18446744073709551616) &&& 2251799813685247, ((C + ((B + A / 2 ^ 51) % 18446744073709551616) / 2 ^ 51) % 18446744073709551616) &&& 2251799813685247, ((D + ((C + ((B + A / 2 ^ 51) % 18446744073709551616) / 2 ^ 51) % 18446744073709551616) / 2 ^ 51) % 18446744073709551616) &&& 2251799813685247, ((E + ((D + ((C + ((B + A / 2 ^ 51) % 18446744073709551616) / 2 ^ 51) % 18446744073709551616) / 2 ^ 51) % 18446744073709551616) / 2 ^ 51) % 18446744073709551616) &&& 2251799813685247] := fun A B C D E => rfl
  show (least_s2 x 3 (least_s2 x 2 (least_s2 x 1 (least_s2 x 0 [(a + 19 * q % 18446744073709551616) % 18446744073709551616, b, c, d, e])))).set 4 ((least_s2 x 3 (least_s2 x 2 (least_s2 x 1 (least_s2 x 0 [(a + 19 * q % 18446744073709551616) % 18446744073709551616, b, c, d, e])))).getD 4 0 &&& 2251799813685247) = _
  rw [r]
  simp only [mask51, show (2 : Nat) ^ 51 = 2251799813685248 from rfl]
  rw [show (a + 19 * q % 18446744073709551616) % 18446744073709551616 = a + 19 * q by omega]
  generalize ha1 : a + 19 * q = A
  have hA : A < 9223372036854775808 := by omega
  rw [show (b + A / 2251799813685248) % 18446744073709551616 = b + A / 2251799813685248 by omega]
  generalize hb1 : b + A / 2251799813685248 = B
  have hB : B < 9223372036854775808 := by omega
  rw [show (c + B / 2251799813685248) % 18446744073709551616 = c + B / 2251799813685248 by omega]
  generalize hc1 : c + B / 2251799813685248 = C
  have hC : C < 9223372036854775808 := by omega
  rw [show (d + C / 2251799813685248) % 18446744073709551616 = d + C / 2251799813685248 by omega]
  generalize hd1 : d + C / 2251799813685248 = D
  have hD : D < 9223372036854775808 := by omega
  rw [show (e + D / 2251799813685248) % 18446744073709551616 = e + D / 2251799813685248 by omega]
theorem car2 {x : List Nat} (h : Fe x) : ∃ a b c d e, car (car x) = [a, b, c, d, e] ∧ a < 2251799813685248 + 19 ∧ b ≤ 2251799813685248 ∧ c ≤ 2251799813685248 ∧ d ≤ 2251799813685248 ∧ e ≤ 2251799813685248 ∧ kof (val 2251799813685248 [a, b, c, d, e]) = kv x := by
  obtain ⟨h5, hx⟩ := h
  obtain ⟨a, b, c, d, e, rfl⟩ := five h5
  obtain ⟨ha, hb, hc, hd, he⟩ := lt5 hx
  have k1 := (car_ok (l := [a, b, c, d, e]) rfl (hx.mono (by decide))).2
  rw [car_n (by omega) (by omega) (by omega) (by omega) (by omega)] at k1 ⊢
  have k2 := (car_ok (l := [a % 2251799813685248 + 19 * (e / 2251799813685248), b % 2251799813685248 + a / 2251799813685248, c % 2251799813685248 + b / 2251799813685248, d % 2251799813685248 + c / 2251799813685248, e % 2251799813685248 + d / 2251799813685248]) rfl (lt5_mk (by omega) (by omega) (by omega) (by omega) (by omega))).2
  rw [car_n (by omega) (by omega) (by omega) (by omega) (by omega)] at k2 ⊢
  exact ⟨_, _, _, _, _, rfl, by omega, by omega, by omega, by omega, by omega, k2.trans k1⟩
theorem least_val {x : List Nat} (h : Fe x) : least x = digs 2251799813685248 5 (kv x).val := by
  obtain ⟨a, b, c, d, e, h1, ha, hb, hc, hd, he, hk⟩ := car2 h
  rw [least_of h1 (by omega) hb hc hd he, ← hk, kof_val, val5]
  generalize hqq : (e + (d + (c + (b + (a + 19) / 2251799813685248) / 2251799813685248) / 2251799813685248) / 2251799813685248) / 2251799813685248 = q
  have hV : (a + 2251799813685248 * (b + 2251799813685248 * (c + 2251799813685248 * (d + 2251799813685248 * e)))) % 57896044618658097711785492504343953926634992332820282019728792003956564819949 = a + 2251799813685248 * (b + 2251799813685248 * (c + 2251799813685248 * (d + 2251799813685248 * e))) - q * 57896044618658097711785492504343953926634992332820282019728792003956564819949 := by
    have hq2 : (a + 2251799813685248 * (b + 2251799813685248 * (c + 2251799813685248 * (d + 2251799813685248 * e)))) + 19 < (q + 1) * 57896044618658097711785492504343953926634992332820282019728792003956564819968 ∧ q * 57896044618658097711785492504343953926634992332820282019728792003956564819968 ≤ (a + 2251799813685248 * (b + 2251799813685248 * (c + 2251799813685248 * (d + 2251799813685248 * e)))) + 19 := by omega
    have hq1 : q = 0 ∨ q = 1 := by omega
    rcases hq1 with k | k
    · rw [k] at hq2 ⊢; omega
    · rw [k] at hq2 ⊢; omega
  rw [hV]
  have hq1 : q = 0 ∨ q = 1 := by omega
  have e1 := eq_digs (B := 2251799813685248) (by decide) (n := 5) (xs := [(a + 19 * q) % 2251799813685248, (b + (a + 19 * q) / 2251799813685248) % 2251799813685248, (c + (b + (a + 19 * q) / 2251799813685248) / 2251799813685248) % 2251799813685248, (d + (c + (b + (a + 19 * q) / 2251799813685248) / 2251799813685248) / 2251799813685248) % 2251799813685248, (e + (d + (c + (b + (a + 19 * q) / 2251799813685248) / 2251799813685248) / 2251799813685248) / 2251799813685248) % 2251799813685248]) (lt5_mk (Nat.mod_lt _ (by decide)) (Nat.mod_lt _ (by decide)) (Nat.mod_lt _ (by decide)) (Nat.mod_lt _ (by decide)) (Nat.mod_lt _ (by decide))) rfl
  rw [e1, val5]
  congr 1
  rcases hq1 with k | k
  · rw [k] at hqq ⊢; omega
  · rw [k] at hqq ⊢; omega
end Go.Proofs.Ytnfiiclmbiiokaa
