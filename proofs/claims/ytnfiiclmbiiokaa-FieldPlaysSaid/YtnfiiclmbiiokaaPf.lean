/-
  Plain: the document's numbers: folding, sums, products, powers, roots.
-/
import Derived.Test.YtnfiiclmbiiokaaRe
import Derived.Test.YtnfiiclmbiiokaaNa
namespace Go.Proofs.Ytnfiiclmbiiokaa
open Go Go.Fx
set_option linter.unusedVariables false
set_option linter.unusedSimpArgs false
/-- One pass of carries. -/
theorem fold_carry {m : List Nat} (hl : m.length = 32) (hm : Lt 281474976710656 m) : ∀ i, i ≤ 32 → (rfold_it2 m i).1 < 281474976710656 ∧ (rfold_it2 m i).2.length = 32 ∧ (∀ j, j < i → (rfold_it2 m i).2.getD j 0 < 65536) ∧ (∀ j, i ≤ j → (rfold_it2 m i).2.getD j 0 = m.getD j 0) ∧
    val 65536 (rfold_it2 m i).2 + 65536 ^ i * (rfold_it2 m i).1 = val 65536 m
  | 0, _ => ⟨by rw [rfold_it2_z]; show 0 < 281474976710656; decide, hl, fun j h => absurd h (Nat.not_lt_zero j), fun j _ => rfl, by rw [rfold_it2_z]; simp⟩
  | i + 1, hi => by
    obtain ⟨h1, h2, h3, h4, h5⟩ := fold_carry hl hm i (by omega)
    have hmi := hm i
    rw [← h4 i (Nat.le_refl i)] at hmi
    rw [rfold_it2_s]
    unfold rfold_s2
    dsimp only
    generalize (rfold_it2 m i).1 = c at *
    generalize hO : (rfold_it2 m i).2 = o at *
    rw [show (o.getD i 0 + c) % 18446744073709551616 = o.getD i 0 + c by omega]
    refine ⟨by omega, by rw [List.length_set]; exact h2, fun j hj => ?_, fun j hj => ?_, ?_⟩
    · by_cases q : i = j
      · subst q; rw [getD_set_eq (by omega)]; exact Nat.mod_lt _ (by decide)
      · rw [Fx.getD_set_ne q]; exact h3 j (by omega)
    · rw [Fx.getD_set_ne (by omega)]; exact h4 j (by omega)
    · have hs := carry_set (B := 65536) (m := o) (i := i) (x := o.getD i 0 + c) (by omega)
      rw [Nat.mul_add] at hs
      omega
theorem carry_end {m : List Nat} (hl : m.length = 32) (hm : Lt 281474976710656 m) (hv : val 65536 m < 13407807929942597099574024998205846127479365820592393377723561443721764030073546976801874298166903427690031858186486050853753882811946569946433649006084096) : (rfold_it2 m 32).2.length = 32 ∧ Lt 65536 (rfold_it2 m 32).2 ∧ val 65536 (rfold_it2 m 32).2 = val 65536 m := by
  obtain ⟨h1, h2, h3, h4, h5⟩ := fold_carry hl hm 32 (Nat.le_refl _)
  have hlt : Lt 65536 (rfold_it2 m 32).2 := by
    intro j
    by_cases q : j < 32
    · exact h3 j q
    · rw [getD_ge (by omega)]; decide
  refine ⟨h2, hlt, ?_⟩
  rw [show (65536 : Nat) ^ 32 = 13407807929942597099574024998205846127479365820592393377723561443721764030073546976801874298166903427690031858186486050853753882811946569946433649006084096 from rfl] at h5
  omega
/-- One pass of folding. -/
theorem fold_pass {m : List Nat} (hl : m.length = 32) (hm : Lt 281474976710656 m) (hv : val 65536 m < 13407807929942597099574024998205846127479365820592393377723561443721764030073546976801874298166903427690031858186486050853753882811946569946433649006084096) : ∀ i, i ≤ 16 → (rfold_it3 m i).length = 32 ∧ Lt 2621440 (rfold_it3 m i) ∧ (∀ j, j < i → (rfold_it3 m i).getD (j + 16) 0 = 0) ∧ (∀ j, i ≤ j → j < 16 → (rfold_it3 m i).getD j 0 = (rfold_it2 m 32).2.getD j 0 ∧ (rfold_it3 m i).getD (j + 16) 0 = (rfold_it2 m 32).2.getD (j + 16) 0) ∧
    val 65536 (rfold_it3 m i) + 2 * 57896044618658097711785492504343953926634992332820282019728792003956564819949 * val 65536 (((rfold_it2 m 32).2.drop 16).take i) = val 65536 m := by
  obtain ⟨g1, g2, g3⟩ := carry_end hl hm hv
  intro i
  induction i with
  | zero => intro _; exact ⟨by rw [rfold_it3_z]; exact g1, by rw [rfold_it3_z]; exact g2.mono (by decide), fun j h => absurd h (Nat.not_lt_zero j), fun j _ _ => ⟨rfl, rfl⟩, by rw [rfold_it3_z, List.take_zero, val_nil, Nat.mul_zero, Nat.add_zero]; exact g3⟩
  | succ i ih =>
    intro hi
    obtain ⟨h1, h2, h3, h4, h5⟩ := ih (by omega)
    obtain ⟨k1, k2⟩ := h4 i (Nat.le_refl i) (by omega)
    have b1 := g2 i
    have b2 := g2 (i + 16)
    rw [← k1] at b1
    rw [val_take_succ (by rw [List.length_drop]; omega), getD_drop, Nat.add_comm 16 i, ← k2]
    rw [← k2] at b2
    rw [rfold_it3_s]
    unfold rfold_s3
    dsimp only
    generalize val 65536 (((rfold_it2 m 32).2.drop 16).take i) = T at *
    generalize hO : rfold_it3 m i = o at *
    rw [show (o.getD i 0 + 38 * o.getD (i + 16) 0 % 18446744073709551616) % 18446744073709551616 = o.getD i 0 + 38 * o.getD (i + 16) 0 by omega]
    refine ⟨by rw [List.length_set, List.length_set]; exact h1, (h2.set (by omega)).set (by decide), fun j hj => ?_, fun j hj hj2 => ?_, ?_⟩
    · by_cases q : j = i
      · subst q; rw [getD_set_eq (by rw [List.length_set]; omega)]
      · rw [Fx.getD_set_ne (by omega), Fx.getD_set_ne (by omega)]; exact h3 j (by omega)
    · rw [Fx.getD_set_ne (by omega), Fx.getD_set_ne (by omega), Fx.getD_set_ne (by omega), Fx.getD_set_ne (by omega)]
      exact h4 j (by omega) hj2
    · have s1 := val_set (B := 65536) (xs := o) (i := i) (v := o.getD i 0 + 38 * o.getD (i + 16) 0) (by omega)
      have s2 := val_set (B := 65536) (xs := o.set i (o.getD i 0 + 38 * o.getD (i + 16) 0)) (i := i + 16) (v := 0) (by rw [List.length_set]; omega)
      rw [Fx.getD_set_ne (by omega), Nat.pow_add, Nat.mul_zero, Nat.add_zero, Nat.mul_assoc, Nat.mul_left_comm, show (65536 : Nat) ^ 16 = 2 * 57896044618658097711785492504343953926634992332820282019728792003956564819949 + 38 from rfl] at s2
      rw [Nat.mul_add, Nat.mul_left_comm (65536 ^ i) 38] at s1
      rw [Nat.mul_add]
      generalize 65536 ^ i * o.getD (i + 16) 0 = z at *
      omega
/-- A round: what is behind it. -/
theorem fold_round {m : List Nat} (hl : m.length = 32) (hm : Lt 281474976710656 m) (hv : val 65536 m < 13407807929942597099574024998205846127479365820592393377723561443721764030073546976801874298166903427690031858186486050853753882811946569946433649006084096) : (rfold_it3 m 16).length = 32 ∧ Lt 2621440 (rfold_it3 m 16) ∧ (∀ j, 16 ≤ j → (rfold_it3 m 16).getD j 0 = 0) ∧ val 65536 (rfold_it3 m 16) + 2 * 57896044618658097711785492504343953926634992332820282019728792003956564819949 * (val 65536 m / 115792089237316195423570985008687907853269984665640564039457584007913129639936) = val 65536 m := by
  obtain ⟨g1, g2, g3⟩ := carry_end hl hm hv
  obtain ⟨h1, h2, h3, _, h5⟩ := fold_pass hl hm hv 16 (Nat.le_refl _)
  refine ⟨h1, h2, fun j hj => ?_, ?_⟩
  · by_cases q : j < 32
    · have := h3 (j - 16) (by omega)
      rwa [show j - 16 + 16 = j by omega] at this
    · exact getD_ge (by omega)
  · have e := val_split 65536 16 (rfold_it2 m 32).2 (by omega)
    have hlo := (g2.take 16).val_lt
    rw [List.length_take, g1, show Min.min 16 32 = 16 from rfl, show (65536 : Nat) ^ 16 = 115792089237316195423570985008687907853269984665640564039457584007913129639936 from rfl] at hlo
    rw [List.take_of_length_le (by rw [List.length_drop]; omega)] at h5
    rw [show (65536 : Nat) ^ 16 = 115792089237316195423570985008687907853269984665640564039457584007913129639936 from rfl, g3] at e
    have : val 65536 m / 115792089237316195423570985008687907853269984665640564039457584007913129639936 = val 65536 ((rfold_it2 m 32).2.drop 16) := by omega
    rw [this]
    exact h5
theorem fold_four {l : List Nat} (hl : l.length = 32) (hm : Lt 281474976710656 l) (hv : val 65536 l < 13407807929942597099574024998205846127479365820592393377723561443721764030073546976801874298166903427690031858186486050853753882811946569946433649006084096) : (rfold_it1 l 4).length = 32 ∧ Lt 2621440 (rfold_it1 l 4) ∧ (∀ j, 16 ≤ j → (rfold_it1 l 4).getD j 0 = 0) ∧ val 65536 (rfold_it1 l 4) < 115792089237316195423570985008687907853269984665640564039457584007913129639936 ∧ val 65536 (rfold_it1 l 4) % 57896044618658097711785492504343953926634992332820282019728792003956564819949 = val 65536 l % 57896044618658097711785492504343953926634992332820282019728792003956564819949 := by
  rw [rfold_it1_s, rfold_it1_s, rfold_it1_s, rfold_it1_s, rfold_it1_z]
  unfold rfold_s1
  obtain ⟨a1, a2, a3, a4⟩ := fold_round hl hm hv
  generalize rfold_it3 l 16 = m1 at *
  obtain ⟨b1, b2, b3, b4⟩ := fold_round a1 (a2.mono (by decide)) (by omega)
  generalize rfold_it3 m1 16 = m2 at *
  obtain ⟨c1, c2, c3, c4⟩ := fold_round b1 (b2.mono (by decide)) (by omega)
  generalize rfold_it3 m2 16 = m3 at *
  obtain ⟨d1, d2, d3, d4⟩ := fold_round c1 (c2.mono (by decide)) (by omega)
  generalize rfold_it3 m3 16 = m4 at *
  refine ⟨d1, d2, d3, by omega, ?_⟩
  have e : val 65536 m4 + (2 * (val 65536 m3 / 115792089237316195423570985008687907853269984665640564039457584007913129639936) + 2 * (val 65536 m2 / 115792089237316195423570985008687907853269984665640564039457584007913129639936) + 2 * (val 65536 m1 / 115792089237316195423570985008687907853269984665640564039457584007913129639936) + 2 * (val 65536 l / 115792089237316195423570985008687907853269984665640564039457584007913129639936)) * 57896044618658097711785492504343953926634992332820282019728792003956564819949 = val 65536 l := by omega
  rw [← e, Nat.add_mul_mod_self_right]
theorem fold_last {l : List Nat} (hm : Lt 2621440 (rfold_it1 l 4)) (hl : (rfold_it1 l 4).length = 32) : ∀ i, i ≤ 16 → (rfold_it4 l i).1 < 2621440 ∧ (rfold_it4 l i).2.length = 16 ∧ (∀ j, i ≤ j → (rfold_it4 l i).2.getD j 0 = 0) ∧
    val 65536 (rfold_it4 l i).2 + 65536 ^ i * (rfold_it4 l i).1 = val 65536 ((rfold_it1 l 4).take i)
  | 0, _ => ⟨by rw [rfold_it4_z]; show 0 < 2621440; decide, rfl, fun j _ => rep_getD 16 j, by rw [rfold_it4_z]; simp [val, val_replicate]⟩
  | i + 1, hi => by
    obtain ⟨h1, h2, h3, h4⟩ := fold_last hm hl i (by omega)
    have hmi := hm i
    have h3i := h3 i (Nat.le_refl i)
    rw [rfold_it4_s, val_take_succ (by omega)]
    unfold rfold_s4
    dsimp only
    generalize (rfold_it4 l i).1 = c at *
    generalize (rfold_it4 l i).2 = o at *
    generalize rfold_it1 l 4 = m at *
    rw [show (m.getD i 0 + c) % 18446744073709551616 = m.getD i 0 + c by omega]
    refine ⟨by omega, by rw [List.length_set]; exact h2, fun j hj => ?_, ?_⟩
    · rw [Fx.getD_set_ne (by omega)]; exact h3 j (by omega)
    · have hs := carry_set (B := 65536) (m := o) (i := i) (x := m.getD i 0 + c) (by omega)
      rw [Nat.mul_add, h3i, Nat.mul_zero, Nat.add_zero] at hs
      omega
theorem rfold_it (l : List Nat) : rfold l = rfold_it5 l (val 65536 (rfold_it4 l 16).2 / 57896044618658097711785492504343953926634992332820282019728792003956564819949) := by unfold rfold; rfl
theorem rfold_val {l : List Nat} (hl : l.length = 32) (hm : Lt 281474976710656 l) (hv : val 65536 l < 13407807929942597099574024998205846127479365820592393377723561443721764030073546976801874298166903427690031858186486050853753882811946569946433649006084096) : rfold l = digs 65536 16 (val 65536 l % 57896044618658097711785492504343953926634992332820282019728792003956564819949) := by
  obtain ⟨a1, a2, a3, a4, a5⟩ := fold_four hl hm hv
  obtain ⟨b1, b2, b3, b4⟩ := fold_last a2 a1 16 (Nat.le_refl _)
  rw [← val_drop_zero a3, show (65536 : Nat) ^ 16 = 115792089237316195423570985008687907853269984665640564039457584007913129639936 from rfl] at b4
  have b5 : val 65536 (rfold_it4 l 16).2 = val 65536 (rfold_it1 l 4) := by omega
  obtain ⟨c1, c2, c3⟩ := rfold_o l (val 65536 (rfold_it4 l 16).2 / 57896044618658097711785492504343953926634992332820282019728792003956564819949) (Nat.le_refl _)
  rw [rfold_it]
  refine (eq_digs (by decide) c1 c2).trans (congrArg (digs 65536 16) ?_)
  rw [← a5, ← b5]
  generalize val 65536 (rfold_it4 l 16).2 = v at *
  generalize val 65536 (rfold_it5 l (v / 57896044618658097711785492504343953926634992332820282019728792003956564819949)) = r at *
  have := Nat.div_add_mod v 57896044618658097711785492504343953926634992332820282019728792003956564819949
  omega
/-- The digits of a number of the field. -/
def nk (x : K) : List Nat := digs 65536 16 x.val
theorem nk_val (x : K) : val 65536 (nk x) = x.val := by
  unfold nk
  rw [val_digs (by decide)]
  exact Nat.mod_eq_of_lt (Nat.lt_trans x.isLt (by decide))
theorem nk_len (x : K) : (nk x).length = 16 := digs_len _ _ _
theorem nk_lt (x : K) : Lt 65536 (nk x) := digs_lt (by decide) _ _
theorem nk_inj {x y : K} : nk x = nk y ↔ x = y := by
  constructor
  · intro h
    exact Fin.ext ((nk_val x).symm.trans ((congrArg (val 65536) h).trans (nk_val y)))
  · intro h; rw [h]
theorem nk_zero : List.replicate 16 0 = nk 0 := by decide +kernel
theorem fold_nk {l : List Nat} (hl : l.length = 32) (hm : Lt 281474976710656 l) (hv : val 65536 l < 13407807929942597099574024998205846127479365820592393377723561443721764030073546976801874298166903427690031858186486050853753882811946569946433649006084096) : rfold l = nk (kof (val 65536 l)) := rfold_val hl hm hv
end Go.Proofs.Ytnfiiclmbiiokaa
