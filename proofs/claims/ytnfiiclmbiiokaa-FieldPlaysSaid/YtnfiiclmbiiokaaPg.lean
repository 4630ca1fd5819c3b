/-
  Plain: the document's numbers: sums, products, powers, roots.
-/
import Derived.Test.YtnfiiclmbiiokaaPf
namespace Go.Proofs.Ytnfiiclmbiiokaa
open Go Go.Fx
set_option linter.unusedVariables false
set_option linter.unusedSimpArgs false
theorem rof_val {n : Nat} (h : n < 4294967296) : rof n = nk (kof n) := by
  have e : rof n = rfold ([n % 65536, n / 65536 % 65536] ++ List.replicate 30 0) := by unfold rof; rfl
  have hv : val 65536 ([n % 65536, n / 65536 % 65536] ++ List.replicate 30 0) = n := by
    rw [val_append, val_replicate]
    simp only [val, Nat.mul_zero, Nat.add_zero]
    omega
  rw [e, fold_nk rfl (((Lt.of_mem (by decide) (by intro x hx; simp only [List.mem_cons, List.not_mem_nil, or_false] at hx; omega)).append (Lt.replicate (by decide)))) (by rw [hv]; omega), hv]
theorem val_fill {B : Nat} {o : List Nat} {i v : Nat} (hi : i < o.length) (h0 : o.getD i 0 = 0) : val B (o.set i v) = val B o + B ^ i * v := by
  have := val_set (B := B) (xs := o) (i := i) (v := v) hi
  rw [h0, Nat.mul_zero] at this
  omega
theorem rload_key {b : List Nat} (hl : b.length = 32) (hb : Lt 256 b) : ∀ i, i ≤ 16 → (rload_it1 b i).length = 32 ∧ Lt 281474976710656 (rload_it1 b i) ∧ (∀ j, i ≤ j → (rload_it1 b i).getD j 0 = 0) ∧ val 65536 (rload_it1 b i) = val 256 (b.take (2 * i))
  | 0, _ => ⟨rfl, Lt.replicate (by decide), fun j _ => rep_getD 32 j, by rw [rload_it1_z, val_replicate]; rfl⟩
  | i + 1, hi => by
    obtain ⟨h1, h2, h3, h4⟩ := rload_key hl hb i (by omega)
    have b1 := hb (2 * i)
    have b2 := hb (2 * i + 1)
    rw [rload_it1_s]
    unfold rload_s1
    dsimp only
    rw [show (b.getD (2 * i) 0 + 256 * b.getD (2 * i + 1) 0 % 18446744073709551616) % 18446744073709551616 = b.getD (2 * i) 0 + 256 * b.getD (2 * i + 1) 0 by omega]
    refine ⟨by rw [List.length_set]; exact h1, h2.set (by omega), fun j hj => by rw [Fx.getD_set_ne (by omega)]; exact h3 j (by omega), ?_⟩
    rw [val_fill (by omega) (h3 i (Nat.le_refl i)), h4, show 2 * (i + 1) = 2 * i + 1 + 1 by omega, val_take_succ (by omega), val_take_succ (by omega), Nat.pow_succ, show (65536 : Nat) = 256 ^ 2 from rfl, ← Nat.pow_mul, Nat.mul_add, Nat.mul_assoc]
    omega
theorem val256_lt {b : List Nat} (hl : b.length = 32) (hb : Lt 256 b) : val 256 b < 115792089237316195423570985008687907853269984665640564039457584007913129639936 := by
  have := hb.val_lt
  rw [hl] at this
  exact this
theorem rload_val {b : List Nat} (hl : b.length = 32) (hb : Lt 256 b) : rload b = nk (kof (val 256 b)) := by
  obtain ⟨h1, h2, _, h4⟩ := rload_key hl hb 16 (Nat.le_refl _)
  have h5 := val256_lt hl hb
  rw [show 2 * 16 = 32 from rfl, List.take_of_length_le (by omega)] at h4
  have e : rload b = rfold (rload_it1 b 16) := by unfold rload; rfl
  rw [e, fold_nk h1 h2 (by omega), h4]
theorem rbytes_key {a : List Nat} (hl : a.length = 16) (ha : Lt 65536 a) : ∀ i, i ≤ 16 → (rbytes_it1 a i).length = 32 ∧ Lt 256 (rbytes_it1 a i) ∧ (∀ j, 2 * i ≤ j → (rbytes_it1 a i).getD j 0 = 0) ∧ val 256 (rbytes_it1 a i) = val 65536 (a.take i)
  | 0, _ => ⟨rfl, Lt.replicate (by decide), fun j _ => rep_getD 32 j, by rw [rbytes_it1_z, val_replicate]; rfl⟩
  | i + 1, hi => by
    obtain ⟨h1, h2, h3, h4⟩ := rbytes_key hl ha i (by omega)
    have b1 := ha i
    rw [rbytes_it1_s]
    unfold rbytes_s1
    dsimp only
    refine ⟨by rw [List.length_set, List.length_set]; exact h1, (h2.set (Nat.mod_lt _ (by decide))).set (Nat.mod_lt _ (by decide)), fun j hj => by rw [Fx.getD_set_ne (by omega), Fx.getD_set_ne (by omega)]; exact h3 j (by omega), ?_⟩
    rw [val_fill (by rw [List.length_set]; omega) (by rw [Fx.getD_set_ne (by omega)]; exact h3 _ (by omega)), val_fill (by omega) (h3 _ (Nat.le_refl _)), h4, val_take_succ (by omega), Nat.pow_succ, show (65536 : Nat) = 256 ^ 2 from rfl, ← Nat.pow_mul, Nat.mul_assoc, Nat.add_assoc, ← Nat.mul_add]
    congr 2
    omega
theorem rbytes_val (x : K) : rbytes (nk x) = digs 256 32 x.val := by
  obtain ⟨h1, h2, _, h4⟩ := rbytes_key (nk_len x) (nk_lt x) 16 (Nat.le_refl _)
  have e : rbytes (nk x) = rbytes_it1 (nk x) 16 := by unfold rbytes; rfl
  rw [List.take_of_length_le (by rw [nk_len]; omega), nk_val] at h4
  rw [e, eq_digs (by decide) h2 h1, h4]
theorem radd_key {a b : List Nat} (hl : a.length = 16) (hl' : b.length = 16) (ha : Lt 65536 a) (hb : Lt 65536 b) : ∀ i, i ≤ 16 → (radd_it1 a b i).length = 32 ∧ Lt 281474976710656 (radd_it1 a b i) ∧ (∀ j, i ≤ j → (radd_it1 a b i).getD j 0 = 0) ∧ val 65536 (radd_it1 a b i) = val 65536 (a.take i) + val 65536 (b.take i)
  | 0, _ => ⟨rfl, Lt.replicate (by decide), fun j _ => rep_getD 32 j, by rw [radd_it1_z, val_replicate]; rfl⟩
  | i + 1, hi => by
    obtain ⟨h1, h2, h3, h4⟩ := radd_key hl hl' ha hb i (by omega)
    have b1 := ha i
    have b2 := hb i
    rw [radd_it1_s]
    unfold radd_s1
    dsimp only
    rw [show (a.getD i 0 + b.getD i 0) % 18446744073709551616 = a.getD i 0 + b.getD i 0 by omega]
    refine ⟨by rw [List.length_set]; exact h1, h2.set (by omega), fun j hj => by rw [Fx.getD_set_ne (by omega)]; exact h3 j (by omega), ?_⟩
    rw [val_fill (by omega) (h3 i (Nat.le_refl i)), h4, val_take_succ (by omega), val_take_succ (by omega), Nat.mul_add]
    omega
theorem v16_lt {a : List Nat} (hl : a.length = 16) (ha : Lt 65536 a) : val 65536 a < 115792089237316195423570985008687907853269984665640564039457584007913129639936 := by
  have := ha.val_lt
  rw [hl] at this
  exact this
theorem radd_gen {a b : List Nat} (hl : a.length = 16) (hl' : b.length = 16) (ha : Lt 65536 a) (hb : Lt 65536 b) : radd a b = nk (kof (val 65536 a) + kof (val 65536 b)) := by
  obtain ⟨h1, h2, _, h4⟩ := radd_key hl hl' ha hb 16 (Nat.le_refl _)
  have v1 := v16_lt hl ha
  have v2 := v16_lt hl' hb
  rw [List.take_of_length_le (by omega), List.take_of_length_le (by omega)] at h4
  have e : radd a b = rfold (radd_it1 a b 16) := by unfold radd; rfl
  rw [e, fold_nk h1 h2 (by omega), h4, kof_add]
theorem radd_val (x y : K) : radd (nk x) (nk y) = nk (x + y) := by
  rw [radd_gen (nk_len x) (nk_len y) (nk_lt x) (nk_lt y), nk_val, nk_val, kof_of, kof_of]
theorem rsub_val (x y : K) : rsub (nk x) (nk y) = nk (x - y) := by
  have h1 := rless_val rP_len (nk_len y) rP_lt (nk_lt y) (by rw [rP_val, nk_val]; exact Nat.le_of_lt y.isLt)
  have e : rsub (nk x) (nk y) = radd (nk x) (rless rP (nk y)) := by unfold rsub; rfl
  have h2 : kof (57896044618658097711785492504343953926634992332820282019728792003956564819949 - y.val) = kof 57896044618658097711785492504343953926634992332820282019728792003956564819949 - kof y.val := kof_sub (by have := y.isLt; omega)
  have h3 : kof 57896044618658097711785492504343953926634992332820282019728792003956564819949 = 0 := kof_eq0.2 (Nat.dvd_refl _)
  rw [nk_val, rP_val] at h1
  refine (e.trans (radd_gen (nk_len x) (rless_len _ _ rP_len (nk_len y)) (nk_lt x) (rless_lt rP_len (nk_len y) rP_lt (nk_lt y)))).trans (congrArg nk ?_)
  rw [h1, h2, h3, nk_val, kof_of x, kof_of y]
  grind
theorem rmul_in {a b : List Nat} (hl : a.length = 16) (hl' : b.length = 16) (ha : Lt 65536 a) (hb : Lt 65536 b) {i : Nat} (hi : i < 16) {m : List Nat} {B : Nat} (lm : m.length = 32) (hm : Lt B m) (hB : B ≤ 281474976710656) :
    ∀ k, k ≤ 16 → (rmul_it2 a b i m k).length = 32 ∧ Lt (B + k * 4294967296) (rmul_it2 a b i m k) ∧ val 65536 (rmul_it2 a b i m k) = val 65536 m + 65536 ^ i * (a.getD i 0 * val 65536 (b.take k))
  | 0, _ => ⟨lm, by rw [rmul_it2_z, Nat.zero_mul, Nat.add_zero]; exact hm, by rw [rmul_it2_z, List.take_zero, val_nil, Nat.mul_zero, Nat.mul_zero, Nat.add_zero]⟩
  | k + 1, hk => by
    obtain ⟨h1, h2, h3⟩ := rmul_in hl hl' ha hb hi lm hm hB k (by omega)
    have b1 := ha i
    have b2 := hb k
    have hp : a.getD i 0 * b.getD k 0 < 4294967296 := by
      have := Nat.mul_le_mul (show a.getD i 0 ≤ 65535 by omega) (show b.getD k 0 ≤ 65535 by omega)
      omega
    have h2i := h2 (i + k)
    rw [rmul_it2_s]
    unfold rmul_s2
    dsimp only
    generalize rmul_it2 a b i m k = o at *
    rw [show (o.getD (i + k) 0 + a.getD i 0 * b.getD k 0 % 18446744073709551616) % 18446744073709551616 = o.getD (i + k) 0 + a.getD i 0 * b.getD k 0 by omega]
    refine ⟨by rw [List.length_set]; exact h1, (h2.mono (by omega)).set (by omega), ?_⟩
    have hs := val_set (B := 65536) (xs := o) (i := i + k) (v := o.getD (i + k) 0 + a.getD i 0 * b.getD k 0) (by omega)
    rw [Nat.mul_add] at hs
    rw [val_take_succ (by omega), Nat.mul_add, Nat.mul_add, Nat.mul_left_comm (a.getD i 0), ← Nat.mul_assoc (65536 ^ i) (65536 ^ k), ← Nat.pow_add]
    omega
theorem rmul_out {a b : List Nat} (hl : a.length = 16) (hl' : b.length = 16) (ha : Lt 65536 a) (hb : Lt 65536 b) : ∀ i, i ≤ 16 → (rmul_it1 a b i).length = 32 ∧ Lt (1 + i * 68719476736) (rmul_it1 a b i) ∧ val 65536 (rmul_it1 a b i) = val 65536 (a.take i) * val 65536 b
  | 0, _ => ⟨rfl, by rw [rmul_it1_z]; exact Lt.replicate (by decide), by rw [rmul_it1_z, val_replicate, List.take_zero, val_nil, Nat.zero_mul]⟩
  | i + 1, hi => by
    obtain ⟨h1, h2, h3⟩ := rmul_out hl hl' ha hb i (by omega)
    obtain ⟨g1, g2, g3⟩ := rmul_in hl hl' ha hb (show i < 16 by omega) h1 h2 (by omega) 16 (Nat.le_refl _)
    rw [rmul_it1_s]
    unfold rmul_s1
    refine ⟨g1, g2.mono (by omega), ?_⟩
    rw [g3, h3, List.take_of_length_le (l := b) (by omega), val_take_succ (by omega), Nat.add_mul, Nat.mul_assoc]
theorem rmul_gen {a b : List Nat} (hl : a.length = 16) (hl' : b.length = 16) (ha : Lt 65536 a) (hb : Lt 65536 b) : rmul a b = nk (kof (val 65536 a) * kof (val 65536 b)) := by
  obtain ⟨h1, h2, h4⟩ := rmul_out hl hl' ha hb 16 (Nat.le_refl _)
  have v1 := v16_lt hl ha
  have v2 := v16_lt hl' hb
  rw [List.take_of_length_le (l := a) (by omega)] at h4
  have e : rmul a b = rfold (rmul_it1 a b 16) := by unfold rmul; rfl
  have hb2 : val 65536 a * val 65536 b < 13407807929942597099574024998205846127479365820592393377723561443721764030073546976801874298166903427690031858186486050853753882811946569946433649006084096 := Nat.mul_lt_mul_of_lt_of_lt (c := 115792089237316195423570985008687907853269984665640564039457584007913129639936) (d := 115792089237316195423570985008687907853269984665640564039457584007913129639936) v1 v2
  rw [e, fold_nk h1 (h2.mono (by decide)) (by rw [h4]; exact hb2), h4, kof_mul]
theorem rmul_val (x y : K) : rmul (nk x) (nk y) = nk (x * y) := by
  rw [rmul_gen (nk_len x) (nk_len y) (nk_lt x) (nk_lt y), nk_val, nk_val, kof_of, kof_of]
theorem rpow_key (x : K) {e : List Nat} (he : Lt 65536 e) (hl : e.length = 16) : ∀ i, i ≤ 256 → rpow_it1 (nk x) e i = nk (kp x (val 65536 e / 2 ^ (256 - i)))
  | 0, _ => by
    have := v16_lt hl he
    rw [rpow_it1_z, rof_val (by decide), show 256 - 0 = 256 from rfl, show (2 : Nat) ^ 256 = 115792089237316195423570985008687907853269984665640564039457584007913129639936 from rfl, Nat.div_eq_of_lt this, kp_zero, kof_one]
  | i + 1, hi => by
    have ih := rpow_key x he hl i (by omega)
    have g := val_group (B := 2) (k := 16) (by decide) (by decide) e (256 - 1 - i) he
    rw [show (2 : Nat) ^ 16 = 65536 from rfl] at g
    rw [rpow_it1_s, ih]
    unfold rpow_s1
    dsimp only
    rw [show (256 - 1 - i) % 16 % 18446744073709551616 = (256 - 1 - i) % 16 by omega, show (1 : Nat) = 2 ^ 1 - 1 from rfl, Nat.and_two_pow_sub_one_eq_mod, show (2 : Nat) ^ 1 = 2 from rfl, ← g, rmul_val]
    have hd : val 65536 e / 2 ^ (256 - i) = val 65536 e / 2 ^ (256 - 1 - i) / 2 := by
      rw [show 256 - i = (256 - 1 - i) + 1 by omega, Nat.pow_succ, Nat.div_div_eq_div_mul]
    rw [hd, show 256 - (i + 1) = 256 - 1 - i by omega]
    generalize val 65536 e / 2 ^ (256 - 1 - i) = q
    split
    · rename_i h
      rw [rmul_val]
      congr 1
      rw [← kp_add, ← kp_succ]
      congr 1
      omega
    · rename_i h
      congr 1
      rw [← kp_add]
      congr 1
      have : q % 2 = 0 := by
        have h2 : ¬ q % 2 = 1 := h
        omega
      omega
theorem rpow_val (x : K) {e : List Nat} (he : Lt 65536 e) (hl : e.length = 16) {n : Nat} (hn : val 65536 e = n) : rpow (nk x) e = nk (kp x n) := by
  have e1 : rpow (nk x) e = rpow_it1 (nk x) e 256 := by unfold rpow; rfl
  rw [e1, rpow_key x he hl 256 (Nat.le_refl _), Nat.sub_self, Nat.pow_zero, Nat.div_one, hn]
theorem rinv_val (x : K) : rinv (nk x) = nk (ki x) := by
  have h2l : Lt 65536 ((List.replicate 16 0).set 0 2) := Lt.of_mem (by decide) (by decide)
  have hv : val 65536 ((List.replicate 16 0).set 0 2) = 2 := by decide
  have h1 := rless_val rP_len (y := (List.replicate 16 0).set 0 2) (by decide) rP_lt h2l (by rw [rP_val, hv]; decide)
  have e : rinv (nk x) = rpow (nk x) (rless rP ((List.replicate 16 0).set 0 2)) := by unfold rinv; rfl
  rw [e]
  unfold ki
  exact rpow_val x (rless_lt rP_len (by decide) rP_lt h2l) (rless_len _ _ rP_len (by decide)) (by rw [h1, rP_val, hv])
theorem rroot_e : rroot_it1 3 = digs 65536 16 7237005577332262213973186563042994240829374041602535252466099000494570602494 := by unfold rroot_it1 rroot_s1 rhalf; decide +kernel
theorem rroot_val (x : K) : rroot (nk x) = nk (kr1 x) := by
  have e : rroot (nk x) = rpow (nk x) (rroot_it1 3) := by unfold rroot; rfl
  rw [e, rroot_e]
  unfold kr1
  exact rpow_val x (digs_lt (by decide) _ _) (digs_len _ _ _) (by rw [val_digs (by decide)])
theorem rquart : rhalf (rhalf (rP.set 0 (((rP.getD 0 0) + (18446744073709551616 - 1)) % 18446744073709551616))) = digs 65536 16 14474011154664524427946373126085988481658748083205070504932198000989141204987 := by unfold rhalf; decide +kernel
theorem rquart_val : rpow (rof 2) (rhalf (rhalf (rP.set 0 (((rP.getD 0 0) + (18446744073709551616 - 1)) % 18446744073709551616)))) = nk kI := by
  rw [rquart, rof_val (by decide)]
  exact rpow_val (kof 2) (digs_lt (by decide) _ _) (digs_len _ _ _) (by rw [val_digs (by decide)])
theorem rrq_val (u v : K) : rrq (nk u) (nk v) = nk (u * ki v) := by
  unfold rrq
  rw [rinv_val, rmul_val]
theorem rrt_val (u v : K) : rrt (nk u) (nk v) = nk (kr1 (u * ki v)) := by
  unfold rrt
  rw [rrq_val, rroot_val]
theorem rrt2_val (u v : K) : rrt2 (nk u) (nk v) = nk (kr2 (u * ki v)) := by
  unfold rrt2 kr2
  rw [rrt_val, rrq_val, rquart_val, rmul_val, rmul_val]
  by_cases h : kr1 (u * ki v) * kr1 (u * ki v) = u * ki v
  · rw [if_pos h, if_neg (by rw [h]; simp)]
  · rw [if_neg h, if_pos (fun k => h (nk_inj.1 k))]
theorem nk_odd (x : K) : (nk x).getD 0 0 % 2 = x.val % 2 := by
  unfold nk
  rw [digs_getD (by decide), Nat.pow_zero, Nat.div_one]
  omega
theorem rrt3_val (u v : K) : rrt3 (nk u) (nk v) = nk (kodd (kr2 (u * ki v))) := by
  unfold rrt3 kodd
  rw [rrt2_val, nk_odd, nk_zero, rsub_val]
  by_cases h : (kr2 (u * ki v)).val % 2 = 1
  · rw [if_pos h, if_pos h]
    refine congrArg nk ?_
    generalize kr2 (u * ki v) = r
    grind
  · rw [if_neg h, if_neg h]
theorem rratio_val (u v : K) : rratio (nk u) (nk v) = (nk (kratio u v).1, (kratio u v).2) := by
  unfold rratio kratio
  rw [nk_zero, rrt2_val, rmul_val, rrq_val, rrt3_val]
  by_cases hu : u = 0
  · rw [if_pos (by rw [hu]), if_pos hu]
  · rw [if_neg (fun k => hu (nk_inj.1 k)), if_neg hu]
    by_cases hv : v = 0
    · rw [if_pos (by rw [hv]), if_pos hv]
    · rw [if_neg (fun k => hv (nk_inj.1 k)), if_neg hv]
      by_cases h : kr2 (u * ki v) * kr2 (u * ki v) = u * ki v
      · rw [if_neg (by rw [h]; simp), if_pos h]
      · rw [if_pos (fun k => h (nk_inj.1 k)), if_neg h]
end Go.Proofs.Ytnfiiclmbiiokaa
