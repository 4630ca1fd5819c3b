/-
  Plain: the field's laws, and which quotients have roots.
-/
import Derived.Test.YtnfiiclmbiiokaaPh
namespace Go.Proofs.Ytnfiiclmbiiokaa
open Go Go.Fx
set_option linter.unusedVariables false
set_option linter.unusedSimpArgs false
theorem bool_fc (b : Bool) : b = false ∨ b = true := by cases b <;> simp
theorem same_of {x y : List Nat} {u v : K} (hx : Fe x ∧ kv x = u) (hy : Fe y ∧ kv y = v) (h : u = v) : same x y = true := by
  rw [same_val hx.1 hy.1, hx.2, hy.2]
  exact decide_eq_true h
theorem same_iff {x y : List Nat} {u v : K} (hx : Fe x ∧ kv x = u) (hy : Fe y ∧ kv y = v) : same x y = true ↔ u = v := by
  rw [same_val hx.1 hy.1, hx.2, hy.2]
  exact decide_eq_true_iff
theorem same_iff' {x y : List Nat} {u v : K} (hx : Fe x ∧ kv x = u) (hy : Fe y ∧ kv y = v) : same x y = false ↔ u ≠ v := by
  rw [same_val hx.1 hy.1, hx.2, hy.2]
  exact decide_eq_false_iff_not
theorem vadd {x y : List Nat} {u v : K} (hx : Fe x ∧ kv x = u) (hy : Fe y ∧ kv y = v) : Fe (add x y) ∧ kv (add x y) = u + v := by
  obtain ⟨h1, h2⟩ := add_val hx.1 hy.1
  exact ⟨h1, by rw [h2, hx.2, hy.2]⟩
theorem vsub {x y : List Nat} {u v : K} (hx : Fe x ∧ kv x = u) (hy : Fe y ∧ kv y = v) : Fe (sub x y) ∧ kv (sub x y) = u - v := by
  obtain ⟨h1, h2⟩ := sub_val hx.1 hy.1
  exact ⟨h1, by rw [h2, hx.2, hy.2]⟩
theorem vmul {x y : List Nat} {u v : K} (hx : Fe x ∧ kv x = u) (hy : Fe y ∧ kv y = v) : Fe (mul x y) ∧ kv (mul x y) = u * v := by
  obtain ⟨h1, h2⟩ := mul_val hx.1 hy.1
  exact ⟨h1, by rw [h2, hx.2, hy.2]⟩
theorem vsqr {x : List Nat} {u : K} (hx : Fe x ∧ kv x = u) : Fe (sqr x) ∧ kv (sqr x) = u * u := by
  obtain ⟨h1, h2⟩ := sqr_val hx.1
  exact ⟨h1, by rw [h2, hx.2]⟩
theorem vneg {x : List Nat} {u : K} (hx : Fe x ∧ kv x = u) : Fe (neg x) ∧ kv (neg x) = -u := by
  obtain ⟨h1, h2⟩ := neg_val hx.1
  exact ⟨h1, by rw [h2, hx.2]⟩
theorem vinv {x : List Nat} {u : K} (hx : Fe x ∧ kv x = u) : Fe (inv x) ∧ kv (inv x) = ki u := by
  obtain ⟨h1, h2⟩ := inv_val hx.1
  exact ⟨h1, by rw [h2, hx.2]⟩
theorem vzero : Fe (List.replicate 5 0) ∧ kv (List.replicate 5 0) = 0 := ⟨fe_zero, kv_zero⟩
theorem vratio {x y : List Nat} {u v : K} (hx : Fe x ∧ kv x = u) (hy : Fe y ∧ kv y = v) : (Fe (ratio x y).1 ∧ kv (ratio x y).1 = (kratio u v).1) ∧ (ratio x y).2 = (kratio u v).2 := by
  obtain ⟨h1, h2, h3⟩ := ratio_val hx.1 hy.1
  rw [pratio_eq, hx.2, hy.2] at h2 h3
  exact ⟨⟨h1, h2⟩, h3⟩
/-! ### FieldRing -/
theorem ring4 {a : List Nat} (hl : a.length = 32) (ha : Lt 256 a) (h : ¬ same (mul (load a) (inv (load a))) (fof 1) = true) : ko a = 0 := by
  have hx := ld hl ha
  rw [same_iff (vmul hx (vinv hx)) (fof_val (by decide)), kof_one] at h
  apply Classical.byContradiction
  intro h0
  exact h (ki_mul h0)
theorem ring4a {a : List Nat} (hl : a.length = 32) (ha : Lt 256 a) (h : ¬ same (mul (load a) (inv (load a))) (fof 1) = true) : same (load a) (List.replicate 5 0) = true :=
  same_of (ld hl ha) vzero (ring4 hl ha h)
theorem ring4b {a : List Nat} (hl : a.length = 32) (ha : Lt 256 a) (h : ¬ same (mul (load a) (inv (load a))) (fof 1) = true) : same (inv (load a)) (List.replicate 5 0) = true :=
  same_of (vinv (ld hl ha)) vzero (by rw [ring4 hl ha h]; exact ki_zero)
/-! ### FieldRoots -/
theorem kone : (1 : K) ≠ -1 := k_ne (by decide +kernel)
theorem ksq1 {c : K} (h : c * c = 1) : c = 1 ∨ c = -1 := by
  have h1 : (c - 1) * (c + 1) = 0 := by grind
  rcases k_int h1 with k | k
  · left; grind
  · right; grind
theorem ksq {x y : K} (h : x * x = y * y) : x = y ∨ x = -y := by
  have h1 : (x - y) * (x + y) = 0 := by grind
  rcases k_int h1 with k | k
  · left; grind
  · right; grind
theorem kr1_sq (q : K) : kr1 q * kr1 q = q * kp q 14474011154664524427946373126085988481658748083205070504932198000989141204987 := by
  unfold kr1
  have h : kp q (14474011154664524427946373126085988481658748083205070504932198000989141204987 + 1) = kp q 14474011154664524427946373126085988481658748083205070504932198000989141204987 * q := kp_succ q 14474011154664524427946373126085988481658748083205070504932198000989141204987
  have e : kp q 7237005577332262213973186563042994240829374041602535252466099000494570602494 * kp q 7237005577332262213973186563042994240829374041602535252466099000494570602494 = kp q (14474011154664524427946373126085988481658748083205070504932198000989141204987 + 1) := by
    rw [← kp_add]
  rw [e, h]
  generalize kp q 14474011154664524427946373126085988481658748083205070504932198000989141204987 = z
  grind
/-- A quotient has a root just if its power is 1. -/
theorem kroot {q : K} (hq : q ≠ 0) : kr2 q * kr2 q = q ↔ kp q 14474011154664524427946373126085988481658748083205070504932198000989141204987 * kp q 14474011154664524427946373126085988481658748083205070504932198000989141204987 = 1 := by
  have hs := kr1_sq q
  have hI := kI_sq
  unfold kr2
  generalize kr1 q = r at *
  generalize kp q 14474011154664524427946373126085988481658748083205070504932198000989141204987 = c at *
  by_cases h : r * r = q
  · rw [if_pos h]
    have hc : c = 1 := k_cancel hq (by rw [← hs, h]; grind)
    constructor
    · intro _; rw [hc]; rfl
    · intro _; exact h
  · rw [if_neg h]
    constructor
    · intro k
      have h2 : q * c = q * (-1) := by grind
      have hc : c = -1 := k_cancel hq h2
      rw [hc]
      decide +kernel
    · intro k
      rcases ksq1 k with k1 | k1
      · exact absurd (by rw [hs, k1]; grind) h
      · rw [k1] at hs
        grind
theorem kpow4 {q : K} (hq : q ≠ 0) : kp q 14474011154664524427946373126085988481658748083205070504932198000989141204987 * kp q 14474011154664524427946373126085988481658748083205070504932198000989141204987 = 1 ∨ kp q 14474011154664524427946373126085988481658748083205070504932198000989141204987 * kp q 14474011154664524427946373126085988481658748083205070504932198000989141204987 = -1 := by
  apply ksq1
  have h := kp_fermat hq
  have e : kp q 14474011154664524427946373126085988481658748083205070504932198000989141204987 * kp q 14474011154664524427946373126085988481658748083205070504932198000989141204987 * (kp q 14474011154664524427946373126085988481658748083205070504932198000989141204987 * kp q 14474011154664524427946373126085988481658748083205070504932198000989141204987) = kp q 57896044618658097711785492504343953926634992332820282019728792003956564819948 := by rw [← kp_add, ← kp_add]
  exact e.trans h
theorem kpow2 : kp 2 14474011154664524427946373126085988481658748083205070504932198000989141204987 * kp 2 14474011154664524427946373126085988481658748083205070504932198000989141204987 = -1 := kI_sq
theorem kmul_ne {x y : K} (hx : x ≠ 0) (hy : y ≠ 0) : x * y ≠ 0 := fun h => (k_int h).elim hx hy
theorem ki_ne {x : K} (hx : x ≠ 0) : ki x ≠ 0 := fun h => by
  have := ki_mul hx
  rw [h] at this
  exact absurd this (by intro k; have : (0 : K) = 1 := by grind
                        exact k_ne (x := 0) (y := 1) (by decide +kernel) this)
theorem kratio_is {u v : K} (hu : u ≠ 0) (hv : v ≠ 0) : (kratio u v).2 = true ↔ kp (u * ki v) 14474011154664524427946373126085988481658748083205070504932198000989141204987 * kp (u * ki v) 14474011154664524427946373126085988481658748083205070504932198000989141204987 = 1 := by
  rw [← kroot (kmul_ne hu (ki_ne hv))]
  unfold kratio
  rw [if_neg hu, if_neg hv]
  by_cases h : kr2 (u * ki v) * kr2 (u * ki v) = u * ki v
  · rw [if_pos h]; exact ⟨fun _ => h, fun _ => rfl⟩
  · rw [if_neg h]; exact ⟨fun k => (by cases k), fun k => absurd k h⟩
theorem kodd_sq (r : K) : kodd r * kodd r = r * r := by
  unfold kodd
  split
  · grind
  · rfl
theorem kneg_val {r : K} (h : r.val % 2 = 1) : (-r).val = 57896044618658097711785492504343953926634992332820282019728792003956564819949 - r.val := by
  have hr := r.isLt
  have h1 : kof (57896044618658097711785492504343953926634992332820282019728792003956564819949 - r.val) = -r := by
    have h2 : kof (57896044618658097711785492504343953926634992332820282019728792003956564819949 - r.val) = kof 57896044618658097711785492504343953926634992332820282019728792003956564819949 - kof r.val := kof_sub (by omega)
    have h3 : kof 57896044618658097711785492504343953926634992332820282019728792003956564819949 = 0 := kof_eq0.2 (Nat.dvd_refl _)
    rw [h2, h3, kof_of r]
    generalize r = z
    grind
  rw [← h1, kof_val]
  exact Nat.mod_eq_of_lt (by omega)
theorem kodd_even (r : K) : (kodd r).val % 2 = 0 := by
  unfold kodd
  split
  · rename_i h
    rw [kneg_val h]
    have := r.isLt
    generalize r.val = v at *
    omega
  · rename_i h
    generalize r.val = v at *
    omega
theorem kratio_sq {u v : K} (h : (kratio u v).2 = true) : v * ((kratio u v).1 * (kratio u v).1) = u := by
  unfold kratio at h ⊢
  by_cases hu : u = 0
  · rw [if_pos hu] at h ⊢; rw [hu]; grind
  · rw [if_neg hu] at h ⊢
    by_cases hv : v = 0
    · rw [if_pos hv] at h; cases h
    · rw [if_neg hv] at h ⊢
      by_cases hr : kr2 (u * ki v) * kr2 (u * ki v) = u * ki v
      · rw [if_pos hr]
        dsimp only
        rw [kodd_sq, hr]
        have := ki_mul hv
        grind
      · rw [if_neg hr] at h; cases h
theorem kratio_even (u v : K) : ((kratio u v).1).val % 2 = 0 := by
  unfold kratio
  by_cases hu : u = 0
  · rw [if_pos hu]; decide +kernel
  · rw [if_neg hu]
    by_cases hv : v = 0
    · rw [if_pos hv]; decide +kernel
    · rw [if_neg hv]
      by_cases hr : kr2 (u * ki v) * kr2 (u * ki v) = u * ki v
      · rw [if_pos hr]; exact kodd_even _
      · rw [if_neg hr]; decide +kernel
theorem kratio_none {u v : K} (h : (kratio u v).2 = false) : (kratio u v).1 = 0 := by
  unfold kratio at h ⊢
  by_cases hu : u = 0
  · rw [if_pos hu] at h; cases h
  · rw [if_neg hu] at h ⊢
    by_cases hv : v = 0
    · rw [if_pos hv]
    · rw [if_neg hv] at h ⊢
      by_cases hr : kr2 (u * ki v) * kr2 (u * ki v) = u * ki v
      · rw [if_pos hr] at h; cases h
      · rw [if_neg hr]
theorem kratio_zero (v : K) : (kratio 0 v).2 = true := by unfold kratio; rw [if_pos rfl]
theorem kratio_also (u v : K) : (kratio (u * u * v) v).2 = true := by
  by_cases hv : v = 0
  · rw [hv, show u * u * 0 = 0 by grind]; exact kratio_zero _
  · by_cases hu : u = 0
    · rw [hu, show (0 : K) * 0 * v = 0 by grind]; exact kratio_zero _
    · have h1 := kmul_ne (kmul_ne hu hu) hv
      rw [kratio_is h1 hv]
      have h2 := ki_mul hv
      have e : u * u * v * ki v = u * u := by grind
      rw [e, kp_mulb]
      rcases kpow4 hu with k | k
      · rw [k]; decide +kernel
      · rw [k]; decide +kernel
theorem kratio_back {u v : K} (hv : v ≠ 0) : (kratio (u * u * v) v).1 = u ∨ (kratio (u * u * v) v).1 = -u := by
  have h := kratio_sq (kratio_also u v)
  generalize (kratio (u * u * v) v).1 = s at *
  exact ksq (k_cancel hv (by rw [h]; grind))
theorem kratio_three {u v : K} (h1 : (kratio u v).2 = false) (h2 : (kratio (u + u) v).2 = false) : v = 0 := by
  apply Classical.byContradiction
  intro hv
  have hu : u ≠ 0 := by intro k; rw [k, kratio_zero] at h1; cases h1
  have hu2 : u + u ≠ 0 := fun k => hu (k_two k)
  have g1 : ¬ _ := fun k => by have := (kratio_is hu hv).2 k; rw [h1] at this; cases this
  have g2 : ¬ _ := fun k => by have := (kratio_is hu2 hv).2 k; rw [h2] at this; cases this
  have e : (u + u) * ki v = 2 * (u * ki v) := by grind
  rw [e, kp_mulb] at g2
  have h3 := kpow2
  rcases kpow4 (kmul_ne hu (ki_ne hv)) with k | k
  · exact g1 k
  · refine g2 ?_
    generalize kp (2 : K) 14474011154664524427946373126085988481658748083205070504932198000989141204987 = x at *
    generalize kp (u * ki v) 14474011154664524427946373126085988481658748083205070504932198000989141204987 = y at *
    grind
theorem kratio_both {u v : K} (h1 : (kratio u v).2 = true) (h2 : (kratio (u + u) v).2 = true) : u = 0 := by
  apply Classical.byContradiction
  intro hu
  have hu2 : u + u ≠ 0 := fun k => hu (k_two k)
  have hv : v ≠ 0 := by
    intro k
    unfold kratio at h1
    rw [if_neg hu, if_pos k] at h1
    cases h1
  have g1 := (kratio_is hu hv).1 h1
  have g2 := (kratio_is hu2 hv).1 h2
  have e : (u + u) * ki v = 2 * (u * ki v) := by grind
  rw [e, kp_mulb] at g2
  have h3 := kpow2
  generalize kp (2 : K) 14474011154664524427946373126085988481658748083205070504932198000989141204987 = x at *
  generalize kp (u * ki v) 14474011154664524427946373126085988481658748083205070504932198000989141204987 = y at *
  have : (1 : K) = -1 := by grind
  exact kone this
section
theorem ro_even {a b : List Nat} (hl : a.length = 32) (hl' : b.length = 32) (ha : Lt 256 a) (hb : Lt 256 b) : odd (ratio (load a) (load b)).1 = false := by
  obtain ⟨⟨h1, h2⟩, _⟩ := vratio (ld hl ha) (ld hl' hb)
  rw [odd_val h1, h2]
  have := kratio_even (ko a) (ko b)
  exact decide_eq_false (by omega)
theorem ro_sq {a b : List Nat} (hl : a.length = 32) (hl' : b.length = 32) (ha : Lt 256 a) (hb : Lt 256 b) (h : (ratio (load a) (load b)).2 = true) : same (mul (load b) (sqr (ratio (load a) (load b)).1)) (load a) = true := by
  obtain ⟨hr, h3⟩ := vratio (ld hl ha) (ld hl' hb)
  rw [h3] at h
  exact same_of (vmul (ld hl' hb) (vsqr hr)) (ld hl ha) (kratio_sq h)
theorem ro_none {a b : List Nat} (hl : a.length = 32) (hl' : b.length = 32) (ha : Lt 256 a) (hb : Lt 256 b) (h : (ratio (load a) (load b)).2 = false) : same (ratio (load a) (load b)).1 (List.replicate 5 0) = true := by
  obtain ⟨hr, h3⟩ := vratio (ld hl ha) (ld hl' hb)
  rw [h3] at h
  exact same_of hr vzero (kratio_none h)
theorem ro_also {a b : List Nat} (hl : a.length = 32) (hl' : b.length = 32) (ha : Lt 256 a) (hb : Lt 256 b) : (ratio (mul (sqr (load a)) (load b)) (load b)).2 = true := by
  obtain ⟨hr, h3⟩ := vratio (vmul (vsqr (ld hl ha)) (ld hl' hb)) (ld hl' hb)
  rw [h3]
  exact kratio_also _ _
theorem ro_back {a b : List Nat} (hl : a.length = 32) (hl' : b.length = 32) (ha : Lt 256 a) (hb : Lt 256 b) :
    same (ratio (mul (sqr (load a)) (load b)) (load b)).1 (load a) = true ∨ (same (ratio (mul (sqr (load a)) (load b)) (load b)).1 (load a) = false ∧ same (ratio (mul (sqr (load a)) (load b)) (load b)).1 (neg (load a)) = true) ∨
    (same (ratio (mul (sqr (load a)) (load b)) (load b)).1 (load a) = false ∧ same (ratio (mul (sqr (load a)) (load b)) (load b)).1 (neg (load a)) = false ∧ same (load b) (List.replicate 5 0) = true) := by
  obtain ⟨hr, _⟩ := vratio (vmul (vsqr (ld hl ha)) (ld hl' hb)) (ld hl' hb)
  rw [same_iff hr (ld hl ha), same_iff' hr (ld hl ha), same_iff hr (vneg (ld hl ha)), same_iff' hr (vneg (ld hl ha)), same_iff (ld hl' hb) vzero]
  by_cases h1 : (kratio (ko a * ko a * ko b) (ko b)).1 = ko a
  · exact .inl h1
  · by_cases h2 : (kratio (ko a * ko a * ko b) (ko b)).1 = -ko a
    · exact .inr (.inl ⟨h1, h2⟩)
    · refine .inr (.inr ⟨h1, h2, ?_⟩)
      apply Classical.byContradiction
      intro hv
      exact (kratio_back hv).elim h1 h2
theorem ro_three {a b : List Nat} (hl : a.length = 32) (hl' : b.length = 32) (ha : Lt 256 a) (hb : Lt 256 b) (h : (ratio (load a) (load b)).2 = false) (h2 : (ratio (add (load a) (load a)) (load b)).2 = false) : same (load b) (List.replicate 5 0) = true := by
  obtain ⟨hr, h3⟩ := vratio (ld hl ha) (ld hl' hb)
  obtain ⟨hs, h4⟩ := vratio (vadd (ld hl ha) (ld hl ha)) (ld hl' hb)
  rw [h3] at h
  rw [h4] at h2
  exact same_of (ld hl' hb) vzero (kratio_three h h2)
theorem ro_both {a b : List Nat} (hl : a.length = 32) (hl' : b.length = 32) (ha : Lt 256 a) (hb : Lt 256 b) (h : (ratio (load a) (load b)).2 = true) (h2 : (ratio (add (load a) (load a)) (load b)).2 = true) : same (load a) (List.replicate 5 0) = true := by
  obtain ⟨hr, h3⟩ := vratio (ld hl ha) (ld hl' hb)
  obtain ⟨hs, h4⟩ := vratio (vadd (ld hl ha) (ld hl ha)) (ld hl' hb)
  rw [h3] at h
  rw [h4] at h2
  exact same_of (ld hl ha) vzero (kratio_both h h2)
end
/-! ### FieldSmall -/
theorem fword_key (n : Nat) : ∀ i, i ≤ 8 → (fword_it1 n i).length = 32 ∧ Lt 256 (fword_it1 n i) ∧ (∀ j, i ≤ j → (fword_it1 n i).getD j 0 = 0) ∧ val 256 (fword_it1 n i) = n % 256 ^ i
  | 0, _ => ⟨rfl, Lt.replicate (by decide), fun j _ => rep_getD 32 j, by rw [fword_it1_z, val_replicate, Nat.pow_zero, Nat.mod_one]⟩
  | i + 1, hi => by
    obtain ⟨h1, h2, h3, h4⟩ := fword_key n i (by omega)
    rw [fword_it1_s]
    unfold fword_s1
    dsimp only
    rw [show 8 * i % 18446744073709551616 = 8 * i by omega, pow256]
    refine ⟨by rw [List.length_set]; exact h1, h2.set (Nat.mod_lt _ (by decide)), fun j hj => by rw [Fx.getD_set_ne (by omega)]; exact h3 j (by omega), ?_⟩
    rw [val_fill (by omega) (h3 i (Nat.le_refl i)), h4, Nat.pow_succ, Nat.mod_mul]
theorem fword_val {n : Nat} (h : n < 18446744073709551616) : Fe (fword n) ∧ kv (fword n) = kof n := by
  obtain ⟨h1, h2, _, h4⟩ := fword_key n 8 (Nat.le_refl _)
  have e : fword n = load (fword_it1 n 8) := by unfold fword; rfl
  obtain ⟨g1, g2⟩ := load_val h1 h2
  rw [e]
  refine ⟨g1, g2.trans ?_⟩
  rw [h4]
  exact congrArg kof (Nat.mod_eq_of_lt h)
theorem small_add {a b : Nat} (ha : a < 4294967296) (hb : b < 4294967296) : same (add (fword a) (fword b)) (fword ((a + b) % 18446744073709551616)) = true := by
  rw [show (a + b) % 18446744073709551616 = a + b by omega]
  exact same_of (vadd (fword_val (by omega)) (fword_val (by omega))) (fword_val (by omega)) (kof_add _ _).symm
theorem small_mul {a b : Nat} (ha : a < 4294967296) (hb : b < 4294967296) : same (mul (fword a) (fword b)) (fword (a * b % 18446744073709551616)) = true := by
  have hp : a * b < 18446744073709551616 := Nat.mul_lt_mul_of_lt_of_lt (c := 4294967296) (d := 4294967296) ha hb
  rw [Nat.mod_eq_of_lt hp]
  exact same_of (vmul (fword_val (by omega)) (fword_val (by omega))) (fword_val hp) (kof_mul _ _).symm
theorem small_sub {a b : Nat} (ha : a < 4294967296) (hb : b ≤ a) : same (sub (fword a) (fword b)) (fword ((a + (4294967296 - b)) % 4294967296)) = true := by
  rw [show (a + (4294967296 - b)) % 4294967296 = a - b by omega]
  exact same_of (vsub (fword_val (by omega)) (fword_val (by omega))) (fword_val (by omega)) (kof_sub (by omega)).symm
end Go.Proofs.Ytnfiiclmbiiokaa
