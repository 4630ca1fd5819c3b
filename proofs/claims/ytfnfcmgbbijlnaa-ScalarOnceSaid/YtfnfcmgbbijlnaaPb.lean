/-
  The plain law of the scalars: what the statements compare.
-/
import Derived.Test.YtfnfcmgbbijlnaaXa
namespace Go.Proofs.Ytfnfcmgbbijlnaa
open Go Go.Fx
set_option linter.unusedVariables false
set_option linter.unusedSimpArgs false

theorem wdstep_ap (x : List Nat) (i : Nat) (m : List Nat) : wdstep x i m = m.set i (x.getD i 0) := rfl
theorem wide_eq {x : List Nat} (lx : x.length = 32) : wide x = x ++ List.replicate 32 0 := by
  have key : ∀ i, i ≤ 32 → (∀ j, j < i → (iter (wdstep x) i (List.replicate 64 0)).getD j 0 = x.getD j 0) ∧ (∀ j, i ≤ j → (iter (wdstep x) i (List.replicate 64 0)).getD j 0 = 0) := by
    intro i
    induction i with
    | zero => intro _; exact ⟨fun j hj => by omega, fun j _ => rep_getD 64 j⟩
    | succ i ih =>
      intro hi
      obtain ⟨h1, h2⟩ := ih (by omega)
      have hl := wdlen x i
      rw [iterS, wdstep_ap]
      refine ⟨fun j hj => ?_, fun j hj => ?_⟩
      · by_cases h : j = i
        · subst h; exact getD_set_eq (by omega)
        · rw [Fx.getD_set_ne (by omega)]; exact h1 j (by omega)
      · rw [Fx.getD_set_ne (by omega)]; exact h2 j (by omega)
  obtain ⟨h1, h2⟩ := key 32 (by omega)
  refine ext_getD (by rw [wide_len, List.length_append, List.length_replicate, lx]) fun j hj => ?_
  unfold wide
  by_cases h : j < 32
  · rw [h1 j h, getD_append_l (by omega)]
  · rw [h2 j (by omega), getD_append_r (by omega)]; exact (rep_getD 32 _).symm
theorem wide_lt {x : List Nat} (lx : x.length = 32) (hx : Lt 256 x) : Lt 256 (wide x) := by rw [wide_eq lx]; exact hx.append (Lt.replicate (by decide))
theorem wide_val {x : List Nat} (lx : x.length = 32) : val 256 (wide x) = val 256 x := by rw [wide_eq lx, val_append, val_replicate]; omega
theorem smstep_ap (x i : Nat) (m : List Nat) : smstep x i m = m.set i (x / 2 ^ (8 * i % 18446744073709551616) % 256) := rfl
theorem small_eq {x : Nat} (hx : x < 18446744073709551616) : small x = digs 256 32 x := by
  have key : ∀ i, i ≤ 8 → (∀ j, j < i → (iter (smstep x) i (List.replicate 32 0)).getD j 0 = x / 256 ^ j % 256) ∧ (∀ j, i ≤ j → (iter (smstep x) i (List.replicate 32 0)).getD j 0 = 0) := by
    intro i
    induction i with
    | zero => intro _; exact ⟨fun j hj => by omega, fun j _ => rep_getD 32 j⟩
    | succ i ih =>
      intro hi
      obtain ⟨h1, h2⟩ := ih (by omega)
      have hl := smlen x i
      rw [iterS, smstep_ap, Nat.mod_eq_of_lt (show 8 * i < 18446744073709551616 by omega), pow256]
      refine ⟨fun j hj => ?_, fun j hj => ?_⟩
      · by_cases h : j = i
        · subst h; exact getD_set_eq (by omega)
        · rw [Fx.getD_set_ne (by omega)]; exact h1 j (by omega)
      · rw [Fx.getD_set_ne (by omega)]; exact h2 j (by omega)
  obtain ⟨h1, h2⟩ := key 8 (by omega)
  refine ext_getD (by rw [small_len, digs_len]) fun j hj => ?_
  rw [small_len] at hj
  rw [digs_getD hj]
  unfold small
  by_cases h : j < 8
  · exact h1 j h
  · rw [h2 j (by omega), Nat.div_eq_of_lt]
    have : (256 : Nat) ^ 8 ≤ 256 ^ j := Nat.pow_le_pow_right (by decide) (by omega)
    exact Nat.lt_of_lt_of_le hx this
theorem L256 : L < 256 ^ 32 := by decide +kernel
theorem L0 : 0 < L := by decide +kernel
theorem modL_lt (N : Nat) : N % L < 256 ^ 32 := Nat.lt_trans (Nat.mod_lt _ L0) L256
theorem vdig {N : Nat} (h : N < 256 ^ 32) : val 256 (digs 256 32 N) = N := by rw [val_digs (by decide), Nat.mod_eq_of_lt h]
theorem vmod (N : Nat) : val 256 (digs 256 32 (N % L)) = N % L := vdig (modL_lt N)
theorem dl (N : Nat) : (digs 256 32 N).length = 32 := digs_len _ _ _
theorem db (N : Nat) : Lt 256 (digs 256 32 N) := digs_lt (by decide) _ _
def zero : List Nat := List.replicate 32 0
theorem zero_val : val 256 (List.replicate 32 0) = 0 := val_replicate _ _
theorem zero_lt : Lt 256 (List.replicate 32 0) := Lt.replicate (by decide)
theorem one_val : val 256 ((List.replicate 32 0).set 0 1) = 1 := by decide +kernel
theorem one_lt : Lt 256 ((List.replicate 32 0).set 0 1) := zero_lt.set (by decide)
theorem mod1 (x y z : Nat) : (x % L * y + z) % L = (x * y + z) % L := by rw [Nat.add_mod, Nat.mul_mod, Nat.mod_mod, ← Nat.mul_mod, ← Nat.add_mod]
theorem mod2 (x y z : Nat) : (x * (y % L) + z) % L = (x * y + z) % L := by rw [Nat.mul_comm, mod1, Nat.mul_comm]
theorem mod3 (x z : Nat) : (x + z % L) % L = (x + z) % L := Nat.add_mod_mod _ _ _
theorem sum_v {a b c : List Nat} (_ : a.length = 32) (lb : b.length = 32) (lc : c.length = 32) (_ : Lt 256 a) (hb : Lt 256 b) (hc : Lt 256 c) : madd b ((List.replicate 32 0).set 0 1) c = digs 256 32 ((val 256 b + val 256 c) % L) := by
  rw [madd_val lb rfl lc hb one_lt hc, one_val, Nat.mul_one]
section
variable {a b c : List Nat} (la : a.length = 32) (lb : b.length = 32) (lc : c.length = 32) (ha : Lt 256 a) (hb : Lt 256 b) (hc : Lt 256 c)
include la lb ha hb
theorem m0 : madd a b (List.replicate 32 0) = digs 256 32 (val 256 a * val 256 b % L) := by rw [madd_val la lb rfl ha hb zero_lt, zero_val, Nat.add_zero]
theorem ring1 : madd a b (List.replicate 32 0) = madd b a (List.replicate 32 0) := by rw [m0 la lb ha hb, m0 lb la hb ha, Nat.mul_comm]
include lc hc
theorem ring2 : madd (madd a b (List.replicate 32 0)) c (List.replicate 32 0) = madd a (madd b c (List.replicate 32 0)) (List.replicate 32 0) := by
  rw [m0 la lb ha hb, m0 lb lc hb hc, m0 (dl _) lc (db _) hc, m0 la (dl _) ha (db _), vmod, vmod]
  refine congrArg (digs 256 32) ?_
  have e1 := mod1 (val 256 a * val 256 b) (val 256 c) 0
  have e2 := mod2 (val 256 a) (val 256 b * val 256 c) 0
  simp only [Nat.add_zero] at e1 e2
  rw [e1, e2, Nat.mul_assoc]
theorem ring3 : madd a (madd b ((List.replicate 32 0).set 0 1) c) (List.replicate 32 0) = madd a c (madd a b (List.replicate 32 0)) := by
  rw [sum_v la lb lc ha hb hc, m0 la lb ha hb, m0 la (dl _) ha (db _), madd_val la lc (dl _) ha hc (db _), vmod, vmod]
  refine congrArg (digs 256 32) ?_
  have e2 := mod2 (val 256 a) (val 256 b + val 256 c) 0
  simp only [Nat.add_zero] at e2
  rw [e2, mod3, Nat.mul_add, Nat.add_comm]
theorem ring4 : madd b ((List.replicate 32 0).set 0 1) c = madd c ((List.replicate 32 0).set 0 1) b := by
  rw [sum_v la lb lc ha hb hc, sum_v la lc lb ha hc hb, Nat.add_comm]
end
theorem fine_dig (N : Nat) {x : List Nat} (h : x = digs 256 32 (N % L)) : decide ((lessS (words x) order).2 = 1) = true := by
  subst h
  rw [fine_same (dl _) (db _), vmod, orderB_val]
  exact decide_eq_true (Nat.mod_lt _ L0)
theorem reduce_v {a : List Nat} (la : a.length = 32) (ha : Lt 256 a) : bytes (moduloS (words (wide a))) = digs 256 32 (val 256 a % L) := by
  rw [moduloS_val (words_lt (wide_lt la ha) (by rw [wide_len])), words_val (wide_lt la ha) (by rw [wide_len]), wide_val la]
theorem tells_mul {a b c : List Nat} (la : a.length = 32) (lb : b.length = 32) (lc : c.length = 32) (ha : Lt 256 a) (hb : Lt 256 b) (hc : Lt 256 c) : madd a b c = mulAddB a b c := by
  rw [madd_val la lb lc ha hb hc, mulAddB_val la lb lc ha hb hc]
/-! ### a number below the order -/
theorem once1 {a : List Nat} (la : a.length = 32) (ha : Lt 256 a) : bytes (moduloS (words (wide (bytes (moduloS (words (wide a))))))) = bytes (moduloS (words (wide a))) := by
  rw [reduce_v la ha, reduce_v (dl _) (db _), vmod, Nat.mod_mod]
theorem once2 {a : List Nat} (la : a.length = 32) (ha : Lt 256 a) : (decide (bytes (moduloS (words (wide a))) = a) == decide ((lessS (words a) order).2 = 1)) = true := by
  rw [fine_same la ha, orderB_val, reduce_v la ha, beq_iff_eq, decide_eq_decide]
  have e := eq_digs (by decide) ha la
  have v := v32 la ha
  constructor
  · intro h
    have h1 := vmod (val 256 a)
    rw [h] at h1
    rw [h1]; exact Nat.mod_lt _ L0
  · intro h
    rw [Nat.mod_eq_of_lt h]; exact e.symm
theorem order_b : Lt 256 (bytes order) := by rw [bytes_val order_lt]; exact db _
theorem order_bv : val 256 (bytes order) = L := by rw [bytes_val order_lt, order_val, vdig L256]
theorem times_lt {t : Nat} (h : t < 256) : Lt 256 ((List.replicate 32 0).set 0 t) := zero_lt.set h
theorem once3 {a : List Nat} (la : a.length = 32) (ha : Lt 256 a) {t : Nat} (h : t < 256) : madd ((List.replicate 32 0).set 0 t) (bytes order) a = bytes (moduloS (words (wide a))) := by
  rw [reduce_v la ha, madd_val rfl (bytes_len _) la (times_lt h) order_b ha, order_bv]
  refine congrArg (digs 256 32) ?_
  rw [Nat.add_comm, Nat.mul_comm, Nat.add_mul_mod_self_left]
theorem once4 {a : List Nat} (la : a.length = 32) (ha : Lt 256 a) : madd a ((List.replicate 32 0).set 0 1) (List.replicate 32 0) = bytes (moduloS (words (wide a))) := by
  rw [reduce_v la ha, m0 la rfl ha one_lt, one_val, Nat.mul_one]
/-! ### small numbers -/
theorem small_lt {x : Nat} (hx : x < 18446744073709551616) : Lt 256 (small x) ∧ val 256 (small x) = x := by
  rw [small_eq hx]; exact ⟨db _, vdig (Nat.lt_trans hx (by decide))⟩
theorem small1 {a b c : Nat} (ha : a < 4294967296) (hb : b < 4294967296) (hc : c < 4294967296) : madd (small a) (small b) (small c) = small ((a * b % 18446744073709551616 + c) % 18446744073709551616) := by
  have h1 : a * b ≤ 4294967295 * 4294967295 := Nat.mul_le_mul (by omega) (by omega)
  obtain ⟨a1, a2⟩ := small_lt (x := a) (by omega)
  obtain ⟨b1, b2⟩ := small_lt (x := b) (by omega)
  obtain ⟨c1, c2⟩ := small_lt (x := c) (by omega)
  rw [madd_val (small_len _) (small_len _) (small_len _) a1 b1 c1, a2, b2, c2, small_eq (Nat.mod_lt _ (by decide)), Nat.mod_eq_of_lt (a := a * b) (by omega), Nat.mod_eq_of_lt (a := a * b + c) (b := 18446744073709551616) (by omega),
    Nat.mod_eq_of_lt (a := a * b + c) (b := L) (Nat.lt_trans (m := 18446744073709551616) (by omega) (by decide +kernel))]
theorem last_val : val 256 ((bytes order).set 0 (((bytes order).getD 0 0 + (256 - 1)) % 256)) = L - 1 := by decide +kernel
theorem last_lt : Lt 256 ((bytes order).set 0 (((bytes order).getD 0 0 + (256 - 1)) % 256)) := order_b.set (Nat.mod_lt _ (by decide))
theorem small2 {d : List Nat} (ld : d.length = 32) (hd : Lt 256 d) : madd ((bytes order).set 0 (((bytes order).getD 0 0 + (256 - 1)) % 256)) d d = List.replicate 32 0 := by
  rw [madd_val (by rw [List.length_set, bytes_len]) ld ld last_lt hd hd, last_val]
  have e : (L - 1) * val 256 d + val 256 d = L * val 256 d := by
    rw [Nat.sub_mul, Nat.one_mul]
    have : val 256 d ≤ L * val 256 d := Nat.le_mul_of_pos_left _ L0
    omega
  rw [e, Nat.mul_mod_right]
  decide +kernel
theorem small3 {a : Nat} (ha : a < 4294967296) : bytes (moduloS (words (wide (small a)))) = small a := by
  obtain ⟨a1, a2⟩ := small_lt (x := a) (by omega)
  rw [reduce_v (small_len _) a1, a2, small_eq (by omega), Nat.mod_eq_of_lt (Nat.lt_trans ha (by decide +kernel))]
/-! ### the vectors -/
theorem aw0 : bytes order = orderB := by rw [bytes_val order_lt, order_val]; decide +kernel
theorem aw3 : bytes (moduloS (words (wide (bytes order)))) = List.replicate 32 0 := by
  rw [reduce_v (bytes_len _) order_b, order_bv, Nat.mod_self]; decide +kernel
theorem aw4l : Lt 256 ((wide (bytes order)).set 0 (((wide (bytes order)).getD 0 0 + 5) % 256)) := (wide_lt (bytes_len _) order_b).set (Nat.mod_lt _ (by decide))
theorem aw4v : val 256 ((wide (bytes order)).set 0 (((wide (bytes order)).getD 0 0 + 5) % 256)) = L + 5 := by
  rw [wide_eq (bytes_len _), aw0]; decide +kernel
theorem aw4 : bytes (moduloS (words ((wide (bytes order)).set 0 (((wide (bytes order)).getD 0 0 + 5) % 256)))) = (List.replicate 32 0).set 0 5 := by
  have h8 : ((wide (bytes order)).set 0 (((wide (bytes order)).getD 0 0 + 5) % 256)).length % 8 = 0 := by rw [List.length_set, wide_len]
  rw [moduloS_val (words_lt aw4l h8), words_val aw4l h8, aw4v]; decide +kernel
theorem set_val (t : Nat) : val 256 ((List.replicate 32 0).set 0 t) = t := by
  show t + 256 * val 256 (List.replicate 31 0) = t
  rw [val_replicate]; omega
theorem aw5 : madd ((List.replicate 32 0).set 0 2) ((List.replicate 32 0).set 0 3) ((List.replicate 32 0).set 0 4) = (List.replicate 32 0).set 0 10 := by
  rw [madd_val rfl rfl rfl (times_lt (by decide)) (times_lt (by decide)) (times_lt (by decide)), set_val, set_val, set_val]; decide +kernel
theorem aw6 : (!decide ((lessS (words (bytes order)) order).2 = 1)) = true := by
  rw [fine_same (bytes_len _) order_b, orderB_val, order_bv]; decide +kernel
theorem aw7 : decide ((lessS (words (List.replicate 32 0)) order).2 = 1) = true := by
  rw [fine_same rfl zero_lt, orderB_val, zero_val]; decide +kernel
end Go.Proofs.Ytfnfcmgbbijlnaa
