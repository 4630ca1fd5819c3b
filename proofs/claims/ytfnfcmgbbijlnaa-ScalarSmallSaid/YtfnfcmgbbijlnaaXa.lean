/-
  Walks: MulAdd.
-/
import Derived.Test.YtfnfcmgbbijlnaaPa
namespace Go.Proofs.Ytfnfcmgbbijlnaa
open Go Go.Fx
set_option linter.unusedVariables false
set_option linter.unusedSimpArgs false
theorem order_len : order.length = 4 := rfl
theorem orderB_len : orderB.length = 32 := rfl
theorem wide_len (x : List Nat) : (wide x).length = 64 := wdlen x 32
theorem small_len (x : Nat) : (small x).length = 32 := smlen x 8
theorem mulAddB_len (a b c : List Nat) : (mulAddB a b c).length = 32 := moduloB_len _
/-- The first place below n at which there is 0, or n. -/
def fz (f : Nat → Nat) : Nat → Nat
  | 0 => 0
  | n + 1 => if f 0 = 0 then 0 else fz (fun j => f (j + 1)) n + 1
theorem fz_le (f : Nat → Nat) (n : Nat) : fz f n ≤ n := by
  induction n generalizing f with
  | zero => exact Nat.le_refl 0
  | succ n ih => unfold fz; split; omega; have := ih fun j => f (j + 1); omega
theorem fz_iff {f : Nat → Nat} {n : Nat} (h : f n = 0) {k : Nat} (hk : k ≤ fz f n) : 0 < f k ↔ k < fz f n := by
  induction n generalizing f k with
  | zero =>
    simp only [fz] at hk ⊢
    have : k = 0 := by omega
    subst this; omega
  | succ n ih =>
    unfold fz at hk ⊢
    by_cases h0 : f 0 = 0
    · rw [if_pos h0] at hk ⊢
      have : k = 0 := by omega
      subst this; omega
    · rw [if_neg h0] at hk ⊢
      cases k with
      | zero => omega
      | succ k =>
        have := ih (f := fun j => f (j + 1)) h (k := k) (by omega)
        omega
theorem fz_zero {f : Nat → Nat} {n : Nat} (h : f n = 0) : f (fz f n) = 0 := by
  have := fz_iff h (Nat.le_refl (fz f n))
  omega
def madd_s2 (a : List Nat) (b : List Nat) (i1_ : Nat) (m1_ : List Nat) (i2_ : Nat) (m2_ : Nat × (List Nat)) : Nat × (List Nat) :=
  let v122_ : Nat := (mulHi ((words a).getD i1_ 0) ((words b).getD i2_ 0))
  let v123_ : Nat := ((words a).getD i1_ 0) * ((words b).getD i2_ 0) % 18446744073709551616
  let v124_ : Nat := (v123_ + m2_.1 + 0) % 18446744073709551616
  let v125_ : Nat := (v123_ + m2_.1 + 0) / 18446744073709551616
  let v126_ : Nat := ((m2_.2.getD (i1_ + i2_) 0) + v124_ + 0) % 18446744073709551616
  let v127_ : Nat := ((m2_.2.getD (i1_ + i2_) 0) + v124_ + 0) / 18446744073709551616
  let v128_ : Nat := (((v122_ + v125_) % 18446744073709551616) + v127_) % 18446744073709551616
  (v128_, m2_.2.set (i1_ + i2_) v126_)
def madd_it2 (a : List Nat) (b : List Nat) (i1_ : Nat) (m1_ : List Nat) (i2_ : Nat) : Nat × (List Nat) := iter (madd_s2 a b i1_ m1_) i2_ (0, m1_)
theorem madd_it2_z (a : List Nat) (b : List Nat) (i1_ : Nat) (m1_ : List Nat) : madd_it2 a b i1_ m1_ 0 = (0, m1_) := rfl
theorem madd_it2_s (a : List Nat) (b : List Nat) (i1_ : Nat) (m1_ : List Nat) (i2_ : Nat) : madd_it2 a b i1_ m1_ (i2_ + 1) = madd_s2 a b i1_ m1_ i2_ (madd_it2 a b i1_ m1_ i2_) := by unfold madd_it2; exact iterS _ _ _
theorem madd_it2_l1 (a : List Nat) (b : List Nat) (i1_ : Nat) (m1_ : List Nat) (i2_ : Nat) : ((madd_it2 a b i1_ m1_ i2_).2).length = (m1_ : List Nat).length := iter_inv (fun (s : Nat × (List Nat)) => (s.2).length = (m1_ : List Nat).length) (by simp) (fun i s h => by
  unfold madd_s2
  first | (simp [words_len, h]; done) | (dsimp only; (repeat' split) <;> simp [words_len, h])) i2_
theorem madd_in {a b m : List Nat} (la : a.length = 32) (lb : b.length = 32) (ha : Lt 256 a) (hb : Lt 256 b) {i : Nat} (hi : i < 4) (lm : m.length = 9) (hm : Lt 18446744073709551616 m) : ∀ k, k ≤ 4 →
    Lt 18446744073709551616 (madd_it2 a b i m k).2 ∧ (madd_it2 a b i m k).1 < 18446744073709551616 ∧
      val 18446744073709551616 (madd_it2 a b i m k).2 + 18446744073709551616 ^ (i + k) * (madd_it2 a b i m k).1 = val 18446744073709551616 m + 18446744073709551616 ^ i * ((words a).getD i 0 * val 18446744073709551616 ((words b).take k)) := by
  have hx := words_lt ha (show a.length % 8 = 0 by omega)
  have hy := words_lt hb (show b.length % 8 = 0 by omega)
  intro k
  induction k with
  | zero => intro _; exact ⟨hm, (by decide : (0 : Nat) < 18446744073709551616), by simp [madd_it2_z, val]⟩
  | succ k ih =>
    intro hk
    obtain ⟨h1, h2, h4⟩ := ih (by omega)
    have hacc := mul_acc (hx i) (hy k) h2 (h1 (i + k)) (mul_hi (hx i) (hy k)) rfl
    rw [madd_it2_s]
    unfold madd_s2 mulHi
    dsimp only
    refine ⟨h1.set (Nat.mod_lt _ (by decide)), Nat.mod_lt _ (by decide), ?_⟩
    have h5 := val_set (B := 18446744073709551616) (xs := (madd_it2 a b i m k).2) (i := i + k) (v := ((madd_it2 a b i m k).2.getD (i + k) 0 + ((words a).getD i 0 * (words b).getD k 0 % 18446744073709551616 + (madd_it2 a b i m k).1 + 0) % 18446744073709551616 + 0) % 18446744073709551616) (by rw [madd_it2_l1]; omega)
    rw [← Nat.add_assoc i k 1, Nat.pow_succ (n := 18446744073709551616), Nat.mul_assoc, val_take_succ (by rw [words_len]; omega)]
    have h6 := congrArg (18446744073709551616 ^ (i + k) * ·) hacc
    simp only [Nat.mul_add] at h6 ⊢
    rw [Nat.mul_left_comm ((words a).getD i 0), ← Nat.mul_assoc (18446744073709551616 ^ i) (18446744073709551616 ^ k), ← Nat.pow_add]
    omega
def madd_s3 (a : List Nat) (b : List Nat) (i1_ : Nat) (m1_ : List Nat) (i3_ : Nat) (m3_ : Nat × (List Nat)) : Nat × (List Nat) :=
  let v143_ : Nat := ((m3_.2.getD ((i1_ + 4) + i3_) 0) + m3_.1 + 0) % 18446744073709551616
  let v144_ : Nat := ((m3_.2.getD ((i1_ + 4) + i3_) 0) + m3_.1 + 0) / 18446744073709551616
  (v144_, m3_.2.set ((i1_ + 4) + i3_) v143_)
def madd_it3 (a : List Nat) (b : List Nat) (i1_ : Nat) (m1_ : List Nat) (i3_ : Nat) : Nat × (List Nat) := iter (madd_s3 a b i1_ m1_) i3_ ((madd_it2 a b i1_ m1_ 4).1, (madd_it2 a b i1_ m1_ 4).2)
theorem madd_it3_z (a : List Nat) (b : List Nat) (i1_ : Nat) (m1_ : List Nat) : madd_it3 a b i1_ m1_ 0 = ((madd_it2 a b i1_ m1_ 4).1, (madd_it2 a b i1_ m1_ 4).2) := rfl
theorem madd_it3_s (a : List Nat) (b : List Nat) (i1_ : Nat) (m1_ : List Nat) (i3_ : Nat) : madd_it3 a b i1_ m1_ (i3_ + 1) = madd_s3 a b i1_ m1_ i3_ (madd_it3 a b i1_ m1_ i3_) := by unfold madd_it3; exact iterS _ _ _
theorem madd_it3_l1 (a : List Nat) (b : List Nat) (i1_ : Nat) (m1_ : List Nat) (i3_ : Nat) : ((madd_it3 a b i1_ m1_ i3_).2).length = ((madd_it2 a b i1_ m1_ 4).2 : List Nat).length := iter_inv (fun (s : Nat × (List Nat)) => (s.2).length = ((madd_it2 a b i1_ m1_ 4).2 : List Nat).length) (by simp) (fun i s h => by
  unfold madd_s3
  first | (simp [words_len, madd_it2_l1, h]; done) | (dsimp only; (repeat' split) <;> simp [words_len, madd_it2_l1, h])) i3_
theorem madd_car {a b m : List Nat} (la : a.length = 32) (lb : b.length = 32) (ha : Lt 256 a) (hb : Lt 256 b) {i : Nat} (hi : i < 4) (lm : m.length = 9) (hm : Lt 18446744073709551616 m) : ∀ j, j ≤ 5 - i →
    Lt 18446744073709551616 (madd_it3 a b i m j).2 ∧ (madd_it3 a b i m j).2.length = 9 ∧ (madd_it3 a b i m j).1 < 18446744073709551616 ∧
      val 18446744073709551616 (madd_it3 a b i m j).2 + 18446744073709551616 ^ (i + 4 + j) * (madd_it3 a b i m j).1 = val 18446744073709551616 m + 18446744073709551616 ^ i * ((words a).getD i 0 * val 18446744073709551616 (words b)) := by
  intro j
  induction j with
  | zero =>
    intro _
    obtain ⟨h1, h2, h3⟩ := madd_in la lb ha hb hi lm hm 4 (by omega)
    rw [List.take_of_length_le (by rw [words_len]; omega)] at h3
    exact ⟨h1, by rw [madd_it3_z]; show (madd_it2 a b i m 4).2.length = 9; rw [madd_it2_l1, lm], h2, h3⟩
  | succ j ih =>
    intro hj
    obtain ⟨h1, hl, h2, h4⟩ := ih (by omega)
    have hw := h1 (i + 4 + j)
    rw [madd_it3_s]
    unfold madd_s3
    dsimp only
    simp only [Nat.add_zero]
    refine ⟨h1.set (Nat.mod_lt _ (by decide)), by rw [List.length_set]; exact hl, by omega, ?_⟩
    have h5 := carry_set (B := 18446744073709551616) (m := (madd_it3 a b i m j).2) (i := i + 4 + j) (x := (madd_it3 a b i m j).2.getD (i + 4 + j) 0 + (madd_it3 a b i m j).1) (by omega)
    rw [Nat.mul_add] at h5
    rw [← Nat.add_assoc (i + 4) j 1]
    omega
theorem madd_z {a b m : List Nat} (la : a.length = 32) (lb : b.length = 32) (ha : Lt 256 a) (hb : Lt 256 b) {i : Nat} (hi : i < 4) (lm : m.length = 9) (hm : Lt 18446744073709551616 m) (hV : val 18446744073709551616 m + 18446744073709551616 ^ i * ((words a).getD i 0 * val 18446744073709551616 (words b)) < 18446744073709551616 ^ 9) : (madd_it3 a b i m (5 - i)).1 = 0 := by
  obtain ⟨_, _, _, h4⟩ := madd_car la lb ha hb hi lm hm (5 - i) (Nat.le_refl _)
  rw [show i + 4 + (5 - i) = 9 by omega] at h4
  rcases Nat.eq_zero_or_pos (madd_it3 a b i m (5 - i)).1 with h | h
  · exact h
  · exfalso
    have : 18446744073709551616 ^ 9 * 1 ≤ 18446744073709551616 ^ 9 * (madd_it3 a b i m (5 - i)).1 := Nat.mul_le_mul_left _ h
    omega
theorem madd_last {a b m : List Nat} (la : a.length = 32) (lb : b.length = 32) (ha : Lt 256 a) (hb : Lt 256 b) {i : Nat} (hi : i < 4) (lm : m.length = 9) (hm : Lt 18446744073709551616 m) (hV : val 18446744073709551616 m + 18446744073709551616 ^ i * ((words a).getD i 0 * val 18446744073709551616 (words b)) < 18446744073709551616 ^ 9) :
    Lt 18446744073709551616 (madd_it3 a b i m (fz (fun j => (madd_it3 a b i m j).1) (5 - i))).2 ∧ (madd_it3 a b i m (fz (fun j => (madd_it3 a b i m j).1) (5 - i))).2.length = 9 ∧
      val 18446744073709551616 (madd_it3 a b i m (fz (fun j => (madd_it3 a b i m j).1) (5 - i))).2 = val 18446744073709551616 m + 18446744073709551616 ^ i * ((words a).getD i 0 * val 18446744073709551616 (words b)) := by
  have hz : (madd_it3 a b i m (fz (fun j => (madd_it3 a b i m j).1) (5 - i))).1 = 0 := fz_zero (f := fun j => (madd_it3 a b i m j).1) (madd_z la lb ha hb hi lm hm hV)
  obtain ⟨h1, h2, _, h4⟩ := madd_car la lb ha hb hi lm hm _ (fz_le (fun j => (madd_it3 a b i m j).1) (5 - i))
  rw [hz, Nat.mul_zero, Nat.add_zero] at h4
  exact ⟨h1, h2, h4⟩
def madd_s1 (a : List Nat) (b : List Nat) (c : List Nat) (i1_ : Nat) (m1_ : List Nat) : List Nat :=
  (madd_it3 a b i1_ m1_ (fz (fun j => (madd_it3 a b i1_ m1_ j).1) (5 - i1_))).2
def madd_it1 (a : List Nat) (b : List Nat) (c : List Nat) (i1_ : Nat) : List Nat := iter (madd_s1 a b c) i1_ ((words c) ++ [0, 0, 0, 0, 0])
theorem madd_it1_z (a : List Nat) (b : List Nat) (c : List Nat) : madd_it1 a b c 0 = (words c) ++ [0, 0, 0, 0, 0] := rfl
theorem madd_it1_s (a : List Nat) (b : List Nat) (c : List Nat) (i1_ : Nat) : madd_it1 a b c (i1_ + 1) = madd_s1 a b c i1_ (madd_it1 a b c i1_) := by unfold madd_it1; exact iterS _ _ _
theorem madd_it1_l (a : List Nat) (b : List Nat) (c : List Nat) (i1_ : Nat) : ((madd_it1 a b c i1_)).length = ((words c) ++ [0, 0, 0, 0, 0] : List Nat).length := iter_inv (fun (s : List Nat) => (s).length = ((words c) ++ [0, 0, 0, 0, 0] : List Nat).length) (by simp) (fun i s h => by
  unfold madd_s1
  first | (simp [words_len, madd_it2_l1, madd_it3_l1, h]; done) | (dsimp only; (repeat' split) <;> simp [words_len, madd_it2_l1, madd_it3_l1, h])) i1_
theorem madd_vb {a b c : List Nat} (la : a.length = 32) (lb : b.length = 32) (lc : c.length = 32) (ha : Lt 256 a) (hb : Lt 256 b) (hc : Lt 256 c) {i V : Nat} (hi : i < 4) (h3 : V = val 18446744073709551616 ((words a).take i) * val 18446744073709551616 (words b) + val 18446744073709551616 (words c)) : V + 18446744073709551616 ^ i * ((words a).getD i 0 * val 18446744073709551616 (words b)) < 18446744073709551616 ^ 9 := by
  have lw : (words a).length = 4 := by rw [words_len, la]
  have e1 := ((words_lt ha (by omega)).take (i + 1)).val_lt
  rw [List.length_take, lw, Nat.min_eq_left (by omega)] at e1
  have e2 := v32 lb hb
  have e3 := v32 lc hc
  rw [← words_val hb (by omega)] at e2
  rw [← words_val hc (by omega)] at e3
  rw [h3]
  have e4 : val 18446744073709551616 ((words a).take i) * val 18446744073709551616 (words b) + val 18446744073709551616 (words c) + 18446744073709551616 ^ i * ((words a).getD i 0 * val 18446744073709551616 (words b)) = val 18446744073709551616 ((words a).take (i + 1)) * val 18446744073709551616 (words b) + val 18446744073709551616 (words c) := by
    rw [val_take_succ (xs := words a) (by omega), Nat.add_mul, Nat.mul_assoc]; omega
  rw [e4]
  have e5 : val 18446744073709551616 ((words a).take (i + 1)) < 115792089237316195423570985008687907853269984665640564039457584007913129639936 := Nat.lt_of_lt_of_le e1 (show 18446744073709551616 ^ (i + 1) ≤ 18446744073709551616 ^ 4 from Nat.pow_le_pow_right (by decide) (by omega))
  have e6 : val 18446744073709551616 ((words a).take (i + 1)) * val 18446744073709551616 (words b) < 115792089237316195423570985008687907853269984665640564039457584007913129639936 * 115792089237316195423570985008687907853269984665640564039457584007913129639936 := Nat.mul_lt_mul_of_lt_of_lt e5 e2
  exact Nat.lt_trans (m := 115792089237316195423570985008687907853269984665640564039457584007913129639936 * 115792089237316195423570985008687907853269984665640564039457584007913129639936 + 115792089237316195423570985008687907853269984665640564039457584007913129639936) (by omega) (by decide)
theorem madd_out {a b c : List Nat} (la : a.length = 32) (lb : b.length = 32) (lc : c.length = 32) (ha : Lt 256 a) (hb : Lt 256 b) (hc : Lt 256 c) : ∀ i, i ≤ 4 →
    Lt 18446744073709551616 (madd_it1 a b c i) ∧ (madd_it1 a b c i).length = 9 ∧ val 18446744073709551616 (madd_it1 a b c i) = val 18446744073709551616 ((words a).take i) * val 18446744073709551616 (words b) + val 18446744073709551616 (words c) ∧ (∀ j, i + 4 < j → (madd_it1 a b c i).getD j 0 = 0 ∨ True) := by
  intro i
  induction i with
  | zero =>
    intro _
    rw [madd_it1_z]
    refine ⟨(words_lt hc (by omega)).append (Lt.of_mem (by decide) (by decide)), by rw [List.length_append, words_len, lc]; rfl, ?_, fun _ _ => .inr trivial⟩
    rw [val_append, show val 18446744073709551616 [0, 0, 0, 0, 0] = 0 from rfl, List.take_zero]
    simp [val]
  | succ i ih =>
    intro hi
    obtain ⟨h1, h2, h3, _⟩ := ih (by omega)
    have lw : (words a).length = 4 := by rw [words_len, la]
    have hV := madd_vb la lb lc ha hb hc (show i < 4 by omega) h3
    obtain ⟨g1, g2, g3⟩ := madd_last la lb ha hb (show i < 4 by omega) h2 h1 hV
    rw [madd_it1_s]
    unfold madd_s1
    refine ⟨g1, g2, ?_, fun _ _ => .inr trivial⟩
    rw [g3, h3, val_take_succ (xs := words a) (by omega), Nat.add_mul, Nat.mul_assoc]
    omega
theorem madd_v {a b c : List Nat} (la : a.length = 32) (lb : b.length = 32) (lc : c.length = 32) (ha : Lt 256 a) (hb : Lt 256 b) (hc : Lt 256 c) {i : Nat} (hi : i < 4) : val 18446744073709551616 (madd_it1 a b c i) + 18446744073709551616 ^ i * ((words a).getD i 0 * val 18446744073709551616 (words b)) < 18446744073709551616 ^ 9 :=
  madd_vb la lb lc ha hb hc hi (madd_out la lb lc ha hb hc i (by omega)).2.2.1
def madd (a : List Nat) (b : List Nat) (c : List Nat) : List Nat :=
  (bytes (moduloS (madd_it1 a b c 4)))
theorem madd_len (a : List Nat) (b : List Nat) (c : List Nat)  : ((madd a b c)).length = 32 := by
  unfold madd
  first | (simp [words_len, madd_it2_l1, madd_it3_l1, madd_it1_l, moduloS_len, bytes_len]; done) | (simp [*, words_len, madd_it2_l1, madd_it3_l1, madd_it1_l, moduloS_len, bytes_len]; done) | (dsimp only; (repeat' split) <;> simp [*, words_len, madd_it2_l1, madd_it3_l1, madd_it1_l, moduloS_len, bytes_len])
theorem w_madd (a : List Nat) (b : List Nat) (c : List Nat) (l_a : a.length = 32) (l_b : b.length = 32) (l_c : c.length = 32) : VC Try.prog 10 [.row (.ints .u8 a), .row (.ints .u8 b), .row (.ints .u8 c)] (.row (.ints .u8 (madd a b c))) := by
  refine VC.go Try.func10 rfl Try.ntmps10 rfl rfl fun O w => ?_
  have hwl := words_len
  refine Holds.ltRow 0 rfl u8s u8m (fun b_a => ?_)
  refine Holds.ltRow 1 rfl u8s u8m (fun b_b => ?_)
  refine Holds.ltRow 2 rfl u8s u8m (fun b_c => ?_)
  refine Holds.seq ?_
  refine Holds.reg ?_
  refine OpsFrom.u (Y.boxR (d := 3) (up0 rfl rfl rfl) rfl rfl rfl) rfl rfl rfl ?_
  refine OpsFrom.u (Y.boxR (d := 4) (up0 rfl rfl rfl) rfl rfl rfl) rfl rfl rfl ?_
  refine OpsFrom.u (Y.boxR (d := 5) (up0 rfl rfl rfl) rfl rfl rfl) rfl rfl rfl ?_
  refine OpsFrom.u (Y.alloc (d := 6) ty23 rfl rfl (up0 rfl rfl rfl) rfl) rfl rfl rfl ?_
  refine OpsFrom.nil ?_
  refine Holds.seq ?_
  refine Holds.dr mx [([20], [22]), ([21], [22]), ([22], [20, 21]), ([23], []), ([7], []), ([8], [])] (by kernel_rfl) ?_
  refine CertK.vd (Y.slArr0 ty23 ty5 (up0 rfl rfl rfl) rfl rfl rfl (by first | (with_reducible assumption) | omega | (simp only [lens, words_len, *]; first | done | omega) | decide | (split <;> simp only [lens, words_len, *]) | (with_reducible exact Lt.mono (by assumption) (by decide))) bnd0 bnd0 (by first | (with_reducible assumption) | omega | (simp only [lens, words_len, *]; first | done | omega) | decide | (split <;> simp only [lens, words_len, *]) | (with_reducible exact Lt.mono (by assumption) (by decide))) (by first | (with_reducible assumption) | omega | (simp only [lens, words_len, *]; first | done | omega) | decide | (split <;> simp only [lens, words_len, *]) | (with_reducible exact Lt.mono (by assumption) (by decide)))) rfl rfl ?_
  refine CertK.u (Y.callF (d := 21) (w19 _ (by first | (with_reducible assumption) | omega | (simp only [lens, words_len, *]; first | done | omega) | decide | (split <;> simp only [lens, words_len, *]) | (with_reducible exact Lt.mono (by assumption) (by decide))) (by first | (with_reducible assumption) | omega | (simp only [lens, words_len, *]; first | done | omega) | decide | (split <;> simp only [lens, words_len, *]) | (with_reducible exact Lt.mono (by assumption) (by decide)))) fnok19 (up0 rfl rfl rfl) rfl rfl (.cons _ _ _ _ rfl .nil) (.cons _ _ _ _ (.all rfl (by first | (with_reducible assumption) | omega | (simp only [lens, words_len, *]; first | done | omega) | decide | (split <;> simp only [lens, words_len, *]) | (with_reducible exact Lt.mono (by assumption) (by decide)))) .nil) rfl rfl rfl) rfl rfl rfl rfl rfl ?_
  refine CertK.vd (Y.slArr0 ty23 ty5 (up0 rfl rfl rfl) rfl rfl rfl (by first | (with_reducible assumption) | omega | (simp only [lens, words_len, *]; first | done | omega) | decide | (split <;> simp only [lens, words_len, *]) | (with_reducible exact Lt.mono (by assumption) (by decide))) bnd0 bnd0 (by first | (with_reducible assumption) | omega | (simp only [lens, words_len, *]; first | done | omega) | decide | (split <;> simp only [lens, words_len, *]) | (with_reducible exact Lt.mono (by assumption) (by decide))) (by first | (with_reducible assumption) | omega | (simp only [lens, words_len, *]; first | done | omega) | decide | (split <;> simp only [lens, words_len, *]) | (with_reducible exact Lt.mono (by assumption) (by decide)))) rfl rfl ?_
  refine CertK.u (Y.callF (d := 23) (w19 _ (by first | (with_reducible assumption) | omega | (simp only [lens, words_len, *]; first | done | omega) | decide | (split <;> simp only [lens, words_len, *]) | (with_reducible exact Lt.mono (by assumption) (by decide))) (by first | (with_reducible assumption) | omega | (simp only [lens, words_len, *]; first | done | omega) | decide | (split <;> simp only [lens, words_len, *]) | (with_reducible exact Lt.mono (by assumption) (by decide)))) fnok19 (up0 rfl rfl rfl) rfl rfl (.cons _ _ _ _ rfl .nil) (.cons _ _ _ _ (.all rfl (by first | (with_reducible assumption) | omega | (simp only [lens, words_len, *]; first | done | omega) | decide | (split <;> simp only [lens, words_len, *]) | (with_reducible exact Lt.mono (by assumption) (by decide)))) .nil) rfl rfl rfl) rfl rfl rfl rfl rfl ?_
  refine CertK.v (Y.assign (up0 rfl rfl rfl) rfl rfl) rfl ?_
  refine CertK.v (Y.assign (up0 rfl rfl rfl) rfl rfl) rfl ?_
  refine CertK.nil ?_
  refine Holds.seq ?_
  refine Holds.reg ?_
  refine OpsFrom.v (Y.slArr0 ty23 ty5 (up0 rfl rfl rfl) rfl rfl rfl (by first | (with_reducible assumption) | omega | (simp only [lens, words_len, *]; first | done | omega) | decide | (split <;> simp only [lens, words_len, *]) | (with_reducible exact Lt.mono (by assumption) (by decide))) bnd0 bnd0 (by first | (with_reducible assumption) | omega | (simp only [lens, words_len, *]; first | done | omega) | decide | (split <;> simp only [lens, words_len, *]) | (with_reducible exact Lt.mono (by assumption) (by decide))) (by first | (with_reducible assumption) | omega | (simp only [lens, words_len, *]; first | done | omega) | decide | (split <;> simp only [lens, words_len, *]) | (with_reducible exact Lt.mono (by assumption) (by decide)))) rfl ?_
  refine OpsFrom.u (Y.callF (d := 25) (w19 _ (by first | (with_reducible assumption) | omega | (simp only [lens, words_len, *]; first | done | omega) | decide | (split <;> simp only [lens, words_len, *]) | (with_reducible exact Lt.mono (by assumption) (by decide))) (by first | (with_reducible assumption) | omega | (simp only [lens, words_len, *]; first | done | omega) | decide | (split <;> simp only [lens, words_len, *]) | (with_reducible exact Lt.mono (by assumption) (by decide)))) fnok19 (up0 rfl rfl rfl) rfl rfl (.cons _ _ _ _ rfl .nil) (.cons _ _ _ _ (.all rfl (by first | (with_reducible assumption) | omega | (simp only [lens, words_len, *]; first | done | omega) | decide | (split <;> simp only [lens, words_len, *]) | (with_reducible exact Lt.mono (by assumption) (by decide)))) .nil) rfl rfl rfl) rfl rfl rfl ?_
  refine OpsFrom.u (Y.bldS (d := 26) ty40 ty35 rfl (up0 rfl rfl rfl) rfl (.ints .u64 (List.replicate 5 0)) rfl rfl rfl rfl (by decide) (by decide) (.cons _ _ _ _ _ _ (.one (.n .u64 0)) _ _ rfl rfl rfl rfl (Spl.n (by first | decide | (simp; done))) (.cons _ _ _ _ _ _ (.one (.n .u64 0)) _ _ rfl rfl rfl rfl (Spl.n (by first | decide | (simp; done))) (.cons _ _ _ _ _ _ (.one (.n .u64 0)) _ _ rfl rfl rfl rfl (Spl.n (by first | decide | (simp; done))) (.cons _ _ _ _ _ _ (.one (.n .u64 0)) _ _ rfl rfl rfl rfl (Spl.n (by first | decide | (simp; done))) (.cons _ _ _ _ _ _ (.one (.n .u64 0)) _ _ rfl rfl rfl rfl (Spl.n (by first | decide | (simp; done))) (.nil _))))))) rfl rfl rfl ?_
  refine OpsFrom.u (Y.app (d := 27) ty40 ty35 rfl ty40 (by decide) (up0 rfl rfl rfl) rfl rfl rfl (.all rfl (by first | (with_reducible assumption) | omega | (simp only [lens, words_len, *]; first | done | omega) | decide | (split <;> simp only [lens, words_len, *]) | (with_reducible exact Lt.mono (by assumption) (by decide)))) rfl (.all rfl (by first | (with_reducible assumption) | omega | (simp only [lens, words_len, *]; first | done | omega) | decide | (split <;> simp only [lens, words_len, *]) | (with_reducible exact Lt.mono (by assumption) (by decide)))) App.i (by first | (with_reducible assumption) | omega | (simp only [lens, words_len, *]; first | done | omega) | decide | (split <;> simp only [lens, words_len, *]) | (with_reducible exact Lt.mono (by assumption) (by decide))) rfl (by first | (simp; done) | (rintro ⟨_, _, _, h⟩; cases h))) rfl rfl rfl ?_
  refine OpsFrom.v (Y.assign (up0 rfl rfl rfl) rfl rfl) rfl ?_
  refine OpsFrom.nil ?_
  refine Holds.seq ?_
  refine Holds.seq ?_
  refine Holds.reg ?_
  refine OpsFrom.v (Y.move (up0 rfl rfl rfl) rfl rfl) rfl ?_
  refine OpsFrom.v (Y.len ty40 (up0 rfl rfl rfl) rfl rfl rfl rfl) rfl ?_
  refine OpsFrom.v (Y.move (v := (.one (.n .i64 0))) (up0 rfl rfl rfl) rfl rfl) rfl ?_
  refine OpsFrom.nil ?_
  refine Holds.block ?_
  refine Holds.loop (fun (i1_ : Nat) => ⟨[(6, .one (.p 6 0)), (8, .one (.sg 23 0 (b.length / 8))), (9, .one (.sg 27 0 (((words c) ++ [0, 0, 0, 0, 0]).length))), (28, .one (.sg 21 0 (a.length / 8))), (29, .one (.n .i64 (a.length / 8))), (30, .one (.n .i64 i1_))], [(6, .own (.ints .u8 (List.replicate 32 0))), (23, .own (.ints .u64 (words b))), (27, .own (.ints .u64 (madd_it1 a b c i1_))), (21, .own (.ints .u64 (words a)))]⟩) (fun (i1_ : Nat) => i1_ ≤ 4) (fun (i1_ : Nat) => 4 - i1_) 0 (by first | (with_reducible assumption) | omega | (simp only [lens, words_len, madd_it1_l, *]; first | done | omega) | decide | (split <;> simp only [lens, words_len, madd_it1_l, *]) | (with_reducible exact Lt.mono (by assumption) (by decide))) [] ⟨⟨rfl, rfl, rfl, rfl, rfl, rfl, trivial⟩, ⟨rfl, rfl, (hEq (congrArg (fun (s : List Nat) => s) (madd_it1_z a b c)).symm), rfl, trivial⟩, rfl, rfl⟩ ?_
  intro i1_ k1_
  have hm := (madd_out l_a l_b l_c b_a b_b b_c i1_ (by omega)).1
  have hml := (madd_out l_a l_b l_c b_a b_b b_c i1_ (by omega)).2.1
  refine Holds.seq ?_
  refine Holds.reg ?_
  refine OpsFrom.v (Y.lss (up0 rfl rfl rfl) rfl rfl rfl) rfl ?_
  refine OpsFrom.nil ?_
  refine Holds.seq ?_
  refine Holds.condD rfl (fun h31 => ?_) (fun h31 => ?_)
  · refine Holds.skip ?_
    refine Holds.seq ?_
    refine Holds.block ?_
    refine Holds.seq ?_
    refine Holds.reg ?_
    refine OpsFrom.v (Y.move (up0 rfl rfl rfl) rfl rfl) rfl ?_
    refine OpsFrom.v (Y.iaSg0 ty40 ty35 (up0 rfl rfl rfl) rfl rfl rfl (by first | (with_reducible assumption) | omega | (simp only [lens, words_len, madd_it1_l, *]; first | done | omega) | decide | (split <;> simp only [lens, words_len, madd_it1_l, *]) | (with_reducible exact Lt.mono (by assumption) (by decide)))) rfl ?_
    refine OpsFrom.v (Y.ldI ty35 rfl (up0 rfl rfl rfl) rfl rfl rfl (by first | (with_reducible assumption) | omega | (simp only [lens, words_len, madd_it1_l, *]; first | done | omega) | decide | (split <;> simp only [lens, words_len, madd_it1_l, *]) | (with_reducible exact Lt.mono (by assumption) (by decide)))) rfl ?_
    refine OpsFrom.v (Y.assign (up0 rfl rfl rfl) rfl rfl) rfl ?_
    refine OpsFrom.v (Y.assign (up0 rfl rfl rfl) rfl rfl) rfl ?_
    refine OpsFrom.nil ?_
    refine Holds.seq ?_
    refine Holds.reg ?_
    refine OpsFrom.v (Y.assign (v := (.one (.n .u64 0))) (up0 rfl rfl rfl) rfl rfl) rfl ?_
    refine OpsFrom.nil ?_
    refine Holds.seq ?_
    refine Holds.seq ?_
    refine Holds.reg ?_
    refine OpsFrom.v (Y.move (up0 rfl rfl rfl) rfl rfl) rfl ?_
    refine OpsFrom.v (Y.len ty40 (up0 rfl rfl rfl) rfl rfl rfl rfl) rfl ?_
    refine OpsFrom.v (Y.move (v := (.one (.n .i64 0))) (up0 rfl rfl rfl) rfl rfl) rfl ?_
    refine OpsFrom.nil ?_
    refine Holds.block ?_
    refine Holds.loop (fun (i2_ : Nat) => ⟨[(6, .one (.p 6 0)), (8, .one (.sg 23 0 (b.length / 8))), (9, .one (.sg 27 0 (((words c) ++ [0, 0, 0, 0, 0]).length))), (28, .one (.sg 21 0 (a.length / 8))), (29, .one (.n .i64 (a.length / 8))), (30, .one (.n .i64 i1_)), (31, .one (.b (decide (i1_ < (a.length / 8))))), (32, .one (.n .i64 i1_)), (33, .one (.p 21 i1_)), (34, .one (.n .u64 ((words a).getD i1_ 0))), (10, .one (.n .i64 i1_)), (11, .one (.n .u64 ((words a).getD i1_ 0))), (12, .one (.n .u64 ((madd_it2 a b i1_ (madd_it1 a b c i1_) i2_).1))), (35, .one (.sg 23 0 (b.length / 8))), (36, .one (.n .i64 (b.length / 8))), (37, .one (.n .i64 i2_))], [(6, .own (.ints .u8 (List.replicate 32 0))), (23, .own (.ints .u64 (words b))), (27, .own (.ints .u64 ((madd_it2 a b i1_ (madd_it1 a b c i1_) i2_).2))), (21, .own (.ints .u64 (words a)))]⟩) (fun (i2_ : Nat) => i2_ ≤ 4) (fun (i2_ : Nat) => 4 - i2_) 0 (by first | (with_reducible assumption) | omega | (simp only [lens, words_len, madd_it1_l, madd_it2_l1, *]; first | done | omega) | decide | (split <;> simp only [lens, words_len, madd_it1_l, madd_it2_l1, *]) | (with_reducible exact Lt.mono (by assumption) (by decide))) [] ⟨⟨rfl, rfl, rfl, rfl, rfl, rfl, rfl, rfl, rfl, rfl, rfl, rfl, (nEq (congrArg (fun (s : Nat × (List Nat)) => s.1) (madd_it2_z a b i1_ (madd_it1 a b c i1_))).symm), rfl, rfl, rfl, trivial⟩, ⟨rfl, rfl, (hEq (congrArg (fun (s : Nat × (List Nat)) => s.2) (madd_it2_z a b i1_ (madd_it1 a b c i1_))).symm), rfl, trivial⟩, rfl, rfl⟩ ?_
    intro i2_ k2_
    have hov := (madd_in l_a l_b b_a b_b (show i1_ < 4 by omega) hml hm i2_ (by omega)).2.1
    refine Holds.seq ?_
    refine Holds.reg ?_
    refine OpsFrom.v (Y.lss (up0 rfl rfl rfl) rfl rfl rfl) rfl ?_
    refine OpsFrom.nil ?_
    refine Holds.seq ?_
    refine Holds.condD rfl (fun h38 => ?_) (fun h38 => ?_)
    · refine Holds.skip ?_
      refine Holds.seq ?_
      refine Holds.block ?_
      refine Holds.seq ?_
      refine Holds.reg ?_
      refine OpsFrom.v (Y.move (up0 rfl rfl rfl) rfl rfl) rfl ?_
      refine OpsFrom.v (Y.iaSg0 ty40 ty35 (up0 rfl rfl rfl) rfl rfl rfl (by first | (with_reducible assumption) | omega | (simp only [lens, words_len, madd_it1_l, madd_it2_l1, *]; first | done | omega) | decide | (split <;> simp only [lens, words_len, madd_it1_l, madd_it2_l1, *]) | (with_reducible exact Lt.mono (by assumption) (by decide)))) rfl ?_
      refine OpsFrom.v (Y.ldI ty35 rfl (up0 rfl rfl rfl) rfl rfl rfl (by first | (with_reducible assumption) | omega | (simp only [lens, words_len, madd_it1_l, madd_it2_l1, *]; first | done | omega) | decide | (split <;> simp only [lens, words_len, madd_it1_l, madd_it2_l1, *]) | (with_reducible exact Lt.mono (by assumption) (by decide)))) rfl ?_
      refine OpsFrom.v (Y.assign (up0 rfl rfl rfl) rfl rfl) rfl ?_
      refine OpsFrom.v (Y.assign (up0 rfl rfl rfl) rfl rfl) rfl ?_
      refine OpsFrom.nil ?_
      refine Holds.seq ?_
      refine Holds.reg ?_
      refine OpsFrom.v (Y.move (up0 rfl rfl rfl) rfl rfl) rfl ?_
      refine OpsFrom.v (Y.move (up0 rfl rfl rfl) rfl rfl) rfl ?_
      refine OpsFrom.v (Y.callV (w22 _ _) fnok22 (up0 rfl rfl rfl) rfl rfl (.cons _ _ _ _ rfl (.cons _ _ _ _ rfl .nil)) (.cons _ _ _ _ (.same _) (.cons _ _ _ _ (.same _) .nil)) rfl rfl) rfl ?_
      refine OpsFrom.v (Y.move (up0 rfl rfl rfl) rfl rfl) rfl ?_
      refine OpsFrom.v (Y.ext0 (up0 rfl rfl rfl) rfl rfl) rfl ?_
      refine OpsFrom.v (Y.ext1 (up0 rfl rfl rfl) rfl rfl) rfl ?_
      refine OpsFrom.v (Y.assign (up0 rfl rfl rfl) rfl rfl) rfl ?_
      refine OpsFrom.v (Y.assign (up0 rfl rfl rfl) rfl rfl) rfl ?_
      refine OpsFrom.nil ?_
      refine Holds.seq ?_
      refine Holds.reg ?_
      refine OpsFrom.v (Y.assign (v := (.one (.n .u64 0))) (up0 rfl rfl rfl) rfl rfl) rfl ?_
      refine OpsFrom.v (Y.assign (v := (.one (.n .u64 0))) (up0 rfl rfl rfl) rfl rfl) rfl ?_
      refine OpsFrom.nil ?_
      refine Holds.seq ?_
      refine Holds.reg ?_
      refine OpsFrom.v (Y.move (up0 rfl rfl rfl) rfl rfl) rfl ?_
      refine OpsFrom.v (Y.move (up0 rfl rfl rfl) rfl rfl) rfl ?_
      refine OpsFrom.v (Y.add64 (c := 0) ext23 (up0 rfl rfl rfl) rfl rfl rfl rfl rfl (by first | (with_reducible assumption) | omega | (simp only [lens, words_len, madd_it1_l, madd_it2_l1, *]; first | done | omega) | decide | (split <;> simp only [lens, words_len, madd_it1_l, madd_it2_l1, *]) | (with_reducible exact Lt.mono (by assumption) (by decide)))) rfl ?_
      refine OpsFrom.v (Y.move (up0 rfl rfl rfl) rfl rfl) rfl ?_
      refine OpsFrom.v (Y.ext0 (up0 rfl rfl rfl) rfl rfl) rfl ?_
      refine OpsFrom.v (Y.ext1 (up0 rfl rfl rfl) rfl rfl) rfl ?_
      refine OpsFrom.v (Y.assign (up0 rfl rfl rfl) rfl rfl) rfl ?_
      refine OpsFrom.v (Y.assign (up0 rfl rfl rfl) rfl rfl) rfl ?_
      refine OpsFrom.nil ?_
      refine Holds.seq ?_
      refine Holds.reg ?_
      refine OpsFrom.v (Y.move (up0 rfl rfl rfl) rfl rfl) rfl ?_
      refine OpsFrom.v (Y.move (up0 rfl rfl rfl) rfl rfl) rfl ?_
      refine OpsFrom.v (Y.move (up0 rfl rfl rfl) rfl rfl) rfl ?_
      refine OpsFrom.v (Y.addI (up0 rfl rfl rfl) rfl rfl rfl (by first | (with_reducible assumption) | omega | (simp only [lens, words_len, madd_it1_l, madd_it2_l1, *]; first | done | omega) | decide | (split <;> simp only [lens, words_len, madd_it1_l, madd_it2_l1, *]) | (with_reducible exact Lt.mono (by assumption) (by decide)))) rfl ?_
      refine OpsFrom.v (Y.move (up0 rfl rfl rfl) rfl rfl) rfl ?_
      refine OpsFrom.v (Y.move (up0 rfl rfl rfl) rfl rfl) rfl ?_
      refine OpsFrom.v (Y.move (up0 rfl rfl rfl) rfl rfl) rfl ?_
      refine OpsFrom.v (Y.addI (up0 rfl rfl rfl) rfl rfl rfl (by first | (with_reducible assumption) | omega | (simp only [lens, words_len, madd_it1_l, madd_it2_l1, *]; first | done | omega) | decide | (split <;> simp only [lens, words_len, madd_it1_l, madd_it2_l1, *]) | (with_reducible exact Lt.mono (by assumption) (by decide)))) rfl ?_
      refine OpsFrom.v (Y.iaSg0 ty40 ty35 (up0 rfl rfl rfl) rfl rfl rfl (by first | (with_reducible assumption) | omega | (simp only [lens, words_len, madd_it1_l, madd_it2_l1, *]; first | done | omega) | decide | (split <;> simp only [lens, words_len, madd_it1_l, madd_it2_l1, *]) | (with_reducible exact Lt.mono (by assumption) (by decide)))) rfl ?_
      refine OpsFrom.v (Y.ldI ty35 rfl (up0 rfl rfl rfl) rfl rfl rfl (by first | (with_reducible assumption) | omega | (simp only [lens, words_len, madd_it1_l, madd_it2_l1, *]; first | done | omega) | decide | (split <;> simp only [lens, words_len, madd_it1_l, madd_it2_l1, *]) | (with_reducible exact Lt.mono (by assumption) (by decide)))) rfl ?_
      refine OpsFrom.v (Y.move (up0 rfl rfl rfl) rfl rfl) rfl ?_
      refine OpsFrom.v (Y.add64 (c := 0) ext23 (up0 rfl rfl rfl) rfl rfl rfl rfl rfl (by first | (with_reducible assumption) | omega | (simp only [lens, words_len, madd_it1_l, madd_it2_l1, *]; first | done | omega) | decide | (split <;> simp only [lens, words_len, madd_it1_l, madd_it2_l1, *]) | (with_reducible exact Lt.mono (by assumption) (by decide)))) rfl ?_
      refine OpsFrom.v (Y.move (up0 rfl rfl rfl) rfl rfl) rfl ?_
      refine OpsFrom.v (Y.ext0 (up0 rfl rfl rfl) rfl rfl) rfl ?_
      refine OpsFrom.v (Y.ext1 (up0 rfl rfl rfl) rfl rfl) rfl ?_
      refine OpsFrom.v (Y.iaSg0 ty40 ty35 (up0 rfl rfl rfl) rfl rfl rfl (by first | (with_reducible assumption) | omega | (simp only [lens, words_len, madd_it1_l, madd_it2_l1, *]; first | done | omega) | decide | (split <;> simp only [lens, words_len, madd_it1_l, madd_it2_l1, *]) | (with_reducible exact Lt.mono (by assumption) (by decide)))) rfl ?_
      refine OpsFrom.n (Y.stI ty35 (upN rfl rfl) rfl rfl rfl rfl (by first | (with_reducible assumption) | omega | (simp only [lens, words_len, madd_it1_l, madd_it2_l1, *]; first | done | omega) | decide | (split <;> simp only [lens, words_len, madd_it1_l, madd_it2_l1, *]) | (with_reducible exact Lt.mono (by assumption) (by decide)))) rfl rfl ?_
      refine OpsFrom.v (Y.assign (up0 rfl rfl rfl) rfl rfl) rfl ?_
      refine OpsFrom.nil ?_
      refine Holds.reg ?_
      refine OpsFrom.v (Y.move (up0 rfl rfl rfl) rfl rfl) rfl ?_
      refine OpsFrom.v (Y.move (up0 rfl rfl rfl) rfl rfl) rfl ?_
      refine OpsFrom.v (Y.add u64s u64m (up0 rfl rfl rfl) rfl rfl rfl) rfl ?_
      refine OpsFrom.v (Y.move (up0 rfl rfl rfl) rfl rfl) rfl ?_
      refine OpsFrom.v (Y.add u64s u64m (up0 rfl rfl rfl) rfl rfl rfl) rfl ?_
      refine OpsFrom.v (Y.assign (up0 rfl rfl rfl) rfl rfl) rfl ?_
      refine OpsFrom.nil ?_
      refine Holds.reg ?_
      refine OpsFrom.v (Y.addI (b := 1) (up0 rfl rfl rfl) rfl rfl rfl (by first | (with_reducible assumption) | omega | (simp only [lens, words_len, madd_it1_l, madd_it2_l1, *]; first | done | omega) | decide | (split <;> simp only [lens, words_len, madd_it1_l, madd_it2_l1, *]) | (with_reducible exact Lt.mono (by assumption) (by decide)))) rfl ?_
      refine OpsFrom.v (Y.move (up0 rfl rfl rfl) rfl rfl) rfl ?_
      refine OpsFrom.nil ?_
      exact Holds.again (i2_ + 1) (by omega) (by omega) [] ⟨⟨rfl, rfl, rfl, rfl, rfl, rfl, rfl, rfl, rfl, rfl, rfl, rfl, (nEq (by rw [madd_it2_s]; unfold madd_s2; first | (dsimp only; done) | rfl)), rfl, rfl, (nEq (by omega)), trivial⟩, ⟨rfl, rfl, (hEq (by rw [madd_it2_s]; unfold madd_s2; first | (dsimp only; done) | rfl)), rfl, trivial⟩, rfl, rfl⟩
    · obtain rfl : i2_ = 4 := by omega
      refine Holds.exit ?_
      refine Holds.seq ?_
      refine Holds.reg ?_
      refine OpsFrom.v (Y.move (up0 rfl rfl rfl) rfl rfl) rfl ?_
      refine OpsFrom.v (Y.addI (b := 4) (up0 rfl rfl rfl) rfl rfl rfl (by first | (with_reducible assumption) | omega | (simp only [lens, words_len, madd_it1_l, madd_it2_l1, *]; first | done | omega) | decide | (split <;> simp only [lens, words_len, madd_it1_l, madd_it2_l1, *]) | (with_reducible exact Lt.mono (by assumption) (by decide)))) rfl ?_
      refine OpsFrom.v (Y.assign (up0 rfl rfl rfl) rfl rfl) rfl ?_
      refine OpsFrom.nil ?_
      refine Holds.block ?_
      refine Holds.loop (fun (i3_ : Nat) => ⟨[(6, .one (.p 6 0)), (8, .one (.sg 23 0 (b.length / 8))), (9, .one (.sg 27 0 (((words c) ++ [0, 0, 0, 0, 0]).length))), (28, .one (.sg 21 0 (a.length / 8))), (29, .one (.n .i64 (a.length / 8))), (30, .one (.n .i64 i1_)), (31, .one (.b (decide (i1_ < (a.length / 8))))), (32, .one (.n .i64 i1_)), (33, .one (.p 21 i1_)), (34, .one (.n .u64 ((words a).getD i1_ 0))), (10, .one (.n .i64 i1_)), (11, .one (.n .u64 ((words a).getD i1_ 0))), (12, .one (.n .u64 ((madd_it3 a b i1_ (madd_it1 a b c i1_) i3_).1))), (35, .one (.sg 23 0 (b.length / 8))), (36, .one (.n .i64 (b.length / 8))), (37, .one (.n .i64 4)), (38, .one (.b (decide (4 < (b.length / 8))))), (76, .one (.n .i64 i1_)), (77, .one (.n .i64 (i1_ + 4))), (19, .one (.n .i64 ((i1_ + 4) + i3_)))], [(6, .own (.ints .u8 (List.replicate 32 0))), (23, .own (.ints .u64 (words b))), (27, .own (.ints .u64 ((madd_it3 a b i1_ (madd_it1 a b c i1_) i3_).2))), (21, .own (.ints .u64 (words a)))]⟩) (fun (i3_ : Nat) => i3_ ≤ (fz (fun j => (madd_it3 a b i1_ (madd_it1 a b c i1_) j).1) (5 - i1_))) (fun (i3_ : Nat) => (fz (fun j => (madd_it3 a b i1_ (madd_it1 a b c i1_) j).1) (5 - i1_)) - i3_) 0 (by first | (with_reducible assumption) | omega | (simp only [lens, words_len, madd_it1_l, madd_it2_l1, madd_it3_l1, *]; first | done | omega) | decide | (split <;> simp only [lens, words_len, madd_it1_l, madd_it2_l1, madd_it3_l1, *]) | (with_reducible exact Lt.mono (by assumption) (by decide))) [] ⟨⟨rfl, rfl, rfl, rfl, rfl, rfl, rfl, rfl, rfl, rfl, rfl, rfl, (nEq (congrArg (fun (s : Nat × (List Nat)) => s.1) (madd_it3_z a b i1_ (madd_it1 a b c i1_))).symm), rfl, rfl, rfl, rfl, rfl, rfl, rfl, trivial⟩, ⟨rfl, rfl, (hEq (congrArg (fun (s : Nat × (List Nat)) => s.2) (madd_it3_z a b i1_ (madd_it1 a b c i1_))).symm), rfl, trivial⟩, rfl, rfl⟩ ?_
      intro i3_ k3_
      have hfz := fz_le (fun j => (madd_it3 a b i1_ (madd_it1 a b c i1_) j).1) (5 - i1_)
      have hcl := (madd_car l_a l_b b_a b_b (show i1_ < 4 by omega) hml hm i3_ (by omega)).2.1
      refine Holds.seq ?_
      refine Holds.seq ?_
      refine Holds.reg ?_
      refine OpsFrom.v (Y.move (up0 rfl rfl rfl) rfl rfl) rfl ?_
      refine OpsFrom.v (Y.gtr (b := 0) (up0 rfl rfl rfl) rfl rfl rfl) rfl ?_
      refine OpsFrom.nil ?_
      refine Holds.condD rfl (fun h79 => ?_) (fun h79 => ?_)
      · have h3c := (fz_iff (madd_z l_a l_b b_a b_b (show i1_ < 4 by omega) hml hm (madd_v l_a l_b l_c b_a b_b b_c (show i1_ < 4 by omega))) k3_).1 h79
        refine Holds.skip ?_
        refine Holds.seq ?_
        refine Holds.block ?_
        refine Holds.reg ?_
        refine OpsFrom.v (Y.move (up0 rfl rfl rfl) rfl rfl) rfl ?_
        refine OpsFrom.v (Y.move (up0 rfl rfl rfl) rfl rfl) rfl ?_
        refine OpsFrom.v (Y.move (up0 rfl rfl rfl) rfl rfl) rfl ?_
        refine OpsFrom.v (Y.move (up0 rfl rfl rfl) rfl rfl) rfl ?_
        refine OpsFrom.v (Y.iaSg0 ty40 ty35 (up0 rfl rfl rfl) rfl rfl rfl (by first | (with_reducible assumption) | omega | (simp only [lens, words_len, madd_it1_l, madd_it2_l1, madd_it3_l1, *]; first | done | omega) | decide | (split <;> simp only [lens, words_len, madd_it1_l, madd_it2_l1, madd_it3_l1, *]) | (with_reducible exact Lt.mono (by assumption) (by decide)))) rfl ?_
        refine OpsFrom.v (Y.ldI ty35 rfl (up0 rfl rfl rfl) rfl rfl rfl (by first | (with_reducible assumption) | omega | (simp only [lens, words_len, madd_it1_l, madd_it2_l1, madd_it3_l1, *]; first | done | omega) | decide | (split <;> simp only [lens, words_len, madd_it1_l, madd_it2_l1, madd_it3_l1, *]) | (with_reducible exact Lt.mono (by assumption) (by decide)))) rfl ?_
        refine OpsFrom.v (Y.move (up0 rfl rfl rfl) rfl rfl) rfl ?_
        refine OpsFrom.v (Y.add64 (c := 0) ext23 (up0 rfl rfl rfl) rfl rfl rfl rfl rfl (by first | (with_reducible assumption) | omega | (simp only [lens, words_len, madd_it1_l, madd_it2_l1, madd_it3_l1, *]; first | done | omega) | decide | (split <;> simp only [lens, words_len, madd_it1_l, madd_it2_l1, madd_it3_l1, *]) | (with_reducible exact Lt.mono (by assumption) (by decide)))) rfl ?_
        refine OpsFrom.v (Y.move (up0 rfl rfl rfl) rfl rfl) rfl ?_
        refine OpsFrom.v (Y.ext0 (up0 rfl rfl rfl) rfl rfl) rfl ?_
        refine OpsFrom.v (Y.ext1 (up0 rfl rfl rfl) rfl rfl) rfl ?_
        refine OpsFrom.v (Y.iaSg0 ty40 ty35 (up0 rfl rfl rfl) rfl rfl rfl (by first | (with_reducible assumption) | omega | (simp only [lens, words_len, madd_it1_l, madd_it2_l1, madd_it3_l1, *]; first | done | omega) | decide | (split <;> simp only [lens, words_len, madd_it1_l, madd_it2_l1, madd_it3_l1, *]) | (with_reducible exact Lt.mono (by assumption) (by decide)))) rfl ?_
        refine OpsFrom.n (Y.stI ty35 (upN rfl rfl) rfl rfl rfl rfl (by first | (with_reducible assumption) | omega | (simp only [lens, words_len, madd_it1_l, madd_it2_l1, madd_it3_l1, *]; first | done | omega) | decide | (split <;> simp only [lens, words_len, madd_it1_l, madd_it2_l1, madd_it3_l1, *]) | (with_reducible exact Lt.mono (by assumption) (by decide)))) rfl rfl ?_
        refine OpsFrom.v (Y.assign (up0 rfl rfl rfl) rfl rfl) rfl ?_
        refine OpsFrom.nil ?_
        refine Holds.reg ?_
        refine OpsFrom.v (Y.move (up0 rfl rfl rfl) rfl rfl) rfl ?_
        refine OpsFrom.v (Y.addI (b := 1) (up0 rfl rfl rfl) rfl rfl rfl (by first | (with_reducible assumption) | omega | (simp only [lens, words_len, madd_it1_l, madd_it2_l1, madd_it3_l1, *]; first | done | omega) | decide | (split <;> simp only [lens, words_len, madd_it1_l, madd_it2_l1, madd_it3_l1, *]) | (with_reducible exact Lt.mono (by assumption) (by decide)))) rfl ?_
        refine OpsFrom.v (Y.assign (up0 rfl rfl rfl) rfl rfl) rfl ?_
        refine OpsFrom.nil ?_
        exact Holds.again (i3_ + 1) (by omega) (by omega) [] ⟨⟨rfl, rfl, rfl, rfl, rfl, rfl, rfl, rfl, rfl, rfl, rfl, rfl, (nEq (by rw [madd_it3_s]; unfold madd_s3; first | (dsimp only; done) | rfl)), rfl, rfl, rfl, rfl, rfl, rfl, (nEq (by omega)), trivial⟩, ⟨rfl, rfl, (hEq (by rw [madd_it3_s]; unfold madd_s3; first | (dsimp only; done) | rfl)), rfl, trivial⟩, rfl, rfl⟩
      · have h3c : ¬ (i3_ < (fz (fun j => (madd_it3 a b i1_ (madd_it1 a b c i1_) j).1) (5 - i1_))) := fun q => h79 ((fz_iff (madd_z l_a l_b b_a b_b (show i1_ < 4 by omega) hml hm (madd_v l_a l_b l_c b_a b_b b_c (show i1_ < 4 by omega))) k3_).2 q)
        obtain rfl : i3_ = fz (fun j => (madd_it3 a b i1_ (madd_it1 a b c i1_) j).1) (5 - i1_) := by omega
        refine Holds.exit ?_
        refine Holds.reg ?_
        refine OpsFrom.v (Y.addI (b := 1) (up0 rfl rfl rfl) rfl rfl rfl (by first | (with_reducible assumption) | omega | (simp only [lens, words_len, madd_it1_l, madd_it2_l1, madd_it3_l1, *]; first | done | omega) | decide | (split <;> simp only [lens, words_len, madd_it1_l, madd_it2_l1, madd_it3_l1, *]) | (with_reducible exact Lt.mono (by assumption) (by decide)))) rfl ?_
        refine OpsFrom.v (Y.move (up0 rfl rfl rfl) rfl rfl) rfl ?_
        refine OpsFrom.nil ?_
        exact Holds.again (i1_ + 1) (by omega) (by omega) [] ⟨⟨rfl, rfl, rfl, rfl, rfl, (nEq (by omega)), trivial⟩, ⟨rfl, rfl, (hEq (by rw [madd_it1_s]; unfold madd_s1; first | (dsimp only; done) | rfl)), rfl, trivial⟩, rfl, rfl⟩
  · obtain rfl : i1_ = 4 := by omega
    refine Holds.exit ?_
    refine Holds.seq ?_
    refine Holds.reg ?_
    refine OpsFrom.v (Y.move (up0 rfl rfl rfl) rfl rfl) rfl ?_
    refine OpsFrom.v (Y.callV (w18 _ (by first | (with_reducible assumption) | omega | (simp only [lens, words_len, madd_it1_l, moduloS_len, *]; first | done | omega) | decide | (split <;> simp only [lens, words_len, madd_it1_l, moduloS_len, *]) | (with_reducible exact Lt.mono (by assumption) (by decide)))) fnok18 (up0 rfl rfl rfl) rfl rfl (.cons _ _ _ _ rfl .nil) (.cons _ _ _ _ (.all rfl (by first | (with_reducible assumption) | omega | (simp only [lens, words_len, madd_it1_l, moduloS_len, *]; first | done | omega) | decide | (split <;> simp only [lens, words_len, madd_it1_l, moduloS_len, *]) | (with_reducible exact Lt.mono (by assumption) (by decide)))) .nil) rfl rfl) rfl ?_
    refine OpsFrom.v (Y.callV (w20 _ (by first | (with_reducible assumption) | omega | (simp only [lens, words_len, madd_it1_l, moduloS_len, bytes_len, *]; first | done | omega) | decide | (split <;> simp only [lens, words_len, madd_it1_l, moduloS_len, bytes_len, *]) | (with_reducible exact Lt.mono (by assumption) (by decide)))) fnok20 (up0 rfl rfl rfl) rfl rfl (.cons _ _ _ _ rfl .nil) (.cons _ _ _ _ (.same _) .nil) rfl rfl) rfl ?_
    refine OpsFrom.n (Y.stR ty23 (upN rfl rfl) rfl rfl rfl rfl rfl (by first | (with_reducible assumption) | omega | (simp only [lens, words_len, madd_it1_l, moduloS_len, bytes_len, *]; first | done | omega) | decide | (split <;> simp only [lens, words_len, madd_it1_l, moduloS_len, bytes_len, *]) | (with_reducible exact Lt.mono (by assumption) (by decide))) (by first | (with_reducible assumption) | omega | (simp only [lens, words_len, madd_it1_l, moduloS_len, bytes_len, *]; first | done | omega) | decide | (split <;> simp only [lens, words_len, madd_it1_l, moduloS_len, bytes_len, *]) | (with_reducible exact Lt.mono (by assumption) (by decide))) (by decide)) rfl rfl ?_
    refine OpsFrom.nil ?_
    refine Holds.ret ?_
    exact Holds.ret1 (.inl rfl) rfl (.rowN rfl rfl ty23 rfl (by first | (with_reducible assumption) | omega | (simp only [lens, words_len, madd_it1_l, moduloS_len, bytes_len, *]; first | done | omega) | decide | (split <;> simp only [lens, words_len, madd_it1_l, moduloS_len, bytes_len, *]) | (with_reducible exact Lt.mono (by assumption) (by decide))) (by decide)) (.same _) rfl

theorem madd_val {a b c : List Nat} (la : a.length = 32) (lb : b.length = 32) (lc : c.length = 32) (ha : Lt 256 a) (hb : Lt 256 b) (hc : Lt 256 c) : madd a b c = digs 256 32 ((val 256 a * val 256 b + val 256 c) % L) := by
  obtain ⟨h1, h2, h3, _⟩ := madd_out la lb lc ha hb hc 4 (Nat.le_refl _)
  rw [List.take_of_length_le (by rw [words_len]; omega), words_val ha (by omega), words_val hb (by omega), words_val hc (by omega)] at h3
  unfold madd
  rw [moduloS_val h1, h3]

end Go.Proofs.Ytfnfcmgbbijlnaa
