/-
  Walks: primes.
-/
import Derived.Test.YtjgcmfedofmkpaaFt
import Derived.Test.YtjgcmfedofmkpaaFc
namespace Go.Proofs.Ytjgcmfedofmkpaa
open Go Go.Fx
set_option linter.unusedVariables false
set_option linter.unusedSimpArgs false
def prL : List Nat := [2, 3, 5, 7, 11, 13, 17, 19, 23, 29, 31, 37, 41, 43, 47, 53, 59, 61, 67, 71, 73, 79, 83, 89, 97, 101, 103, 107, 109, 113, 127, 131, 137, 139, 149, 151, 157, 163, 167, 173, 179, 181, 191, 193, 197, 199, 211, 223, 227, 229, 233, 239, 241, 251, 257, 263, 269, 271, 277, 281, 283, 293, 307, 311, 313, 317, 331, 337, 347, 349, 353, 359, 367, 373, 379, 383, 389, 397, 401, 409]
/-- How many numbers from 2 on have a square of at most p. -/
def pN (p : Nat) : Nat := (List.range 20).countP fun k => decide ((2 + k) * (2 + k) ≤ p)
theorem pN_iff : ∀ p, p < 411 → ∀ k, k < 21 → k ≤ pN p → ((2 + k) * (2 + k) ≤ p ↔ k < pN p) := by decide +kernel
theorem pN_le (p : Nat) : pN p ≤ 20 := by
  unfold pN
  exact Nat.le_trans List.countP_le_length (by simp)
def rprime_s2 (m1_ : Nat × Int) (i2_ : Nat) (m2_ : Bool × Nat) : Bool × Nat :=
  if m2_.1 = true then
    let v48_ : Nat := ((m1_.1 + 1) % 18446744073709551616) % m2_.2
    (decide (v48_ ≠ 0), (m2_.2 + 1) % 18446744073709551616)
  else
    (false, (m2_.2 + 1) % 18446744073709551616)
def rprime_it2 (m1_ : Nat × Int) (i2_ : Nat) : Bool × Nat := iter (rprime_s2 m1_) i2_ (true, 2)
theorem rprime_it2_z (m1_ : Nat × Int) : rprime_it2 m1_ 0 = (true, 2) := rfl
theorem rprime_it2_s (m1_ : Nat × Int) (i2_ : Nat) : rprime_it2 m1_ (i2_ + 1) = rprime_s2 m1_ i2_ (rprime_it2 m1_ i2_) := by unfold rprime_it2; exact iterS _ _ _
theorem rprime_n2 (m : Nat × Int) : ∀ k, k ≤ 20 → (rprime_it2 m k).2 = 2 + k
  | 0, _ => rfl
  | k + 1, h => by
    rw [rprime_it2_s]
    unfold rprime_s2
    split <;> (dsimp only; rw [rprime_n2 m k (by omega)]; omega)
theorem rprime_iff2 {m : Nat × Int} (hm : m.1 < 410) {k : Nat} (hk : k ≤ pN ((m.1 + 1) % 18446744073709551616)) : ((rprime_it2 m k).2 * (rprime_it2 m k).2 % 18446744073709551616 ≤ (m.1 + 1) % 18446744073709551616) ↔ k < pN ((m.1 + 1) % 18446744073709551616) := by
  have h20 := Nat.le_trans hk (pN_le _)
  rw [rprime_n2 m k h20, Nat.mod_eq_of_lt (a := (2 + k) * (2 + k)) (Nat.lt_of_le_of_lt (Nat.mul_le_mul (show 2 + k ≤ 22 by omega) (show 2 + k ≤ 22 by omega)) (by decide))]
  exact pN_iff _ (by omega) k (by omega) hk
def rprime_s1  (i1_ : Nat) (m1_ : Nat × Int) : Nat × Int :=
  let v39_ : Bool := (rprime_it2 m1_ (pN ((m1_.1 + 1) % 18446744073709551616))).1
  if v39_ = true then
    ((m1_.1 + 1) % 18446744073709551616, m1_.2 + ((1 : Nat) : Int))
  else
    ((m1_.1 + 1) % 18446744073709551616, m1_.2)
def rprime_it1  (i1_ : Nat) : Nat × Int := iter (rprime_s1) i1_ (1, (-1 : Int))
theorem rprime_it1_z  : rprime_it1 0 = (1, (-1 : Int)) := rfl
theorem rprime_it1_s  (i1_ : Nat) : rprime_it1 (i1_ + 1) = rprime_s1 i1_ (rprime_it1 i1_) := by unfold rprime_it1; exact iterS _ _ _
def prF (k : Nat) : Int := ((prL.countP fun q => decide (q ≤ 1 + k) : Nat) : Int) - 1
theorem rprime_st : ∀ k, k < 408 → rprime_s1 k (1 + k, prF k) = (1 + (k + 1), prF (k + 1)) := by unfold rprime_s1 rprime_it2 rprime_s2; decide +kernel
theorem rprime_it : ∀ k, k ≤ 408 → rprime_it1 k = (1 + k, prF k)
  | 0, _ => by rw [rprime_it1_z]; rfl
  | k + 1, h => by rw [rprime_it1_s, rprime_it k (by omega), rprime_st k (by omega)]
theorem prF_mono {i j : Nat} (h : i ≤ j) : prF i ≤ prF j := by
  have : (prL.countP fun q => decide (q ≤ 1 + i)) ≤ (prL.countP fun q => decide (q ≤ 1 + j)) := List.countP_mono_left fun x _ hx => by simp only [decide_eq_true_eq] at hx ⊢; omega
  unfold prF
  omega
theorem prF_at : ∀ n, n < 80 → prL.getD n 0 - 1 ≤ 408 ∧ 0 < prL.getD n 0 - 1 ∧ prF (prL.getD n 0 - 1) = n ∧ prF (prL.getD n 0 - 1 - 1) = (n : Int) - 1 := by decide +kernel
theorem prF_bd : ∀ k, k < 409 → -1 ≤ prF k ∧ prF k < 80 := by decide +kernel
theorem rprime_iff {n k : Nat} (hn : n < 80) (hk : k ≤ prL.getD n 0 - 1) : ((rprime_it1 k).2 < ((n : Nat) : Int)) ↔ k < prL.getD n 0 - 1 := by
  obtain ⟨h1, h2, h3, h4⟩ := prF_at n hn
  rw [rprime_it k (by omega)]
  dsimp only
  constructor
  · intro h
    by_cases hj : k = prL.getD n 0 - 1
    · rw [hj, h3] at h; omega
    · omega
  · intro h
    have := prF_mono (show k ≤ prL.getD n 0 - 1 - 1 by omega)
    omega
def rprime (n : Nat) : Nat :=
  (rprime_it1 (prL.getD n 0 - 1)).1
theorem w_rprime (n : Nat) (h_n : n < 80) : VC Try.prog 28 [.one (.n .i64 n)] (.one (.n .u64 (rprime n))) := by
  refine VC.go Try.func28 rfl Try.ntmps28 rfl rfl fun O w => ?_
  refine Holds.seq ?_
  refine Holds.reg ?_
  refine OpsFrom.v (Y.assign (v := (.one (.n .u64 0))) (up0 rfl rfl rfl) rfl rfl) rfl ?_
  refine OpsFrom.nil ?_
  refine Holds.seq ?_
  refine Holds.reg ?_
  refine OpsFrom.v (Y.assign (v := (.one (.n .u64 1))) (up0 rfl rfl rfl) rfl rfl) rfl ?_
  refine OpsFrom.nil ?_
  refine Holds.seq ?_
  refine Holds.seq ?_
  refine Holds.reg ?_
  refine OpsFrom.v (Y.assign (up0 rfl rfl rfl) rfl rfl) rfl ?_
  refine OpsFrom.nil ?_
  refine Holds.block ?_
  refine Holds.loop (fun (i1_ : Nat) => ⟨[(0, .one (.n .i64 n)), (2, .one (.n .u64 0)), (3, .one (.n .u64 ((rprime_it1 i1_).1))), (4, .one (.z ((rprime_it1 i1_).2)))], []⟩) (fun (i1_ : Nat) => i1_ ≤ (prL.getD n 0 - 1)) (fun (i1_ : Nat) => (prL.getD n 0 - 1) - i1_) 0 (by first | (with_reducible assumption) | omega | (simp only [lens, *]; first | done | omega) | decide | (split <;> simp only [lens, *]) | (with_reducible exact Lt.mono (by assumption) (by decide)) | (simp only [Cs.len]; done) | rfl) [] ⟨⟨rfl, rfl, (nEq (congrArg (fun (s : Nat × Int) => s.1) (rprime_it1_z)).symm), rfl, trivial⟩, trivial, rfl, rfl⟩ ?_
  intro i1_ k1_
  have hpa := (prF_at n h_n).1
  have hpi := rprime_it i1_ (by omega)
  have hp1 : (rprime_it1 i1_).1 = 1 + i1_ := by rw [hpi]
  have hpb := prF_bd i1_ (by omega)
  have hp2 : (rprime_it1 i1_).2 = prF i1_ := by rw [hpi]
  refine Holds.seq ?_
  refine Holds.seq ?_
  refine Holds.reg ?_
  refine OpsFrom.v (Y.move (up0 rfl rfl rfl) rfl rfl) rfl ?_
  refine OpsFrom.v (Y.move (up0 rfl rfl rfl) rfl rfl) rfl ?_
  refine OpsFrom.v (Y.lssZ (up0 rfl rfl rfl) rfl rfl rfl rfl rfl) rfl ?_
  refine OpsFrom.nil ?_
  refine Holds.condD rfl (fun h9 => ?_) (fun h9 => ?_)
  · have h1c := (rprime_iff h_n k1_).1 h9
    refine Holds.skip ?_
    refine Holds.block ?_
    refine Holds.seq ?_
    refine Holds.reg ?_
    refine OpsFrom.v (Y.move (up0 rfl rfl rfl) rfl rfl) rfl ?_
    refine OpsFrom.v (Y.add (b := 1) u64s u64m (up0 rfl rfl rfl) rfl rfl rfl) rfl ?_
    refine OpsFrom.v (Y.assign (up0 rfl rfl rfl) rfl rfl) rfl ?_
    refine OpsFrom.nil ?_
    refine Holds.seq ?_
    refine Holds.reg ?_
    refine OpsFrom.v (Y.assign (up0 rfl rfl rfl) rfl rfl) rfl ?_
    refine OpsFrom.nil ?_
    refine Holds.seq ?_
    refine Holds.seq ?_
    refine Holds.reg ?_
    refine OpsFrom.v (Y.assign (v := (.one (.n .u64 2))) (up0 rfl rfl rfl) rfl rfl) rfl ?_
    refine OpsFrom.nil ?_
    refine Holds.block ?_
    refine Holds.loop (fun (i2_ : Nat) => ⟨[(0, .one (.n .i64 n)), (2, .one (.n .u64 0)), (3, .one (.n .u64 (((rprime_it1 i1_).1 + 1) % 18446744073709551616))), (4, .one (.z ((rprime_it1 i1_).2))), (7, .one (.z ((rprime_it1 i1_).2))), (8, .one (.n .i64 n)), (9, .one (.b (decide ((rprime_it1 i1_).2 < ((n : Nat) : Int))))), (10, .one (.n .u64 ((rprime_it1 i1_).1))), (11, .one (.n .u64 (((rprime_it1 i1_).1 + 1) % 18446744073709551616))), (5, .one (.b ((rprime_it2 (rprime_it1 i1_) i2_).1))), (6, .one (.n .u64 ((rprime_it2 (rprime_it1 i1_) i2_).2)))], []⟩) (fun (i2_ : Nat) => i2_ ≤ (pN (((rprime_it1 i1_).1 + 1) % 18446744073709551616))) (fun (i2_ : Nat) => (pN (((rprime_it1 i1_).1 + 1) % 18446744073709551616)) - i2_) 0 (by first | (with_reducible assumption) | omega | (simp only [lens, *]; first | done | omega) | decide | (split <;> simp only [lens, *]) | (with_reducible exact Lt.mono (by assumption) (by decide)) | (simp only [Cs.len]; done) | rfl) [] ⟨⟨rfl, rfl, rfl, (zEq (by first | (with_reducible assumption) | omega | (simp only [lens, *]; first | done | omega) | decide | (split <;> simp only [lens, *]) | (with_reducible exact Lt.mono (by assumption) (by decide)) | (simp only [Cs.len]; done) | rfl)), (zEq (by first | (with_reducible assumption) | omega | (simp only [lens, *]; first | done | omega) | decide | (split <;> simp only [lens, *]) | (with_reducible exact Lt.mono (by assumption) (by decide)) | (simp only [Cs.len]; done) | rfl)), rfl, rfl, rfl, rfl, (bEq (congrArg (fun (s : Bool × Nat) => s.1) (rprime_it2_z (rprime_it1 i1_))).symm), (nEq (congrArg (fun (s : Bool × Nat) => s.2) (rprime_it2_z (rprime_it1 i1_))).symm), trivial⟩, trivial, rfl, rfl⟩ ?_
    intro i2_ k2_
    have hpd := rprime_n2 (rprime_it1 i1_) i2_ (Nat.le_trans k2_ (pN_le _))
    refine Holds.seq ?_
    refine Holds.seq ?_
    refine Holds.reg ?_
    refine OpsFrom.v (Y.move (up0 rfl rfl rfl) rfl rfl) rfl ?_
    refine OpsFrom.v (Y.move (up0 rfl rfl rfl) rfl rfl) rfl ?_
    refine OpsFrom.v (Y.mul u64s u64m (up0 rfl rfl rfl) rfl rfl rfl) rfl ?_
    refine OpsFrom.v (Y.move (up0 rfl rfl rfl) rfl rfl) rfl ?_
    refine OpsFrom.v (Y.leq (up0 rfl rfl rfl) rfl rfl rfl) rfl ?_
    refine OpsFrom.nil ?_
    refine Holds.condD rfl (fun h16 => ?_) (fun h16 => ?_)
    · have h2c := (rprime_iff2 (by omega) k2_).1 h16
      refine Holds.skip ?_
      refine Holds.seq ?_
      refine Holds.block ?_
      by_cases a9_1 : (rprime_it2 (rprime_it1 i1_) i2_).1 = true
      · refine Holds.reg ?_
        refine OpsFrom.v (Y.move (up0 rfl rfl rfl) rfl rfl) rfl ?_
        refine OpsFrom.v (Doing.isB (c := true) a9_1 (Y.move (up0 rfl rfl rfl) rfl rfl)) rfl ?_
        refine OpsFrom.v (Y.move (up1 rfl rfl rfl rfl rfl rfl) rfl rfl) rfl ?_
        refine OpsFrom.v (Y.move (up1 rfl rfl rfl rfl rfl rfl) rfl rfl) rfl ?_
        refine OpsFrom.v (Y.rem (up1 rfl rfl rfl rfl rfl rfl) rfl rfl rfl (by first | (with_reducible assumption) | omega | (simp only [lens, *]; first | done | omega) | decide | (split <;> simp only [lens, *]) | (with_reducible exact Lt.mono (by assumption) (by decide)) | (simp only [Cs.len]; done) | rfl)) rfl ?_
        refine OpsFrom.v (Y.neq (b := 0) (up1 rfl rfl rfl rfl rfl rfl) rfl rfl rfl) rfl ?_
        refine OpsFrom.v (Y.pickT (up0 rfl rfl rfl) rfl rfl rfl) rfl ?_
        refine OpsFrom.v (Y.assign (up0 rfl rfl rfl) rfl rfl) rfl ?_
        refine OpsFrom.nil ?_
        refine Holds.reg ?_
        refine OpsFrom.v (Y.move (up0 rfl rfl rfl) rfl rfl) rfl ?_
        refine OpsFrom.v (Y.add (b := 1) u64s u64m (up0 rfl rfl rfl) rfl rfl rfl) rfl ?_
        refine OpsFrom.v (Y.assign (up0 rfl rfl rfl) rfl rfl) rfl ?_
        refine OpsFrom.nil ?_
        exact Holds.again (i2_ + 1) (by omega) (by omega) [] ⟨⟨rfl, rfl, rfl, rfl, rfl, rfl, rfl, rfl, rfl, (congrArg (fun (s : Bool × Nat) => some (.one (.b s.1) : AV)) ((rprime_it2_s (rprime_it1 i1_) i2_).trans ((if_pos a9_1)))).symm, (nEq (congrArg (fun (s : Bool × Nat) => s.2) ((rprime_it2_s (rprime_it1 i1_) i2_).trans ((if_pos a9_1)))).symm), trivial⟩, trivial, rfl, rfl⟩
      · refine Holds.reg ?_
        refine OpsFrom.v (Y.move (up0 rfl rfl rfl) rfl rfl) rfl ?_
        refine OpsFrom.v (Doing.isB (c := false) (by simpa using a9_1) (Y.move (up0 rfl rfl rfl) rfl rfl)) rfl ?_
        refine OpsFrom.v (Doing.skip _ _ _ _ rfl rfl rfl rfl (dlt rfl (Nat.le_of_ble_eq_true rfl))) rfl ?_
        refine OpsFrom.v (Doing.skip _ _ _ _ rfl rfl rfl rfl (dlt rfl (Nat.le_of_ble_eq_true rfl))) rfl ?_
        refine OpsFrom.v (Doing.skip _ _ _ _ rfl rfl rfl rfl (dlt rfl (Nat.le_of_ble_eq_true rfl))) rfl ?_
        refine OpsFrom.v (Doing.skip _ _ _ _ rfl rfl rfl rfl (dlt rfl (Nat.le_of_ble_eq_true rfl))) rfl ?_
        refine OpsFrom.v (Y.pickF (up0 rfl rfl rfl) rfl rfl rfl) rfl ?_
        refine OpsFrom.v (Y.assign (up0 rfl rfl rfl) rfl rfl) rfl ?_
        refine OpsFrom.nil ?_
        refine Holds.reg ?_
        refine OpsFrom.v (Y.move (up0 rfl rfl rfl) rfl rfl) rfl ?_
        refine OpsFrom.v (Y.add (b := 1) u64s u64m (up0 rfl rfl rfl) rfl rfl rfl) rfl ?_
        refine OpsFrom.v (Y.assign (up0 rfl rfl rfl) rfl rfl) rfl ?_
        refine OpsFrom.nil ?_
        exact Holds.again (i2_ + 1) (by omega) (by omega) [] ⟨⟨rfl, rfl, rfl, rfl, rfl, rfl, rfl, rfl, rfl, (congrArg (fun (s : Bool × Nat) => some (.one (.b s.1) : AV)) ((rprime_it2_s (rprime_it1 i1_) i2_).trans ((if_neg a9_1)))).symm, (nEq (congrArg (fun (s : Bool × Nat) => s.2) ((rprime_it2_s (rprime_it1 i1_) i2_).trans ((if_neg a9_1)))).symm), trivial⟩, trivial, rfl, rfl⟩
    · have h2c : ¬ (i2_ < (pN (((rprime_it1 i1_).1 + 1) % 18446744073709551616))) := fun q => h16 ((rprime_iff2 (by omega) k2_).2 q)
      obtain rfl : i2_ = (pN (((rprime_it1 i1_).1 + 1) % 18446744073709551616)) := by omega
      refine Holds.exit ?_
      refine Holds.seq ?_
      refine Holds.reg ?_
      refine OpsFrom.v (Y.move (up0 rfl rfl rfl) rfl rfl) rfl ?_
      refine OpsFrom.nil ?_
      refine Holds.cond _ rfl (fun h26 => ?_) (fun h26 => ?_)
      · refine Holds.reg ?_
        refine OpsFrom.v (Y.move (up0 rfl rfl rfl) rfl rfl) rfl ?_
        refine OpsFrom.v (Y.addZ (b := 1) (up0 rfl rfl rfl) rfl rfl rfl rfl rfl (by first | (with_reducible assumption) | omega | (simp only [lens, *]; first | done | omega) | decide | (split <;> simp only [lens, *]) | (with_reducible exact Lt.mono (by assumption) (by decide)) | (simp only [Cs.len]; done) | rfl) (by first | (with_reducible assumption) | omega | (simp only [lens, *]; first | done | omega) | decide | (split <;> simp only [lens, *]) | (with_reducible exact Lt.mono (by assumption) (by decide)) | (simp only [Cs.len]; done) | rfl)) rfl ?_
        refine OpsFrom.v (Y.assign (up0 rfl rfl rfl) rfl rfl) rfl ?_
        refine OpsFrom.nil ?_
        exact Holds.again (i1_ + 1) (by omega) (by omega) [] ⟨⟨rfl, rfl, (nEq (congrArg (fun (s : Nat × Int) => s.1) ((rprime_it1_s i1_).trans ((if_pos h26)))).symm), (congrArg (fun (s : Nat × Int) => some (.one (.z s.2) : AV)) ((rprime_it1_s i1_).trans ((if_pos h26)))).symm, trivial⟩, trivial, rfl, rfl⟩
      · refine Holds.skip ?_
        exact Holds.again (i1_ + 1) (by omega) (by omega) [] ⟨⟨rfl, rfl, (nEq (congrArg (fun (s : Nat × Int) => s.1) ((rprime_it1_s i1_).trans ((if_neg (by first | (rw [h26]; decide) | simp [h26]))))).symm), (congrArg (fun (s : Nat × Int) => some (.one (.z s.2) : AV)) ((rprime_it1_s i1_).trans ((if_neg (by first | (rw [h26]; decide) | simp [h26]))))).symm, trivial⟩, trivial, rfl, rfl⟩
  · have h1c : ¬ (i1_ < (prL.getD n 0 - 1)) := fun q => h9 ((rprime_iff h_n k1_).2 q)
    obtain rfl : i1_ = (prL.getD n 0 - 1) := by omega
    refine Holds.exit ?_
    refine Holds.seq ?_
    refine Holds.reg ?_
    refine OpsFrom.v (Y.move (up0 rfl rfl rfl) rfl rfl) rfl ?_
    refine OpsFrom.v (Y.assign (up0 rfl rfl rfl) rfl rfl) rfl ?_
    refine OpsFrom.nil ?_
    refine Holds.ret ?_
    exact Holds.ret1 (.inl rfl) rfl (.tmp _ _ rfl) (.same _) rfl


end Go.Proofs.Ytjgcmfedofmkpaa
