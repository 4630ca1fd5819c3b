/-
  FxX: numbers in places: a list of digits, the least first.
-/
import Derived.Test.YtkpelchcpiafaaaFxT
namespace Go.Fx

/-- The number that the digits are, the least first. -/
def val (B : Nat) : List Nat → Nat
  | [] => 0
  | x :: xs => x + B * val B xs
/-- A number's first n digits. -/
def digs (B n N : Nat) : List Nat := (List.range n).map fun i => N / B ^ i % B

theorem digs_len (B n N : Nat) : (digs B n N).length = n := by simp [digs]
theorem digs_getD {B n N i : Nat} (h : i < n) : (digs B n N).getD i 0 = N / B ^ i % B := getD_map_range h
theorem digs_lt {B : Nat} (hB : 0 < B) (n N : Nat) : Lt B (digs B n N) := Lt.map_range hB fun _ _ => Nat.mod_lt _ hB
theorem val_append (B : Nat) : ∀ (xs ys : List Nat), val B (xs ++ ys) = val B xs + B ^ xs.length * val B ys
  | [], ys => by simp [val]
  | x :: xs, ys => by
    simp only [List.cons_append, val, val_append B xs ys, List.length_cons, Nat.pow_succ, Nat.mul_add]
    rw [Nat.mul_comm (B ^ xs.length) B, Nat.mul_assoc]
    omega
theorem val_lt {B : Nat} : ∀ {xs : List Nat}, (∀ x ∈ xs, x < B) → val B xs < B ^ xs.length
  | [], _ => by simp [val]
  | x :: xs, h => by
    have h1 := h x (by simp)
    have h2 := val_lt (xs := xs) fun y hy => h y (by simp [hy])
    simp only [val, List.length_cons, Nat.pow_succ]
    have h3 : B * (val B xs + 1) ≤ B * B ^ xs.length := Nat.mul_le_mul_left _ h2
    rw [Nat.mul_add, Nat.mul_one, Nat.mul_comm B (B ^ xs.length)] at h3
    omega
theorem Lt.val_lt {B : Nat} {xs : List Nat} (h : Lt B xs) : val B xs < B ^ xs.length := Go.Fx.val_lt h.mem
theorem val_replicate (B n : Nat) : val B (List.replicate n 0) = 0 := by
  induction n with
  | zero => rfl
  | succ n ih => rw [List.replicate_succ, val, ih]; simp
theorem digs_succ (B n N : Nat) : digs B (n + 1) N = N % B :: digs B n (N / B) := by
  unfold digs
  rw [List.range_succ_eq_map, List.map_cons, List.map_map]
  refine congr (congrArg _ (by simp)) (List.map_congr_left fun i _ => ?_)
  simp only [Function.comp, Nat.pow_succ, Nat.succ_eq_add_one]
  rw [Nat.mul_comm (B ^ i) B, Nat.div_div_eq_div_mul]
theorem val_digs {B : Nat} (hB : 0 < B) : ∀ (n N : Nat), val B (digs B n N) = N % B ^ n
  | 0, N => by simp [digs, val, Nat.mod_one]
  | n + 1, N => by
    rw [digs_succ, val, val_digs hB n, Nat.pow_succ, Nat.mul_comm (B ^ n) B, Nat.mod_mul]
theorem digs_val {B : Nat} (hB : 0 < B) : ∀ {xs : List Nat}, (∀ x ∈ xs, x < B) → digs B xs.length (val B xs) = xs
  | [], _ => rfl
  | x :: xs, h => by
    have h1 := h x (by simp)
    rw [List.length_cons, digs_succ, val, Nat.add_mul_mod_self_left, Nat.mod_eq_of_lt h1, Nat.add_mul_div_left _ _ hB, Nat.div_eq_of_lt h1, Nat.zero_add,
      digs_val hB fun y hy => h y (by simp [hy])]
theorem val_inj {B : Nat} (hB : 0 < B) {xs ys : List Nat} (hx : ∀ x ∈ xs, x < B) (hy : ∀ y ∈ ys, y < B) (hl : xs.length = ys.length) (h : val B xs = val B ys) : xs = ys := by
  rw [← digs_val hB hx, ← digs_val hB hy, hl, h]
theorem val_set {B : Nat} : ∀ {xs : List Nat} {i v : Nat}, i < xs.length → val B (xs.set i v) + B ^ i * xs.getD i 0 = val B xs + B ^ i * v
  | [], i, v, h => by simp at h
  | x :: xs, 0, v, _ => by simp [val]; omega
  | x :: xs, i + 1, v, h => by
    have ih := val_set (B := B) (xs := xs) (i := i) (v := v) (by simpa using h)
    simp only [List.set_cons_succ, val, List.getD_cons_succ, Nat.pow_succ]
    have e : ∀ z, B ^ i * B * z = B * (B ^ i * z) := fun z => by rw [Nat.mul_comm (B ^ i) B, Nat.mul_assoc]
    rw [e, e]
    have := congrArg (B * ·) ih
    simp only [Nat.mul_add] at this
    omega
theorem val_split (B n : Nat) (xs : List Nat) (h : n ≤ xs.length) : val B xs = val B (xs.take n) + B ^ n * val B (xs.drop n) := by
  conv => lhs; rw [← List.take_append_drop n xs]
  rw [val_append, List.length_take, Nat.min_eq_left h]
/-- From the greatest digit down, the first that differs decides. -/
theorem val_cmp {B : Nat} {xs ys : List Nat} (hx : ∀ x ∈ xs, x < B) (hy : ∀ y ∈ ys, y < B) (hl : xs.length = ys.length) {i : Nat} (hi : i < xs.length) (he : ∀ j, i < j → j < xs.length → xs.getD j 0 = ys.getD j 0) (hne : xs.getD i 0 ≠ ys.getD i 0) :
    (xs.getD i 0 < ys.getD i 0) ↔ val B xs < val B ys := by
  have hd : xs.drop (i + 1) = ys.drop (i + 1) := by
    refine ext_getD (by simp [hl]) fun j hj => ?_
    rw [getD_drop, getD_drop]
    simp at hj
    exact he _ (by omega) (by omega)
  have key : ∀ (zs : List Nat), i < zs.length → (∀ z ∈ zs, z < B) → val B zs = val B (zs.take i) + B ^ i * (zs.getD i 0 + B * val B (zs.drop (i + 1))) ∧ val B (zs.take i) < B ^ i := by
    intro zs hz hzs
    refine ⟨?_, ?_⟩
    · rw [val_split B i zs (by omega)]
      have : zs.drop i = zs.getD i 0 :: zs.drop (i + 1) := by
        rw [List.drop_eq_getElem_cons hz]; simp [List.getD_eq_getElem?_getD, hz]
      rw [this, val]
    · have := Go.Fx.val_lt (B := B) (xs := zs.take i) fun x hx => hzs x (List.mem_of_mem_take hx)
      rwa [List.length_take, Nat.min_eq_left (by omega)] at this
  obtain ⟨e1, l1⟩ := key xs hi hx
  obtain ⟨e2, l2⟩ := key ys (by omega) hy
  rw [e1, e2, hd]
  generalize val B (xs.take i) = p at *
  generalize val B (ys.take i) = q at *
  generalize B * val B (ys.drop (i + 1)) = t at *
  generalize xs.getD i 0 = a at *
  generalize ys.getD i 0 = b at *
  generalize B ^ i = P at *
  constructor
  · intro h
    have : P * (a + 1 + t) ≤ P * (b + t) := Nat.mul_le_mul_left _ (by omega)
    have e : P * (a + 1 + t) = P * (a + t) + P := by rw [show a + 1 + t = (a + t) + 1 by omega, Nat.mul_add, Nat.mul_one]
    omega
  · intro h
    rcases Nat.lt_or_ge a b with h' | h'
    · exact h'
    · have : P * (b + 1 + t) ≤ P * (a + t) := Nat.mul_le_mul_left _ (by omega)
      have e : P * (b + 1 + t) = P * (b + t) + P := by rw [show b + 1 + t = (b + t) + 1 by omega, Nat.mul_add, Nat.mul_one]
      omega
/-- Two bases. -/
theorem val_pow (B k : Nat) : ∀ (n : Nat) (xs : List Nat), xs.length = n * k → val (B ^ k) ((List.range n).map fun i => val B ((xs.drop (k * i)).take k)) = val B xs
  | 0, xs, h => by
    have : xs = [] := List.length_eq_zero_iff.1 (by simpa using h)
    subst this; rfl
  | n + 1, xs, h => by
    have hk : k ≤ xs.length := by rw [h, Nat.add_mul, Nat.one_mul]; omega
    have ih := val_pow B k n (xs.drop k) (by simp [h, Nat.add_mul])
    rw [List.range_succ_eq_map, List.map_cons, List.map_map, val]
    have e : ((fun i => val B ((xs.drop (k * i)).take k)) ∘ Nat.succ) = fun i => val B (((xs.drop k).drop (k * i)).take k) := by
      funext i
      simp only [Function.comp, List.drop_drop, Nat.succ_eq_add_one, Nat.mul_add, Nat.mul_one, Nat.add_comm]
    rw [e, ih, Nat.mul_zero, List.drop_zero, ← val_split B k xs hk]
end Go.Fx
