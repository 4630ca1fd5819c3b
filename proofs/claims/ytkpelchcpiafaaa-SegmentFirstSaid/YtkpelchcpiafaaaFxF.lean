/-
  FxF: numbers in places: carries, words and bytes, products of words.
-/
import Derived.Test.YtkpelchcpiafaaaFxZ
namespace Go.Fx
set_option linter.unusedVariables false
set_option linter.unusedSimpArgs false

theorem pow_succ' (B i : Nat) : B ^ (i + 1) = B * B ^ i := by rw [Nat.pow_succ, Nat.mul_comm]
/-- One place takes what it can, the rest goes on. -/
theorem carry_set {B : Nat} {m : List Nat} {i x : Nat} (h : i < m.length) : val B (m.set i (x % B)) + B ^ (i + 1) * (x / B) + B ^ i * m.getD i 0 = val B m + B ^ i * x := by
  have h1 := val_set (B := B) (v := x % B) h
  have h2 : B ^ (i + 1) * (x / B) + B ^ i * (x % B) = B ^ i * x := by
    rw [Nat.pow_succ, Nat.mul_assoc, ← Nat.mul_add, Nat.div_add_mod]
  omega
theorem val_cons (B x : Nat) (xs : List Nat) : val B (x :: xs) = x + B * val B xs := rfl
theorem val_nil (B : Nat) : val B [] = 0 := rfl
theorem val_take_succ {B : Nat} {xs : List Nat} {n : Nat} (h : n < xs.length) : val B (xs.take (n + 1)) = val B (xs.take n) + B ^ n * xs.getD n 0 := by
  rw [List.take_succ_eq_append_getElem h, val_append, List.length_take, Nat.min_eq_left (by omega)]
  simp [val, List.getD_eq_getElem?_getD, h]
theorem val_drop_zero {B : Nat} : ∀ {xs : List Nat} {n : Nat}, (∀ j, n ≤ j → xs.getD j 0 = 0) → val B xs = val B (xs.take n)
  | [], n, _ => by simp
  | x :: xs, 0, h => by
    have h0 : x = 0 := h 0 (Nat.le_refl 0)
    have : val B xs = val B (xs.take 0) := val_drop_zero (n := 0) fun j _ => h (j + 1) (by omega)
    simp only [List.take_zero, val] at this ⊢
    simp [h0, this]
  | x :: xs, n + 1, h => by
    rw [List.take_succ_cons, val, val, val_drop_zero (n := n) fun j hj => h (j + 1) (by omega)]
theorem rep_getD (n j : Nat) : (List.replicate n 0).getD j 0 = 0 := by
  by_cases h : j < n
  · exact getD_replicate h
  · exact getD_ge (by rw [List.length_replicate]; omega)
/-- Two numbers' digits are the same just if they are (as long as they fit). -/
theorem digs_inj {B n N M : Nat} (hB : 0 < B) (hN : N < B ^ n) (hM : M < B ^ n) : digs B n N = digs B n M ↔ N = M :=
  ⟨fun h => by
    have := congrArg (val B) h
    rwa [val_digs hB, val_digs hB, Nat.mod_eq_of_lt hN, Nat.mod_eq_of_lt hM] at this, fun h => by rw [h]⟩
theorem eq_digs {B : Nat} (hB : 0 < B) {xs : List Nat} (h : Lt B xs) {n : Nat} (hl : xs.length = n) : xs = digs B n (val B xs) := by
  rw [← hl]; exact (digs_val hB h.mem).symm
theorem digs_mod {B n N : Nat} (hB : 0 < B) : digs B n (N % B ^ n) = digs B n N := by
  have h1 := eq_digs hB (digs_lt hB n N) (digs_len B n N)
  rw [val_digs hB] at h1
  exact h1.symm
/-- A digit of a number whose places are groups of digits. -/
theorem val_group {B k : Nat} (hB : 0 < B) (hk : 0 < k) : ∀ (ws : List Nat) (i : Nat), Lt (B ^ k) ws → val (B ^ k) ws / B ^ i % B = ws.getD (i / k) 0 / B ^ (i % k) % B
  | [], i, _ => by simp [val]
  | w :: ws, i, h => by
    have hw : w < B ^ k := h 0
    have ht : Lt (B ^ k) ws := fun j => h (j + 1)
    by_cases hi : i < k
    · rw [Nat.div_eq_of_lt hi, Nat.mod_eq_of_lt hi]
      show (w + B ^ k * val (B ^ k) ws) / B ^ i % B = w / B ^ i % B
      obtain ⟨d, rfl⟩ : ∃ d, k = i + (d + 1) := ⟨k - i - 1, by omega⟩
      rw [show B ^ (i + (d + 1)) * val (B ^ (i + (d + 1))) ws = B ^ i * (B * (B ^ d * val (B ^ (i + (d + 1))) ws)) by rw [Nat.pow_add, Nat.pow_succ]; simp only [Nat.mul_assoc, Nat.mul_comm, Nat.mul_left_comm],
        Nat.add_mul_div_left _ _ (Nat.pow_pos hB), Nat.add_mul_mod_self_left]
    · obtain ⟨j, rfl⟩ : ∃ j, i = j + k := ⟨i - k, by omega⟩
      rw [Nat.add_div_right _ hk, Nat.add_mod_right]
      show (w + B ^ k * val (B ^ k) ws) / B ^ (j + k) % B = _
      rw [Nat.pow_add, Nat.mul_comm (B ^ j), ← Nat.div_div_eq_div_mul, Nat.add_mul_div_left _ _ (Nat.pow_pos hB), Nat.div_eq_of_lt hw, Nat.zero_add, val_group hB hk ws j ht]
      rfl
/-- Bits above and bits below. -/
theorem or_add {a b k : Nat} (h : a < 2 ^ k) : a ||| b * 2 ^ k = a + b * 2 ^ k := by
  rw [Nat.or_comm, Nat.mul_comm b, ← Nat.two_pow_add_eq_or_of_lt h, Nat.add_comm]
theorem or_add' {a b k : Nat} (h : a < 2 ^ k) : b * 2 ^ k ||| a = b * 2 ^ k + a := by
  rw [Nat.mul_comm b, ← Nat.two_pow_add_eq_or_of_lt h]
theorem and_mask (x k : Nat) : x &&& (2 ^ k - 1) = x % 2 ^ k := Nat.and_two_pow_sub_one_eq_mod x k
/-- A list that is filled from the front. -/
theorem iter_fill (g : Nat → Nat) (n : Nat) : iter (fun i m => m.set i (g i)) n (List.replicate n 0) = (List.range n).map g := by
  have key : ∀ i, i ≤ n → iter (fun i m => m.set i (g i)) i (List.replicate n 0) = (List.range i).map g ++ List.replicate (n - i) 0 := by
    intro i
    induction i with
    | zero => intro _; simp [iter]
    | succ i ih =>
      intro hi
      rw [iterS, ih (by omega), set_fill _ _ _ _ (by omega)]
  rw [key n (Nat.le_refl n)]; simp
/-- Numbers bit by bit: byte by byte. -/
theorem and_val : ∀ {xs ys : List Nat}, Lt 256 xs → Lt 256 ys → xs.length = ys.length → val 256 xs &&& val 256 ys = val 256 (List.zipWith (· &&& ·) xs ys)
  | [], [], _, _, _ => rfl
  | x :: xs, y :: ys, hx, hy, hl => by
    have ih := and_val (xs := xs) (ys := ys) (fun j => hx (j + 1)) (fun j => hy (j + 1)) (by simpa using hl)
    have h1 : x < 256 := hx 0
    have h2 : y < 256 := hy 0
    have e1 := Nat.and_mod_two_pow (a := x + 256 * val 256 xs) (b := y + 256 * val 256 ys) (n := 8)
    have e2 := Nat.and_div_two_pow (a := x + 256 * val 256 xs) (b := y + 256 * val 256 ys) (n := 8)
    simp only [show (2 : Nat) ^ 8 = 256 from rfl] at e1 e2
    rw [show (x + 256 * val 256 xs) % 256 = x by omega, show (y + 256 * val 256 ys) % 256 = y by omega] at e1
    rw [show (x + 256 * val 256 xs) / 256 = val 256 xs by omega, show (y + 256 * val 256 ys) / 256 = val 256 ys by omega, ih] at e2
    show (x + 256 * val 256 xs) &&& (y + 256 * val 256 ys) = (x &&& y) + 256 * val 256 (List.zipWith (· &&& ·) xs ys)
    omega
/-- Eight bytes, one by one. -/
theorem eight {b : List Nat} {o : Nat} (h : o + 8 ≤ b.length) : (b.drop o).take 8 = [b.getD o 0, b.getD (o + 1) 0, b.getD (o + 2) 0, b.getD (o + 3) 0, b.getD (o + 4) 0, b.getD (o + 5) 0, b.getD (o + 6) 0, b.getD (o + 7) 0] := by
  refine ext_getD (by simp; omega) fun j hj => ?_
  have hj8 : j < 8 := by simp at hj; omega
  rw [getD_take hj8, getD_drop]
  match j, hj8 with
  | 0, _ | 1, _ | 2, _ | 3, _ | 4, _ | 5, _ | 6, _ | 7, _ => rfl
theorem val_split8 (b : List Nat) (h : 8 ≤ b.length) : val 256 b = val 256 (b.take 8) + 18446744073709551616 * val 256 (b.drop 8) := val_split 256 8 b h
theorem pow256 (i : Nat) : 2 ^ (8 * i) = 256 ^ i := by rw [Nat.pow_mul]
theorem u64pow : (18446744073709551616 : Nat) = 256 ^ 8 := by decide
/-- What a word is made of. -/
theorem word_step {b : List Nat} (hb : Lt 256 b) {i : Nat} (hi : i < 8) : val 256 (b.take i) ||| b.getD i 0 * 2 ^ (8 * i) % 18446744073709551616 = val 256 (b.take i) + 256 ^ i * b.getD i 0 := by
  have h1 : val 256 (b.take i) < 2 ^ (8 * i) := by
    rw [pow256]
    exact Nat.lt_of_lt_of_le (hb.take i).val_lt (Nat.pow_le_pow_right (by decide) (by rw [List.length_take]; omega))
  have h2 := hb i
  have h3 : b.getD i 0 * 2 ^ (8 * i) < 18446744073709551616 := by
    rw [u64pow, pow256]
    calc b.getD i 0 * 256 ^ i < 256 * 256 ^ i := Nat.mul_lt_mul_of_pos_right h2 (Nat.pow_pos (by decide))
      _ = 256 ^ (i + 1) := (pow_succ' 256 i).symm
      _ ≤ 256 ^ 8 := Nat.pow_le_pow_right (by decide) (by omega)
  rw [Nat.mod_eq_of_lt h3, or_add h1, pow256, Nat.mul_comm (b.getD i 0)]
/-- A product of two words: its high word and its low word. -/
theorem mul_hi {x y : Nat} (hx : x < 18446744073709551616) (hy : y < 18446744073709551616) :
    (((x / 2 ^ 32) * (y / 2 ^ 32) % 18446744073709551616 + (((x / 2 ^ 32) * (y &&& 4294967295) % 18446744073709551616 + ((x &&& 4294967295) * (y &&& 4294967295) % 18446744073709551616) / 2 ^ 32) % 18446744073709551616) / 2 ^ 32) % 18446744073709551616 +
      ((((((x / 2 ^ 32) * (y &&& 4294967295) % 18446744073709551616 + ((x &&& 4294967295) * (y &&& 4294967295) % 18446744073709551616) / 2 ^ 32) % 18446744073709551616) &&& 4294967295) + (x &&& 4294967295) * (y / 2 ^ 32) % 18446744073709551616) % 18446744073709551616) / 2 ^ 32) % 18446744073709551616 = x * y / 18446744073709551616 := by
  have e : ∀ z, z &&& 4294967295 = z % 4294967296 := fun z => and_mask z 32
  simp only [e, show (2 : Nat) ^ 32 = 4294967296 from rfl]
  obtain ⟨x1, x0, rfl, h0, h1⟩ : ∃ x1 x0, x = 4294967296 * x1 + x0 ∧ x0 < 4294967296 ∧ x1 < 4294967296 := ⟨x / 4294967296, x % 4294967296, by omega, by omega, by omega⟩
  obtain ⟨y1, y0, rfl, h2, h3⟩ : ∃ y1 y0, y = 4294967296 * y1 + y0 ∧ y0 < 4294967296 ∧ y1 < 4294967296 := ⟨y / 4294967296, y % 4294967296, by omega, by omega, by omega⟩
  rw [show (4294967296 * x1 + x0) / 4294967296 = x1 by omega, show (4294967296 * x1 + x0) % 4294967296 = x0 by omega, show (4294967296 * y1 + y0) / 4294967296 = y1 by omega, show (4294967296 * y1 + y0) % 4294967296 = y0 by omega]
  have b : ∀ {p q : Nat}, p < 4294967296 → q < 4294967296 → p * q ≤ 18446744065119617025 := fun hp hq => Nat.mul_le_mul (Nat.le_of_lt_succ hp) (Nat.le_of_lt_succ hq)
  have ha := b h0 h2
  have hb := b h1 h2
  have hc := b h0 h3
  have hd := b h1 h3
  rw [show (4294967296 * x1 + x0) * (4294967296 * y1 + y0) = 18446744073709551616 * (x1 * y1) + 4294967296 * (x1 * y0) + 4294967296 * (x0 * y1) + x0 * y0 by
    rw [Nat.add_mul, Nat.mul_add, Nat.mul_add]
    rw [show 4294967296 * x1 * (4294967296 * y1) = 18446744073709551616 * (x1 * y1) by rw [Nat.mul_mul_mul_comm], show 4294967296 * x1 * y0 = 4294967296 * (x1 * y0) by rw [Nat.mul_assoc], show x0 * (4294967296 * y1) = 4294967296 * (x0 * y1) by rw [Nat.mul_left_comm]]
    omega]
  generalize x0 * y0 = A at *
  generalize x1 * y0 = Bq at *
  generalize x0 * y1 = C at *
  generalize x1 * y1 = D at *
  omega
/-- A product of words, what came over, and what was there: again a word, and what goes over. -/
theorem mul_acc {x y o w hi lo : Nat} (hx : x < 18446744073709551616) (hy : y < 18446744073709551616) (ho : o < 18446744073709551616) (hw : w < 18446744073709551616) (h1 : hi = x * y / 18446744073709551616) (h2 : lo = x * y % 18446744073709551616) :
    (w + (lo + o + 0) % 18446744073709551616 + 0) % 18446744073709551616 + 18446744073709551616 * (((hi + (lo + o + 0) / 18446744073709551616) % 18446744073709551616 + (w + (lo + o + 0) % 18446744073709551616 + 0) / 18446744073709551616) % 18446744073709551616) = x * y + o + w := by
  have hxy : x * y ≤ 18446744073709551615 * 18446744073709551615 := Nat.mul_le_mul (Nat.le_of_lt_succ hx) (Nat.le_of_lt_succ hy)
  subst h1; subst h2
  generalize x * y = P at *
  omega
end Go.Fx
