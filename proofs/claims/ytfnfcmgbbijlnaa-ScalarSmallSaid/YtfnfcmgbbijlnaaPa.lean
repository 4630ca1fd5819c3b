/-
  The plain law of the scalars: numbers modulo the order.
-/
import Derived.Test.YtfnfcmgbbijlnaaWh
import Derived.Test.YtfnfcmgbbijlnaaFxF
namespace Go.Proofs.Ytfnfcmgbbijlnaa
open Go Go.Fx
set_option linter.unusedVariables false
set_option linter.unusedSimpArgs false

def L : Nat := 7237005577332262213973186563042994240857116359379907606001950938285454250989
def M64 : Nat := 18446744073709551616
theorem orderB_val : val 256 orderB = L := by decide +kernel
theorem order_val : val 18446744073709551616 order = L := by decide +kernel
theorem order_lt : Lt 18446744073709551616 order := Lt.of_mem (by decide) (by decide)
theorem wstep_ap (xs : List Nat) (i : Nat) (m : List Nat) : wstep xs i m = m.set (i / 8) (m.getD (i / 8) 0 ||| xs.getD i 0 * 2 ^ (8 * (i % 8)) % 18446744073709551616) := rfl
theorem lsstep_ap (x y : List Nat) (i : Nat) (s : List Nat × Nat) : lsstep x y i s = (s.1.set i ((x.getD i 0 + 18446744073709551616 - y.getD i 0 - s.2) % 18446744073709551616), if x.getD i 0 < y.getD i 0 + s.2 then 1 else 0) := rfl
theorem shstep_ap (j : Nat) (s : List Nat × Nat) : shstep j s = (s.1.set j (s.1.getD j 0 * 2 ^ 1 % 18446744073709551616 ||| s.2), s.1.getD j 0 / 2 ^ 63) := rfl
theorem msstep_ap (ws : List Nat) (k : Nat) (r : List Nat) : msstep ws k r = if (lessS (shl1 r (sbit ws (64 * ws.length - 1 - k))).1 order).2 = 0 then (lessS (shl1 r (sbit ws (64 * ws.length - 1 - k))).1 order).1 else (shl1 r (sbit ws (64 * ws.length - 1 - k))).1 := rfl
theorem twstep_ap (x : List Nat) (i : Nat) (s : List Nat × Nat) : twstep x i s = (s.1.set i ((x.getD i 0 * 2 ^ 1 % 256 + s.2) % 256), x.getD i 0 / 2 ^ 7) := rfl
theorem mbstep_ap (xs : List Nat) (k : Nat) (r : List Nat) : mbstep xs k r = if val 256 (twice r (mbit xs (8 * xs.length - 1 - k))) < val 256 orderB then twice r (mbit xs (8 * xs.length - 1 - k)) else lessB (twice r (mbit xs (8 * xs.length - 1 - k))) orderB := rfl
theorem pinner_ap (a b : List Nat) (i j : Nat) (m : List Nat) : pinner a b i j m = m.set (i + j) (m.getD (i + j) 0 + a.getD i 0 * b.getD j 0) := rfl
theorem cstep_ap (q : List Nat) (t : Nat) (s : List Nat × Nat) : cstep q t s = (s.1.set t ((q.getD t 0 + s.2) % 256 % 256), (q.getD t 0 + s.2) / 256) := rfl
/-! ### words and bytes -/
theorem words_key {xs : List Nat} (bx : Lt 256 xs) (h8 : xs.length % 8 = 0) : ∀ i, i ≤ xs.length → ∀ j, j < xs.length / 8 → (iter (wstep xs) i (List.replicate (xs.length / 8) 0)).getD j 0 = val 256 ((xs.drop (8 * j)).take (Min.min 8 (i - 8 * j))) := by
  intro i
  induction i with
  | zero => intro _ j hj; rw [iter0, rep_getD, Nat.zero_sub, Nat.min_eq_right (by omega)]; simp [val]
  | succ i ih =>
    intro hi j hj
    have hl := wlen xs i (xs.length / 8)
    rw [iterS, wstep_ap]
    by_cases h : i / 8 = j
    · subst h
      rw [getD_set_eq (by rw [hl]; exact hj), ih (by omega) _ hj]
      have e1 : Min.min 8 (i - 8 * (i / 8)) = i % 8 := by omega
      have e2 : Min.min 8 (i + 1 - 8 * (i / 8)) = i % 8 + 1 := by omega
      have e3 : xs.getD i 0 = (xs.drop (8 * (i / 8))).getD (i % 8) 0 := by rw [getD_drop, show 8 * (i / 8) + i % 8 = i by omega]
      rw [e1, e2, e3, word_step (bx.drop _) (by omega), val_take_succ (by rw [List.length_drop]; omega)]
    · rw [Fx.getD_set_ne h, ih (by omega) _ hj]
      congr 2
      omega
theorem words_eq {xs : List Nat} (bx : Lt 256 xs) (h8 : xs.length % 8 = 0) : words xs = (List.range (xs.length / 8)).map fun j => val 256 ((xs.drop (8 * j)).take 8) := by
  refine ext_getD (by rw [words_len]; simp) fun j hj => ?_
  rw [words_len] at hj
  rw [getD_map_range hj]
  unfold words
  rw [words_key bx h8 _ (Nat.le_refl _) j hj, Nat.min_eq_left (by omega)]
theorem words_val {xs : List Nat} (bx : Lt 256 xs) (h8 : xs.length % 8 = 0) : val 18446744073709551616 (words xs) = val 256 xs := by
  rw [words_eq bx h8]
  exact val_pow 256 8 (xs.length / 8) xs (by omega)
theorem words_lt {xs : List Nat} (bx : Lt 256 xs) (h8 : xs.length % 8 = 0) : Lt 18446744073709551616 (words xs) := by
  rw [words_eq bx h8]
  refine Lt.map_range (by decide) fun j hj => ?_
  have h1 := ((bx.drop (8 * j)).take 8).val_lt
  have h2 : (256 : Nat) ^ ((xs.drop (8 * j)).take 8).length ≤ 256 ^ 8 := Nat.pow_le_pow_right (by decide) (by rw [List.length_take]; omega)
  exact Nat.lt_of_lt_of_le h1 h2
theorem bstep_eq (r : List Nat) : bstep r = fun i m => m.set i (r.getD (i / 8) 0 / 2 ^ (8 * (i % 8)) % 256) := by
  funext i m; unfold bstep; rfl
theorem bytes_val {r : List Nat} (hr : Lt 18446744073709551616 r) : bytes r = digs 256 32 (val 18446744073709551616 r) := by
  unfold bytes
  rw [bstep_eq, iter_fill (fun i => r.getD (i / 8) 0 / 2 ^ (8 * (i % 8)) % 256) 32]
  unfold digs
  refine List.map_congr_left fun i _ => ?_
  have g3 := val_group (B := 256) (k := 8) (by decide) (by decide) r i hr
  rw [pow256, ← g3]
/-! ### words modulo the order -/
theorem lessS_key {x y : List Nat} (lx : x.length = 4) (ly : y.length = 4) (hx : Lt 18446744073709551616 x) (hy : Lt 18446744073709551616 y) : ∀ i, i ≤ 4 →
    Lt 18446744073709551616 (iter (lsstep x y) i (List.replicate 4 0, 0)).1 ∧ (∀ j, i ≤ j → (iter (lsstep x y) i (List.replicate 4 0, 0)).1.getD j 0 = 0) ∧
      val 18446744073709551616 (iter (lsstep x y) i (List.replicate 4 0, 0)).1 + val 18446744073709551616 (y.take i) = val 18446744073709551616 (x.take i) + 18446744073709551616 ^ i * (iter (lsstep x y) i (List.replicate 4 0, 0)).2 := by
  intro i
  induction i with
  | zero => intro _; exact ⟨Lt.replicate (by decide), fun j _ => rep_getD 4 j, by simp [iter0, val]⟩
  | succ i ih =>
    intro hi
    obtain ⟨h1, h2, h3⟩ := ih (by omega)
    have hl := lslen x y i
    have hle := lsle x y i
    have hxi := hx i
    have hyi := hy i
    rw [iterS, lsstep_ap]
    dsimp only
    refine ⟨h1.set (Nat.mod_lt _ (by decide)), fun j hj => ?_, ?_⟩
    · rw [Fx.getD_set_ne (by omega)]; exact h2 j (by omega)
    · have h5 := val_set (B := 18446744073709551616) (xs := (iter (lsstep x y) i (List.replicate 4 0, 0)).1) (i := i) (v := (x.getD i 0 + 18446744073709551616 - y.getD i 0 - (iter (lsstep x y) i (List.replicate 4 0, 0)).2) % 18446744073709551616) (by omega)
      rw [h2 i (Nat.le_refl i), Nat.mul_zero] at h5
      rw [val_take_succ (by omega), val_take_succ (by omega), Nat.pow_succ, Nat.mul_assoc]
      have e : (x.getD i 0 + 18446744073709551616 - y.getD i 0 - (iter (lsstep x y) i (List.replicate 4 0, 0)).2) % 18446744073709551616 + y.getD i 0 + (iter (lsstep x y) i (List.replicate 4 0, 0)).2 = x.getD i 0 + 18446744073709551616 * (if x.getD i 0 < y.getD i 0 + (iter (lsstep x y) i (List.replicate 4 0, 0)).2 then 1 else 0) := by
        split <;> omega
      have e' := congrArg (18446744073709551616 ^ i * ·) e
      simp only [Nat.mul_add] at e'
      omega
theorem lessS_val {x y : List Nat} (lx : x.length = 4) (ly : y.length = 4) (hx : Lt 18446744073709551616 x) (hy : Lt 18446744073709551616 y) :
    ((lessS x y).2 = 0 ∨ (lessS x y).2 = 1) ∧ ((lessS x y).2 = 0 ↔ val 18446744073709551616 y ≤ val 18446744073709551616 x) ∧ Lt 18446744073709551616 (lessS x y).1 ∧ ((lessS x y).2 = 0 → val 18446744073709551616 (lessS x y).1 = val 18446744073709551616 x - val 18446744073709551616 y) := by
  obtain ⟨h1, _, h3⟩ := lessS_key lx ly hx hy 4 (by omega)
  have hle := lsle x y 4
  have hv := h1.val_lt
  rw [lslen] at hv
  rw [List.take_of_length_le (by omega), List.take_of_length_le (by omega)] at h3
  have vx := hx.val_lt
  have vy := hy.val_lt
  rw [lx] at vx
  rw [ly] at vy
  have e1 : (lessS x y) = iter (lsstep x y) 4 (List.replicate 4 0, 0) := rfl
  rw [e1]
  generalize iter (lsstep x y) 4 (List.replicate 4 0, 0) = s at *
  generalize (18446744073709551616 : Nat) ^ 4 = P at *
  rcases (show s.2 = 0 ∨ s.2 = 1 by omega) with h | h
  · rw [h] at h3 ⊢
    exact ⟨.inl rfl, by omega, h1, fun _ => by omega⟩
  · rw [h] at h3 ⊢
    exact ⟨.inr rfl, by omega, h1, fun h => by omega⟩
theorem shl_key {r : List Nat} {b : Nat} (lr : r.length = 4) (hr : Lt 18446744073709551616 r) (hb : b ≤ 1) : ∀ j, j ≤ 4 →
    Lt 18446744073709551616 (iter shstep j (r, b)).1 ∧ (iter shstep j (r, b)).2 ≤ 1 ∧ (∀ i, j ≤ i → (iter shstep j (r, b)).1.getD i 0 = r.getD i 0) ∧
      val 18446744073709551616 ((iter shstep j (r, b)).1) + 18446744073709551616 ^ j * (iter shstep j (r, b)).2 = val 18446744073709551616 r + val 18446744073709551616 (r.take j) + b := by
  intro j
  induction j with
  | zero => intro _; exact ⟨hr, hb, fun _ _ => rfl, by simp [iter0, val]⟩
  | succ j ih =>
    intro hj
    obtain ⟨h1, h2, h3, h4⟩ := ih (by omega)
    have hl := shlen r b j lr
    have hs := hr j
    rw [iterS, shstep_ap]
    dsimp only
    rw [h3 j (Nat.le_refl j)]
    have e1 : r.getD j 0 * 2 ^ 1 % 18446744073709551616 ||| (iter shstep j (r, b)).2 = r.getD j 0 * 2 ^ 1 % 18446744073709551616 + (iter shstep j (r, b)).2 := by
      have := or_add' (a := (iter shstep j (r, b)).2) (b := r.getD j 0 % 9223372036854775808) (k := 1) (by omega)
      rw [show r.getD j 0 * 2 ^ 1 % 18446744073709551616 = r.getD j 0 % 9223372036854775808 * 2 ^ 1 by omega]
      exact this
    rw [e1]
    have e2 : r.getD j 0 * 2 ^ 1 % 18446744073709551616 + (iter shstep j (r, b)).2 < 18446744073709551616 := by omega
    refine ⟨h1.set e2, by simp only [show (2 : Nat) ^ 63 = 9223372036854775808 from rfl]; omega, fun i hi => ?_, ?_⟩
    · rw [Fx.getD_set_ne (by omega)]; exact h3 i (by omega)
    · have h5 := val_set (B := 18446744073709551616) (xs := (iter shstep j (r, b)).1) (i := j) (v := r.getD j 0 * 2 ^ 1 % 18446744073709551616 + (iter shstep j (r, b)).2) (by omega)
      rw [h3 j (Nat.le_refl j)] at h5
      rw [val_take_succ (by omega), Nat.pow_succ (n := 18446744073709551616), Nat.mul_assoc]
      have e : r.getD j 0 * 2 ^ 1 % 18446744073709551616 + (iter shstep j (r, b)).2 + 18446744073709551616 * (r.getD j 0 / 2 ^ 63) = r.getD j 0 + r.getD j 0 + (iter shstep j (r, b)).2 := by
        simp only [show (2 : Nat) ^ 63 = 9223372036854775808 from rfl]; omega
      have e' := congrArg (18446744073709551616 ^ j * ·) e
      simp only [Nat.mul_add] at e' h5
      omega
theorem shl_val {r : List Nat} {b : Nat} (lr : r.length = 4) (hr : Lt 18446744073709551616 r) (hb : b ≤ 1) (hv : val 18446744073709551616 r < L) :
    Lt 18446744073709551616 (shl1 r b).1 ∧ (shl1 r b).1.length = 4 ∧ val 18446744073709551616 (shl1 r b).1 = 2 * val 18446744073709551616 r + b := by
  obtain ⟨h1, h2, _, h4⟩ := shl_key lr hr hb 4 (by omega)
  rw [List.take_of_length_le (by omega)] at h4
  refine ⟨h1, shlen r b 4 lr, ?_⟩
  show val 18446744073709551616 (iter shstep 4 (r, b)).1 = _
  have h0 : (iter shstep 4 (r, b)).2 = 0 := by
    rcases Nat.eq_zero_or_pos (iter shstep 4 (r, b)).2 with h | h
    · exact h
    · have : 18446744073709551616 ^ 4 * 1 ≤ 18446744073709551616 ^ 4 * (iter shstep 4 (r, b)).2 := Nat.mul_le_mul_left _ h
      rw [show (18446744073709551616 : Nat) ^ 4 = 115792089237316195423570985008687907853269984665640564039457584007913129639936 from rfl] at this h4
      unfold L at hv
      omega
  rw [h0] at h4
  omega
/-- A number's bits from the k-th highest down. -/
theorem bit_step (W n k : Nat) (hk : k < n) : W / 2 ^ (n - (k + 1)) = 2 * (W / 2 ^ (n - k)) + W / 2 ^ (n - (k + 1)) % 2 := by
  have e : W / 2 ^ (n - k) = W / 2 ^ (n - (k + 1)) / 2 := by
    rw [Nat.div_div_eq_div_mul, show n - k = (n - (k + 1)) + 1 by omega, Nat.pow_succ]
  omega
theorem mod_step {v b W' W : Nat} (hb : b ≤ 1) (hv : v = W % L) (hW : W' = 2 * W + b) : (if L ≤ 2 * v + b then 2 * v + b - L else 2 * v + b) = W' % L := by
  have hl : v < L := by rw [hv]; exact Nat.mod_lt _ (by decide)
  have e : W' % L = (2 * v + b) % L := by rw [hW, hv, Nat.add_mod, Nat.mul_mod, Nat.add_mod (2 * (W % L)), Nat.mul_mod 2 (W % L), Nat.mod_mod]
  rw [e]
  split
  · rw [Nat.mod_eq_sub_mod (by omega), Nat.mod_eq_of_lt (by omega)]
  · rw [Nat.mod_eq_of_lt (by omega)]
theorem sbit_val {ws : List Nat} (hw : Lt 18446744073709551616 ws) (i : Nat) : sbit ws i = val 18446744073709551616 ws / 2 ^ i % 2 := by
  have g := val_group (B := 2) (k := 64) (by decide) (by decide) ws i hw
  unfold sbit
  rw [show (ws.getD (i / 64) 0 / 2 ^ (i % 64) &&& 1) = ws.getD (i / 64) 0 / 2 ^ (i % 64) % 2 from and_mask _ 1]
  exact g.symm
theorem moduloS_key {ws : List Nat} (hw : Lt 18446744073709551616 ws) : ∀ k, k ≤ 64 * ws.length → Lt 18446744073709551616 (iter (msstep ws) k (List.replicate 4 0)) ∧
    val 18446744073709551616 (iter (msstep ws) k (List.replicate 4 0)) = val 18446744073709551616 ws / 2 ^ (64 * ws.length - k) % L := by
  intro k
  induction k with
  | zero =>
    intro _
    refine ⟨Lt.replicate (by decide), ?_⟩
    rw [iter0, val_replicate, Nat.sub_zero, Nat.div_eq_of_lt]
    · rfl
    · have := hw.val_lt
      rwa [Nat.pow_mul]
  | succ k ih =>
    intro hk
    obtain ⟨h1, h2⟩ := ih (by omega)
    have hl := mslen ws k
    have hb : sbit ws (64 * ws.length - 1 - k) ≤ 1 := by rw [sbit_val hw]; omega
    have hv : val 18446744073709551616 (iter (msstep ws) k (List.replicate 4 0)) < L := by rw [h2]; exact Nat.mod_lt _ (by decide)
    obtain ⟨s1, s2, s3⟩ := shl_val hl h1 hb hv
    obtain ⟨l1, l2, l3, l4⟩ := lessS_val s2 rfl s1 order_lt
    rw [order_val, s3] at l2 l4
    have st := mod_step hb h2 (bit_step (val 18446744073709551616 ws) (64 * ws.length) k (by omega) |>.trans (by rw [sbit_val hw, show 64 * ws.length - 1 - k = 64 * ws.length - (k + 1) by omega]))
    rw [iterS, msstep_ap]
    by_cases h : (lessS (shl1 (iter (msstep ws) k (List.replicate 4 0)) (sbit ws (64 * ws.length - 1 - k))).1 order).2 = 0
    · rw [if_pos h]
      refine ⟨l3, ?_⟩
      rw [l4 h, ← st, if_pos (l2.1 h)]
    · rw [if_neg h]
      refine ⟨s1, ?_⟩
      rw [s3, ← st, if_neg (fun q => h (l2.2 q))]
theorem moduloS_val {ws : List Nat} (hw : Lt 18446744073709551616 ws) : bytes (moduloS ws) = digs 256 32 (val 18446744073709551616 ws % L) := by
  obtain ⟨h1, h2⟩ := moduloS_key hw _ (Nat.le_refl _)
  rw [Nat.sub_self, Nat.pow_zero, Nat.div_one] at h2
  rw [show moduloS ws = iter (msstep ws) (64 * ws.length) (List.replicate 4 0) from rfl, bytes_val h1, h2]
/-! ### bytes modulo the order -/
theorem twice_key {x : List Nat} {b : Nat} (lx : x.length = 32) (hx : Lt 256 x) (hb : b ≤ 1) : ∀ i, i ≤ 32 →
    (iter (twstep x) i (List.replicate 32 0, b)).2 ≤ 1 ∧ (∀ j, i ≤ j → (iter (twstep x) i (List.replicate 32 0, b)).1.getD j 0 = 0) ∧
      val 256 (iter (twstep x) i (List.replicate 32 0, b)).1 + 256 ^ i * (iter (twstep x) i (List.replicate 32 0, b)).2 = 2 * val 256 (x.take i) + b := by
  intro i
  induction i with
  | zero => intro _; exact ⟨hb, fun j _ => rep_getD 32 j, by rw [iter0, val_replicate]; simp [val]⟩
  | succ i ih =>
    intro hi
    obtain ⟨h1, h2, h3⟩ := ih (by omega)
    have hl := twlen x b i
    have hs := hx i
    rw [iterS, twstep_ap]
    dsimp only
    refine ⟨by simp only [show (2 : Nat) ^ 7 = 128 from rfl]; omega, fun j hj => ?_, ?_⟩
    · rw [Fx.getD_set_ne (by omega)]; exact h2 j (by omega)
    · have h5 := val_set (B := 256) (xs := (iter (twstep x) i (List.replicate 32 0, b)).1) (i := i) (v := (x.getD i 0 * 2 ^ 1 % 256 + (iter (twstep x) i (List.replicate 32 0, b)).2) % 256) (by omega)
      rw [h2 i (Nat.le_refl i), Nat.mul_zero] at h5
      rw [val_take_succ (by omega), Nat.pow_succ (n := 256), Nat.mul_assoc]
      have e : (x.getD i 0 * 2 ^ 1 % 256 + (iter (twstep x) i (List.replicate 32 0, b)).2) % 256 + 256 * (x.getD i 0 / 2 ^ 7) = 2 * x.getD i 0 + (iter (twstep x) i (List.replicate 32 0, b)).2 := by
        simp only [show (2 : Nat) ^ 7 = 128 from rfl]; omega
      have e' := congrArg (256 ^ i * ·) e
      simp only [Nat.mul_add] at e' h5 ⊢
      have e2 : 256 ^ i * (2 * x.getD i 0) = 2 * (256 ^ i * x.getD i 0) := Nat.mul_left_comm _ _ _
      omega
theorem twice_val {x : List Nat} {b : Nat} (lx : x.length = 32) (hx : Lt 256 x) (hb : b ≤ 1) (hv : val 256 x < L) : val 256 (twice x b) = 2 * val 256 x + b := by
  obtain ⟨h1, _, h3⟩ := twice_key lx hx hb 32 (by omega)
  rw [List.take_of_length_le (by omega)] at h3
  show val 256 (iter (twstep x) 32 (List.replicate 32 0, b)).1 = _
  have h0 : (iter (twstep x) 32 (List.replicate 32 0, b)).2 = 0 := by
    rcases Nat.eq_zero_or_pos (iter (twstep x) 32 (List.replicate 32 0, b)).2 with h | h
    · exact h
    · have : 256 ^ 32 * 1 ≤ 256 ^ 32 * (iter (twstep x) 32 (List.replicate 32 0, b)).2 := Nat.mul_le_mul_left _ h
      rw [show (256 : Nat) ^ 32 = 115792089237316195423570985008687907853269984665640564039457584007913129639936 from rfl] at this h3
      unfold L at hv
      omega
  rw [h0] at h3
  omega
theorem lessB_key {x y : List Nat} (lx : x.length = 32) (ly : y.length = 32) (hx : Lt 256 x) (hy : Lt 256 y) : ∀ i, i ≤ 32 →
    (∀ j, i ≤ j → (iter (lbstep x y) i (List.replicate 32 0, 0)).1.getD j 0 = 0) ∧
      val 256 (iter (lbstep x y) i (List.replicate 32 0, 0)).1 + val 256 (y.take i) = val 256 (x.take i) + 256 ^ i * (iter (lbstep x y) i (List.replicate 32 0, 0)).2 := by
  intro i
  induction i with
  | zero => intro _; exact ⟨fun j _ => rep_getD 32 j, by rw [iter0, val_replicate]; simp [val]⟩
  | succ i ih =>
    intro hi
    obtain ⟨h2, h3⟩ := ih (by omega)
    have hl := lblen x y i
    have hle := lble x y i
    have hxi := hx i
    have hyi := hy i
    obtain ⟨v, c, hs, hc⟩ : ∃ v c, lbstep x y i (iter (lbstep x y) i (List.replicate 32 0, 0)) = ((iter (lbstep x y) i (List.replicate 32 0, 0)).1.set i v, c) ∧ v + y.getD i 0 + (iter (lbstep x y) i (List.replicate 32 0, 0)).2 = x.getD i 0 + 256 * c := by
      by_cases h : ((x.getD i 0 : Int) - (y.getD i 0 : Int) - ((iter (lbstep x y) i (List.replicate 32 0, 0)).2 : Int)) < 0
      · exact ⟨_, _, lb_pos h, by omega⟩
      · exact ⟨_, _, lb_neg h, by omega⟩
    rw [iterS, hs]
    dsimp only
    refine ⟨fun j hj => ?_, ?_⟩
    · rw [Fx.getD_set_ne (by omega)]; exact h2 j (by omega)
    · have h5 := val_set (B := 256) (xs := (iter (lbstep x y) i (List.replicate 32 0, 0)).1) (i := i) (v := v) (by omega)
      rw [h2 i (Nat.le_refl i), Nat.mul_zero] at h5
      rw [val_take_succ (by omega), val_take_succ (by omega), Nat.pow_succ, Nat.mul_assoc]
      have e' := congrArg (256 ^ i * ·) hc
      simp only [Nat.mul_add] at e'
      omega
theorem lessB_val {x y : List Nat} (lx : x.length = 32) (ly : y.length = 32) (hx : Lt 256 x) (hy : Lt 256 y) (h : val 256 y ≤ val 256 x) : val 256 (lessB x y) = val 256 x - val 256 y := by
  obtain ⟨_, h3⟩ := lessB_key lx ly hx hy 32 (by omega)
  rw [List.take_of_length_le (by omega), List.take_of_length_le (by omega)] at h3
  have hv := (lessB_lt x y).val_lt
  rw [lessB_len] at hv
  show val 256 (iter (lbstep x y) 32 (List.replicate 32 0, 0)).1 = _
  have hv' : val 256 (iter (lbstep x y) 32 (List.replicate 32 0, 0)).1 < 256 ^ 32 := hv
  have hle := lble x y 32
  have vx := hx.val_lt
  have vy := hy.val_lt
  rw [lx] at vx
  generalize (256 : Nat) ^ 32 = P at *
  rcases (show (iter (lbstep x y) 32 (List.replicate 32 0, 0)).2 = 0 ∨ (iter (lbstep x y) 32 (List.replicate 32 0, 0)).2 = 1 by omega) with h0 | h0
  · rw [h0] at h3; omega
  · rw [h0] at h3; omega
theorem mbit_val {xs : List Nat} (hx : Lt 256 xs) (i : Nat) : mbit xs i = val 256 xs / 2 ^ i % 2 := by
  have g := val_group (B := 2) (k := 8) (by decide) (by decide) xs i hx
  unfold mbit
  rw [Nat.mod_eq_of_lt (show i % 8 < 18446744073709551616 by omega), show (xs.getD (i / 8) 0 / 2 ^ (i % 8) &&& 1) = xs.getD (i / 8) 0 / 2 ^ (i % 8) % 2 from and_mask _ 1]
  exact g.symm
theorem moduloB_key {xs : List Nat} (hx : Lt 256 xs) : ∀ k, k ≤ 8 * xs.length → Lt 256 (iter (mbstep xs) k (List.replicate 32 0)) ∧ val 256 (iter (mbstep xs) k (List.replicate 32 0)) = val 256 xs / 2 ^ (8 * xs.length - k) % L := by
  intro k
  induction k with
  | zero =>
    intro _
    refine ⟨Lt.replicate (by decide), ?_⟩
    rw [iter0, val_replicate, Nat.sub_zero, Nat.div_eq_of_lt]
    · rfl
    · have := hx.val_lt
      rwa [Nat.pow_mul]
  | succ k ih =>
    intro hk
    obtain ⟨h1, h2⟩ := ih (by omega)
    have hl := mblen xs k
    have hb : mbit xs (8 * xs.length - 1 - k) ≤ 1 := by rw [mbit_val hx]; omega
    have hv : val 256 (iter (mbstep xs) k (List.replicate 32 0)) < L := by rw [h2]; exact Nat.mod_lt _ (by decide)
    have s3 := twice_val hl h1 hb hv
    have st := mod_step hb h2 (bit_step (val 256 xs) (8 * xs.length) k (by omega) |>.trans (by rw [mbit_val hx, show 8 * xs.length - 1 - k = 8 * xs.length - (k + 1) by omega]))
    rw [iterS, mbstep_ap]
    rw [orderB_val]
    by_cases h : val 256 (twice (iter (mbstep xs) k (List.replicate 32 0)) (mbit xs (8 * xs.length - 1 - k))) < L
    · rw [if_pos h]
      refine ⟨twice_lt _ _, ?_⟩
      rw [s3] at h
      rw [s3, ← st, if_neg (by omega)]
    · rw [if_neg h]
      refine ⟨lessB_lt _ _, ?_⟩
      have l4 := lessB_val (twice_len _ _) rfl (twice_lt _ _) orderB_lt (x := twice (iter (mbstep xs) k (List.replicate 32 0)) (mbit xs (8 * xs.length - 1 - k))) (by rw [orderB_val]; omega)
      rw [s3] at h l4
      rw [l4, orderB_val, ← st, if_pos (by omega)]
theorem moduloB_val {xs : List Nat} (hx : Lt 256 xs) : moduloB xs = digs 256 32 (val 256 xs % L) := by
  obtain ⟨h1, h2⟩ := moduloB_key hx _ (Nat.le_refl _)
  rw [Nat.sub_self, Nat.pow_zero, Nat.div_one] at h2
  have e : moduloB xs = iter (mbstep xs) (8 * xs.length) (List.replicate 32 0) := rfl
  rw [← e] at h1 h2
  rw [eq_digs (by decide) h1 (moduloB_len xs), h2]
/-! ### the other product -/
theorem prod_in {a b m : List Nat} (lb : b.length = 32) (lm : m.length = 65) {i : Nat} (hi : i < 32) : ∀ j, j ≤ 32 → val 256 (iter (pinner a b i) j m) = val 256 m + 256 ^ i * (a.getD i 0 * val 256 (b.take j)) := by
  intro k
  induction k with
  | zero => intro _; simp [iter0, val]
  | succ k ih =>
    intro hk
    have h1 := ih (by omega)
    rw [iterS, pinner_ap]
    have h5 := val_set (B := 256) (xs := iter (pinner a b i) k m) (i := i + k) (v := (iter (pinner a b i) k m).getD (i + k) 0 + a.getD i 0 * b.getD k 0) (by rw [pilen]; omega)
    rw [val_take_succ (by omega)]
    rw [Nat.mul_add] at h5
    rw [Nat.mul_add, Nat.mul_add, Nat.mul_left_comm (a.getD i 0), ← Nat.mul_assoc (256 ^ i) (256 ^ k), ← Nat.pow_add]
    omega
theorem prod_out {a b c : List Nat} (la : a.length = 32) (lb : b.length = 32) (lc : c.length = 32) : ∀ i, i ≤ 32 → val 256 (iter (pouter a b c) i (List.replicate 65 0)) = val 256 (a.take i) * val 256 b + val 256 (c.take i) := by
  intro i
  induction i with
  | zero => intro _; rw [iter0, val_replicate]; simp [val]
  | succ i ih =>
    intro hi
    have h1 := ih (by omega)
    have h2 := prod_in (a := a) lb (polen a b c i) (show i < 32 by omega) 32 (by omega)
    rw [List.take_of_length_le (l := b) (by omega)] at h2
    rw [← po_step]
    have h5 := val_set (B := 256) (xs := iter (pinner a b i) 32 (iter (pouter a b c) i (List.replicate 65 0))) (i := i) (v := (iter (pinner a b i) 32 (iter (pouter a b c) i (List.replicate 65 0))).getD i 0 + c.getD i 0) (by rw [pilen, polen]; omega)
    rw [Nat.mul_add] at h5
    rw [val_take_succ (xs := a) (by omega), val_take_succ (xs := c) (by omega), Nat.add_mul, Nat.mul_assoc]
    omega
theorem cstep_val {q : List Nat} (lq : q.length = 65) (hv : val 256 q < 256 ^ 65) : val 256 (iter (cstep q) 65 (List.replicate 65 0, 0)).1 = val 256 q ∧ Lt 256 (iter (cstep q) 65 (List.replicate 65 0, 0)).1 := by
  have key : ∀ i, i ≤ 65 → (∀ j, i ≤ j → (iter (cstep q) i (List.replicate 65 0, 0)).1.getD j 0 = 0) ∧ Lt 256 (iter (cstep q) i (List.replicate 65 0, 0)).1 ∧ val 256 (iter (cstep q) i (List.replicate 65 0, 0)).1 + 256 ^ i * (iter (cstep q) i (List.replicate 65 0, 0)).2 = val 256 (q.take i) := by
    intro i
    induction i with
    | zero => intro _; exact ⟨fun j _ => rep_getD 65 j, Lt.replicate (by decide), by rw [iter0, val_replicate]; simp [val]⟩
    | succ i ih =>
      intro hi
      obtain ⟨h2, hb, h3⟩ := ih (by omega)
      have hl := cslen q i
      rw [iterS, cstep_ap]
      dsimp only
      rw [Nat.mod_mod]
      refine ⟨fun j hj => ?_, hb.set (Nat.mod_lt _ (by decide)), ?_⟩
      · rw [Fx.getD_set_ne (by omega)]; exact h2 j (by omega)
      · have h5 := carry_set (B := 256) (m := (iter (cstep q) i (List.replicate 65 0, 0)).1) (i := i) (x := q.getD i 0 + (iter (cstep q) i (List.replicate 65 0, 0)).2) (by omega)
        rw [h2 i (Nat.le_refl i), Nat.mul_zero, Nat.mul_add] at h5
        rw [val_take_succ (by omega)]
        omega
  obtain ⟨_, hb, h3⟩ := key 65 (by omega)
  rw [List.take_of_length_le (by omega)] at h3
  refine ⟨?_, hb⟩
  have h0 : (iter (cstep q) 65 (List.replicate 65 0, 0)).2 = 0 := by
    rcases Nat.eq_zero_or_pos (iter (cstep q) 65 (List.replicate 65 0, 0)).2 with h | h
    · exact h
    · have : 256 ^ 65 * 1 ≤ 256 ^ 65 * (iter (cstep q) 65 (List.replicate 65 0, 0)).2 := Nat.mul_le_mul_left _ h
      omega
  rw [h0] at h3
  omega
theorem v32 {a : List Nat} (la : a.length = 32) (ha : Lt 256 a) : val 256 a < 115792089237316195423570985008687907853269984665640564039457584007913129639936 := by
  have := ha.val_lt
  rwa [la] at this
theorem mulAddB_val {a b c : List Nat} (la : a.length = 32) (lb : b.length = 32) (lc : c.length = 32) (ha : Lt 256 a) (hb : Lt 256 b) (hc : Lt 256 c) : mulAddB a b c = digs 256 32 ((val 256 a * val 256 b + val 256 c) % L) := by
  have h1 := prod_out la lb lc 32 (by omega)
  rw [List.take_of_length_le (by omega), List.take_of_length_le (by omega)] at h1
  have e : prod a b c = iter (pouter a b c) 32 (List.replicate 65 0) := rfl
  rw [← e] at h1
  have hm : val 256 a * val 256 b < 115792089237316195423570985008687907853269984665640564039457584007913129639936 * 115792089237316195423570985008687907853269984665640564039457584007913129639936 := Nat.mul_lt_mul_of_lt_of_lt (v32 la ha) (v32 lb hb)
  have hc' := v32 lc hc
  have hlt : val 256 (prod a b c) < 256 ^ 65 := by
    rw [h1]
    refine Nat.lt_trans (m := 115792089237316195423570985008687907853269984665640564039457584007913129639936 * 115792089237316195423570985008687907853269984665640564039457584007913129639936 + 115792089237316195423570985008687907853269984665640564039457584007913129639936) (by omega) (by decide)
  obtain ⟨c1, c2⟩ := cstep_val (show (prod a b c).length = 65 from polen a b c 32) hlt
  unfold mulAddB
  rw [moduloB_val c2, c1, h1]
theorem reduce_same {x : List Nat} (lx : x.length = 64) (hx : Lt 256 x) : bytes (moduloS (words x)) = moduloB x := by
  rw [moduloS_val (words_lt hx (by omega)), moduloB_val hx, words_val hx (by omega)]
theorem fine_same {x : List Nat} (lx : x.length = 32) (hx : Lt 256 x) : decide ((lessS (words x) order).2 = 1) = decide (val 256 x < val 256 orderB) := by
  obtain ⟨l1, l2, _, _⟩ := lessS_val (x := words x) (by rw [words_len]; omega) rfl (words_lt hx (by omega)) order_lt
  rw [words_val hx (by omega), order_val] at l2
  rw [orderB_val, decide_eq_decide]
  rcases l1 with h | h
  · rw [h] at l2 ⊢; have := l2.1 rfl; omega
  · rw [h] at l2 ⊢; simp at l2 ⊢; omega
end Go.Proofs.Ytfnfcmgbbijlnaa
