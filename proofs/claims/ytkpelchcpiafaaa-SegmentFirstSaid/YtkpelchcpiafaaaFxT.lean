/-
  FxT: plain facts on lists, for the laws' plain halves and the loops' invariants.
-/
import Derived.Test.YtkpelchcpiafaaaFxS
namespace Go.Fx

theorem map_range_succ {α : Type} (g : Nat → α) (i : Nat) : (List.range i).map g ++ [g i] = (List.range (i + 1)).map g := by
  simp [List.range_succ]
theorem set_fill {α : Type} (g : Nat → α) (z : α) (n i : Nat) (h : i < n) : ((List.range i).map g ++ List.replicate (n - i) z).set i (g i) = (List.range (i + 1)).map g ++ List.replicate (n - (i + 1)) z := by
  rw [List.set_append_right _ _ (by simp)]
  simp only [List.length_map, List.length_range, Nat.sub_self]
  rw [show n - i = (n - (i + 1)) + 1 by omega, List.replicate_succ, List.set_cons_zero, ← map_range_succ]
  simp
theorem fill_len {α : Type} (g : Nat → α) (z : α) (n i : Nat) (h : i ≤ n) : ((List.range i).map g ++ List.replicate (n - i) z).length = n := by simp; omega
theorem fill_all {α : Type} (g : Nat → α) (z : α) (n : Nat) : (List.range n).map g ++ List.replicate (n - n) z = (List.range n).map g := by simp
theorem sgEq {id off len len' : Nat} {τ : List (Nat × Nat)} {id' : Nat} (h : len = len') (hid : rn τ id' = id) : some (AV.one (.sg id off len)) = some (AV.ren τ (.one (.sg id' off len'))) := by subst hid; rw [h]; rfl
theorem zEq {x y : Int} {τ : List (Nat × Nat)} (h : x = y) : some (AV.one (.z x)) = some (AV.ren τ (.one (.z y))) := by rw [h]; rfl
theorem getD_ge {xs : List Nat} {i : Nat} (h : xs.length ≤ i) : xs.getD i 0 = 0 := by simp [List.getD_eq_getElem?_getD, List.getElem?_eq_none h]
theorem getD_map_range {g : Nat → Nat} {n i : Nat} (h : i < n) : ((List.range n).map g).getD i 0 = g i := by simp [List.getD_eq_getElem?_getD, h]
theorem ext_getD {xs ys : List Nat} (hl : xs.length = ys.length) (h : ∀ i, i < xs.length → xs.getD i 0 = ys.getD i 0) : xs = ys := by
  apply List.ext_getElem hl
  intro i h1 h2
  have := h i h1
  simpa [List.getD_eq_getElem?_getD, h1, h2] using this
theorem getD_append_l {xs ys : List Nat} {i : Nat} (h : i < xs.length) : (xs ++ ys).getD i 0 = xs.getD i 0 := by
  simp [List.getD_eq_getElem?_getD, List.getElem?_append_left h]
theorem getD_append_r {xs ys : List Nat} {i : Nat} (h : xs.length ≤ i) : (xs ++ ys).getD i 0 = ys.getD (i - xs.length) 0 := by
  simp [List.getD_eq_getElem?_getD, List.getElem?_append_right h]
theorem getD_set_eq {xs : List Nat} {i v : Nat} (h : i < xs.length) : (xs.set i v).getD i 0 = v := by simp [List.getD_eq_getElem?_getD, h]
theorem getD_set_ne {xs : List Nat} {i j v : Nat} (h : i ≠ j) : (xs.set i v).getD j 0 = xs.getD j 0 := by simp [List.getD_eq_getElem?_getD, List.getElem?_set_ne h]
theorem getD_take {xs : List Nat} {n i : Nat} (h : i < n) : (xs.take n).getD i 0 = xs.getD i 0 := by simp [List.getD_eq_getElem?_getD, h]
theorem getD_drop {xs : List Nat} {n i : Nat} : (xs.drop n).getD i 0 = xs.getD (n + i) 0 := by simp [List.getD_eq_getElem?_getD]
theorem getD_replicate {n v i : Nat} (h : i < n) : (List.replicate n v).getD i 0 = v := by simp [List.getD_eq_getElem?_getD, h]
theorem iter_ext {α : Type} {f g : Nat → α → α} {a : α} : ∀ n, (∀ i, i < n → ∀ x, x = iter f i a → f i x = g i x) → iter f n a = iter g n a
  | 0, _ => rfl
  | n + 1, h => by
    have ih := iter_ext (f := f) (g := g) (a := a) n fun i hi x hx => h i (by omega) x hx
    simp only [iter]
    rw [h n (by omega) _ rfl, ih]
theorem iter_inv {α : Type} {f : Nat → α → α} {a : α} (p : α → Prop) (h0 : p a) (h : ∀ i x, p x → p (f i x)) : ∀ n, p (iter f n a)
  | 0 => h0
  | n + 1 => h n _ (iter_inv p h0 h n)
/-- All below M. -/
def Lt (M : Nat) (xs : List Nat) : Prop := ∀ i, xs.getD i 0 < M
theorem Lt.set {M : Nat} {xs : List Nat} (h : Lt M xs) {i v : Nat} (hv : v < M) : Lt M (xs.set i v) := by
  intro j
  by_cases hij : i = j
  · subst hij
    by_cases hl : i < xs.length
    · rw [getD_set_eq hl]; exact hv
    · rw [List.set_eq_of_length_le (by omega)]; exact h i
  · rw [getD_set_ne hij]; exact h j
theorem Lt.append {M : Nat} {xs ys : List Nat} (h : Lt M xs) (h' : Lt M ys) : Lt M (xs ++ ys) := by
  intro j
  by_cases hl : j < xs.length
  · rw [getD_append_l hl]; exact h j
  · rw [getD_append_r (by omega)]; exact h' _
theorem Lt.take {M : Nat} {xs : List Nat} (h : Lt M xs) (n : Nat) : Lt M (xs.take n) := by
  intro j
  by_cases hl : j < n
  · rw [getD_take hl]; exact h j
  · rw [getD_ge (by simp; omega)]; exact Nat.lt_of_le_of_lt (Nat.zero_le _) (h 0)
theorem Lt.drop {M : Nat} {xs : List Nat} (h : Lt M xs) (n : Nat) : Lt M (xs.drop n) := fun j => by rw [getD_drop]; exact h _
theorem Lt.replicate {M n v : Nat} (h : v < M) : Lt M (List.replicate n v) := by
  intro j
  by_cases hl : j < n
  · rw [getD_replicate hl]; exact h
  · rw [getD_ge (by simp; omega)]; omega
theorem Lt.map_range {M : Nat} {g : Nat → Nat} {n : Nat} (hM : 0 < M) (h : ∀ i, i < n → g i < M) : Lt M ((List.range n).map g) := by
  intro j
  by_cases hl : j < n
  · rw [getD_map_range hl]; exact h j hl
  · rw [getD_ge (by simp; omega)]; exact hM
theorem Lt.mem {M : Nat} {xs : List Nat} (h : Lt M xs) : ∀ x ∈ xs, x < M := by
  intro x hx
  obtain ⟨i, hi, rfl⟩ := List.getElem_of_mem hx
  have := h i
  simpa [List.getD_eq_getElem?_getD, hi] using this
theorem Lt.of_mem {M : Nat} {xs : List Nat} (hM : 0 < M) (h : ∀ x ∈ xs, x < M) : Lt M xs := by
  intro i
  by_cases hi : i < xs.length
  · have := h _ (List.getElem_mem hi)
    simpa [List.getD_eq_getElem?_getD, hi] using this
  · rw [getD_ge (by omega)]; exact hM
theorem Lt.mono {M M' : Nat} {xs : List Nat} (h : Lt M xs) (hM : M ≤ M') : Lt M' xs := fun i => Nat.lt_of_lt_of_le (h i) hM

end Go.Fx
