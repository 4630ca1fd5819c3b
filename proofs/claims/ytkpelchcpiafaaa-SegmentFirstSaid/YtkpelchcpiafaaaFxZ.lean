/-
  FxZ: results under a branch; what the relation says of how large a number is; two blocks that a closure holds.
-/
import Derived.Test.YtkpelchcpiafaaaFxY
import Derived.Test.YtkpelchcpiafaaaFxW
namespace Go.Fx
set_option linter.unusedVariables false
set_option linter.unusedSimpArgs false

theorem View.cg {H : Nat → Option Bk} {x y z : AV} (h : z = y) (hv : View H x y) : View H x z := h ▸ hv

theorem fits_lt {k : IntKind} {x M : Nat} (hk : k.signed = false) (hm : 2 ^ k.bits = M) (h : fits k x) : x < M := by
  rcases h with h | h
  · rw [hk] at h; cases h
  · rwa [← hm]
section
variable {cx : Cx} {S : Ls} {G : Act → World → Prop} {k : IntKind} {xs : List Nat} {M : Nat}
theorem lt_cells (hm : 2 ^ k.bits = M) (h : ∀ j, j < xs.length → xs.getD j 0 < M) : Lt M xs := by
  intro i
  by_cases hi : i < xs.length
  · exact h i hi
  · rw [getD_ge (by omega)]
    rw [← hm]; exact Nat.two_pow_pos _
/-- A slot's number is of its kind. -/
theorem Holds.ltN (t : Nat) {x : Nat} (ht : lk t S.fr = some (.one (.n k x))) (hk : k.signed = false) (hm : 2 ^ k.bits = M) (h : x < M → Holds cx S G) : Holds cx S G :=
  fun ρ A a w hs => h (fits_lt hk hm (hs.fr t _ ht).2) ρ A a w hs
/-- A row's numbers are of their kind. -/
theorem Holds.ltRow (t : Nat) (ht : lk t S.fr = some (.row (.ints k xs))) (hk : k.signed = false) (hm : 2 ^ k.bits = M) (h : Lt M xs → Holds cx S G) : Holds cx S G :=
  fun ρ A a w hs => h (lt_cells hm fun j hj => by
    obtain ⟨cs, _, _, hc⟩ := hs.fr t _ ht
    obtain ⟨u, _, hu⟩ := hc j hj
    exact fits_lt hk hm hu.2) ρ A a w hs
/-- The numbers of a block of the call's own are of their kind. -/
theorem Holds.ltOwn (id : Nat) (ht : lk id S.hp = some (.own (.ints k xs))) (hk : k.signed = false) (hm : 2 ^ k.bits = M) (h : Lt M xs → Holds cx S G) : Holds cx S G :=
  fun ρ A a w hs => by
    by_cases hz : (ρ id).size = 0
    · refine h (lt_cells hm fun j hj => ?_) ρ A a w hs
      have := (hs.hp id _ ht).1
      rw [hz] at this
      simp only [Cs.len] at this
      omega
    · refine h (lt_cells hm fun j hj => ?_) ρ A a w hs
      rcases (hs.hp id _ ht).2 with h0 | ⟨_, _, _, _, cs, T, fz, _, _, _, hc⟩
      · exact absurd h0 hz
      · obtain ⟨u, _, hu⟩ := hc j hj
        exact fits_lt hk hm hu.2
theorem immB_lt {A : Nat → Prop} {w : World} {ex : Bool} {v : Value} (hk : k.signed = false) (hm : 2 ^ k.bits = M) (h : ImmB A w ex k xs v) : Lt M xs := by
  refine lt_cells hm fun j hj => ?_
  obtain ⟨a, cap, _, hcap, _, h0 | ⟨b, o, _, _, _, hc⟩⟩ := h
  · omega
  · obtain ⟨u, _, _, hu⟩ := hc j hj
    exact fits_lt hk hm hu
/-- The numbers of a slice that nobody writes are of their kind. -/
theorem Holds.ltBs (t : Nat) {ex : Bool} (ht : lk t S.fr = some (.one (.bs ex k xs))) (hk : k.signed = false) (hm : 2 ^ k.bits = M) (h : Lt M xs → Holds cx S G) : Holds cx S G :=
  fun ρ A a w hs => h (immB_lt hk hm (hs.fr t _ ht)) ρ A a w hs
theorem Holds.ltBss (t : Nat) {ex : Bool} {xss : List (List Nat)} (ht : lk t S.fr = some (.one (.bss ex xss))) (h : (∀ xs ∈ xss, Lt 256 xs) → Holds cx S G) : Holds cx S G :=
  fun ρ A a w hs => h (fun ys hy => by
    obtain ⟨j, hj, rfl⟩ := List.getElem_of_mem hy
    obtain ⟨a, cap, _, hcap, _, h0 | ⟨b, o, _, _, _, hc⟩⟩ := hs.fr t _ ht
    · omega
    · obtain ⟨u, _, hu⟩ := hc j hj
      have := immB_lt (M := 256) rfl rfl hu
      rwa [List.getD_eq_getElem?_getD, List.getElem?_eq_getElem hj, Option.getD_some] at this) ρ A a w hs
end
theorem ownL2 {H : Nat → Option Bk} {i j n n' : Nat} {c c' : Cs} (h : H i = some (.own c)) (hl : c.len = n) (hn : n ≠ 0) (h' : H j = some (.own c')) (hl' : c'.len = n') (hn' : n' ≠ 0) : OwnL H [(i, c), (j, c')] := by
  intro x hx
  simp only [List.mem_cons, List.not_mem_nil, or_false] at hx
  rcases hx with rfl | rfl
  · exact ⟨h, hl ▸ hn⟩
  · exact ⟨h', hl' ▸ hn'⟩
/-- Two ways meet again behind a branch. -/
theorem Holds.seqJoin {cx : Cx} {S : Ls} {x y : Code} {Q : Exit → Act → World → Prop} (J : Ls) (hj : Holds cx J (y.wp cx.P Q)) (h : (∀ (S' : Ls) (τ : List (Nat × Nat)), Sub cx τ S' J → Holds cx S' (y.wp cx.P Q)) → Holds cx S (x.wp cx.P (Exit.then (y.wp cx.P Q) Q))) :
    Holds cx S ((Code.seq x y).wp cx.P Q) := Holds.seq (h fun _ τ hs => Holds.forget τ hs hj)
theorem bEq {x y : Bool} {τ : List (Nat × Nat)} (h : x = y) : some (AV.one (.b x)) = some (AV.ren τ (.one (.b y))) := by rw [h]; rfl
theorem bsEq {ex : Bool} {k : IntKind} {xs ys : List Nat} {τ : List (Nat × Nat)} (h : xs = ys) : some (AV.one (.bs ex k xs)) = some (AV.ren τ (.one (.bs ex k ys))) := by rw [h]; rfl
/-- What holds ahead, and is kept by each step. -/
theorem iter_ind {α : Type} {f : Nat → α → α} {a : α} (p : Nat → α → Prop) (h0 : p 0 a) (n : Nat) (h : ∀ i x, i < n → p i x → p (i + 1) (f i x)) : p n (iter f n a) := by
  have : ∀ m, m ≤ n → p m (iter f m a) := fun m => by
    induction m with
    | zero => exact fun _ => h0
    | succ m ih => exact fun hm => h m _ (by omega) (ih (by omega))
  exact this n (Nat.le_refl n)
/-- Many steps: fewer at a time. -/
theorem iter_add {α : Type} (f : Nat → α → α) (a : α) (m : Nat) : ∀ n, iter f (m + n) a = iter (fun i => f (m + i)) n (iter f m a)
  | 0 => rfl
  | n + 1 => by rw [← Nat.add_assoc, iterS, iterS, iter_add f a m n]
end Go.Fx
