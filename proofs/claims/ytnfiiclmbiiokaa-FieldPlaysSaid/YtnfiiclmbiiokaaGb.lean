/-
  Plain: four numbers in a row: the program's and the document's.
-/
import Derived.Test.YtnfiiclmbiiokaaGa
import Derived.Test.YtnfiiclmbiiokaaXb
import Derived.Test.YtnfiiclmbiiokaaPi
namespace Go.Proofs.Ytnfiiclmbiiokaa
open Go Go.Fx
set_option linter.unusedVariables false
set_option linter.unusedSimpArgs false
theorem laid_len {X v : List Nat} {o : Nat} (h : o + v.length ≤ X.length) : (X.take o ++ v ++ X.drop (o + v.length)).length = X.length := by
  simp only [List.length_append, List.length_take, List.length_drop]
  omega
theorem laid_in {X v : List Nat} {o p : Nat} (h : o + v.length ≤ X.length) (h1 : o ≤ p) (h2 : p < o + v.length) : (X.take o ++ v ++ X.drop (o + v.length)).getD p 0 = v.getD (p - o) 0 := by
  have hl : (X.take o).length = o := by rw [List.length_take]; omega
  rw [List.append_assoc, getD_append_r (by omega), hl, getD_append_l (by omega)]
theorem laid_out {X v : List Nat} {o p : Nat} (h : o + v.length ≤ X.length) (h1 : p < o ∨ o + v.length ≤ p) : (X.take o ++ v ++ X.drop (o + v.length)).getD p 0 = X.getD p 0 := by
  have hl : (X.take o).length = o := by rw [List.length_take]; omega
  rw [List.append_assoc]
  rcases h1 with h1 | h1
  · rw [getD_append_l (by omega), Fx.getD_take h1]
  · rw [getD_append_r (by omega), hl, getD_append_r (by omega), Fx.getD_drop]
    congr 1
    omega
def r5 (X : List Nat) (j : Nat) : List Nat := (X.drop (j * 5)).take 5
def r16 (X : List Nat) (j : Nat) : List Nat := (X.drop (j * 16)).take 16
theorem r5_getD {X : List Nat} {j i : Nat} (hi : i < 5) : (r5 X j).getD i 0 = X.getD (j * 5 + i) 0 := by unfold r5; rw [Fx.getD_take hi, Fx.getD_drop]
theorem r16_getD {X : List Nat} {j i : Nat} (hi : i < 16) : (r16 X j).getD i 0 = X.getD (j * 16 + i) 0 := by unfold r16; rw [Fx.getD_take hi, Fx.getD_drop]
theorem r5_len {X : List Nat} {j : Nat} (hX : X.length = 20) (hj : j < 4) : (r5 X j).length = 5 := by unfold r5; rw [List.length_take, List.length_drop]; omega
theorem r16_len {X : List Nat} {j : Nat} (hX : X.length = 64) (hj : j < 4) : (r16 X j).length = 16 := by unfold r16; rw [List.length_take, List.length_drop]; omega
theorem r5_set {X v : List Nat} {c j : Nat} (hX : X.length = 20) (hv : v.length = 5) (hc : c < 4) (hj : j < 4) : r5 (X.take (c * 5) ++ v ++ X.drop (c * 5 + v.length)) j = if j = c then v else r5 X j := by
  have hL := laid_len (X := X) (v := v) (o := c * 5) (by omega)
  refine Fx.ext_getD ?_ fun i hi => ?_
  · rw [r5_len (hL.trans hX) hj]
    split
    · exact hv.symm
    · exact (r5_len hX hj).symm
  · rw [r5_len (hL.trans hX) hj] at hi
    rw [r5_getD hi]
    split
    · rename_i e
      subst e
      rw [laid_in (by omega) (by omega) (by omega)]
      congr 1
      omega
    · rename_i e
      rw [laid_out (by omega) (by omega), r5_getD hi]
theorem r16_set {X v : List Nat} {c j : Nat} (hX : X.length = 64) (hv : v.length = 16) (hc : c < 4) (hj : j < 4) : r16 (X.take (c * 16) ++ v ++ X.drop (c * 16 + v.length)) j = if j = c then v else r16 X j := by
  have hL := laid_len (X := X) (v := v) (o := c * 16) (by omega)
  refine Fx.ext_getD ?_ fun i hi => ?_
  · rw [r16_len (hL.trans hX) hj]
    split
    · exact hv.symm
    · exact (r16_len hX hj).symm
  · rw [r16_len (hL.trans hX) hj] at hi
    rw [r16_getD hi]
    split
    · rename_i e
      subst e
      rw [laid_in (by omega) (by omega) (by omega)]
      congr 1
      omega
    · rename_i e
      rw [laid_out (by omega) (by omega), r16_getD hi]
/-- The first k of both are the same numbers. -/
def Rk (k : Nat) (X N : List Nat) : Prop := X.length = 20 ∧ N.length = 64 ∧ ∀ j, j < k → Fe (r5 X j) ∧ r16 N j = nk (kv (r5 X j))
theorem Rk.set {k k' c : Nat} {X N v w : List Nat} (h : Rk k X N) (hk : k' ≤ 4) (hc : c < 4) (hv : Fe v) (hw : w = nk (kv v)) (hkk : ∀ j, j < k' → j < k ∨ j = c) :
    Rk k' (X.take (c * 5) ++ v ++ X.drop (c * 5 + v.length)) (N.take (c * 16) ++ w ++ N.drop (c * 16 + w.length)) := by
  obtain ⟨h1, h2, h3⟩ := h
  have l1 := hv.1
  have l2 : w.length = 16 := by rw [hw]; exact nk_len _
  refine ⟨(laid_len (by omega)).trans h1, (laid_len (by omega)).trans h2, fun j hj => ?_⟩
  rw [r5_set h1 l1 hc (by omega), r16_set h2 l2 hc (by omega)]
  by_cases e : j = c
  · rw [if_pos e, if_pos e]
    exact ⟨hv, hw⟩
  · rw [if_neg e, if_neg e]
    exact h3 j ((hkk j hj).resolve_right e)
theorem Rk.put {c : Nat} {X N v w : List Nat} (h : Rk 4 X N) (hc : c < 4) (hv : Fe v) (hw : w = nk (kv v)) : Rk 4 (X.take (c * 5) ++ v ++ X.drop (c * 5 + v.length)) (N.take (c * 16) ++ w ++ N.drop (c * 16 + w.length)) :=
  h.set (Nat.le_refl _) hc hv hw (fun j hj => .inl hj)
theorem Rk.lt {X N : List Nat} (h : Rk 4 X N) : Lt 65536 N := by
  intro p
  by_cases hp : p < 64
  · have e : N.getD p 0 = (r16 N (p / 16)).getD (p % 16) 0 := by
      rw [r16_getD (Nat.mod_lt _ (by decide))]
      congr 1
      omega
    rw [e, (h.2.2 (p / 16) (by omega)).2]
    exact nk_lt _ _
  · rw [Fx.getD_ge (by rw [h.2.1]; omega)]
    decide
theorem rg0 {a b : List Nat} (la : a.length = 32) (lb : b.length = 32) (ba : Lt 256 a) (bb : Lt 256 b) : Rk 4 ((((((List.replicate 20 0).take 0 ++ (load a) ++ (List.replicate 20 0).drop (0 + (load a).length)).take 5 ++ (load b) ++ ((List.replicate 20 0).take 0 ++ (load a) ++ (List.replicate 20 0).drop (0 + (load a).length)).drop (5 + (load b).length)).take 10 ++ (load ((List.replicate 32 0).set 0 1)) ++ (((List.replicate 20 0).take 0 ++ (load a) ++ (List.replicate 20 0).drop (0 + (load a).length)).take 5 ++ (load b) ++ ((List.replicate 20 0).take 0 ++ (load a) ++ (List.replicate 20 0).drop (0 + (load a).length)).drop (5 + (load b).length)).drop (10 + (load ((List.replicate 32 0).set 0 1)).length)).take 15 ++ (List.replicate 5 0) ++ ((((List.replicate 20 0).take 0 ++ (load a) ++ (List.replicate 20 0).drop (0 + (load a).length)).take 5 ++ (load b) ++ ((List.replicate 20 0).take 0 ++ (load a) ++ (List.replicate 20 0).drop (0 + (load a).length)).drop (5 + (load b).length)).take 10 ++ (load ((List.replicate 32 0).set 0 1)) ++ (((List.replicate 20 0).take 0 ++ (load a) ++ (List.replicate 20 0).drop (0 + (load a).length)).take 5 ++ (load b) ++ ((List.replicate 20 0).take 0 ++ (load a) ++ (List.replicate 20 0).drop (0 + (load a).length)).drop (5 + (load b).length)).drop (10 + (load ((List.replicate 32 0).set 0 1)).length)).drop (15 + (List.replicate 5 0).length)))
  ((((((List.replicate 64 0).take 0 ++ (rload a) ++ (List.replicate 64 0).drop (0 + (rload a).length)).take 16 ++ (rload b) ++ ((List.replicate 64 0).take 0 ++ (rload a) ++ (List.replicate 64 0).drop (0 + (rload a).length)).drop (16 + (rload b).length)).take 32 ++ (rof 1) ++ (((List.replicate 64 0).take 0 ++ (rload a) ++ (List.replicate 64 0).drop (0 + (rload a).length)).take 16 ++ (rload b) ++ ((List.replicate 64 0).take 0 ++ (rload a) ++ (List.replicate 64 0).drop (0 + (rload a).length)).drop (16 + (rload b).length)).drop (32 + (rof 1).length)).take 48 ++ (List.replicate 16 0) ++ ((((List.replicate 64 0).take 0 ++ (rload a) ++ (List.replicate 64 0).drop (0 + (rload a).length)).take 16 ++ (rload b) ++ ((List.replicate 64 0).take 0 ++ (rload a) ++ (List.replicate 64 0).drop (0 + (rload a).length)).drop (16 + (rload b).length)).take 32 ++ (rof 1) ++ (((List.replicate 64 0).take 0 ++ (rload a) ++ (List.replicate 64 0).drop (0 + (rload a).length)).take 16 ++ (rload b) ++ ((List.replicate 64 0).take 0 ++ (rload a) ++ (List.replicate 64 0).drop (0 + (rload a).length)).drop (16 + (rload b).length)).drop (32 + (rof 1).length)).drop (48 + (List.replicate 16 0).length))) := by
  have h0 : Rk 0 (List.replicate 20 0) (List.replicate 64 0) := ⟨rfl, rfl, fun j hj => absurd hj (Nat.not_lt_zero _)⟩
  obtain ⟨a1, a2⟩ := ld la ba
  obtain ⟨b1, b2⟩ := ld lb bb
  have a3 : rload a = nk (kv (load a)) := by rw [rd la ba, a2]
  have b3 : rload b = nk (kv (load b)) := by rw [rd lb bb, b2]
  obtain ⟨o1, o2'⟩ := load_val (b := (List.replicate 32 0).set 0 1) rfl (Lt.of_mem (by decide) (by decide))
  have o2 : kv (load ((List.replicate 32 0).set 0 1)) = 1 := (o2'.trans (congrArg kof (by decide))).trans kof_one
  have o3 : rof 1 = nk (kv (load ((List.replicate 32 0).set 0 1))) := by rw [o2, rof_val (by decide), kof_one]
  have z3 : List.replicate 16 0 = nk (kv (List.replicate 5 0)) := by rw [kv_zero]; exact nk_zero
  have h1 := h0.set (k' := 1) (c := 0) (by decide) (by decide) a1 a3 (fun j hj => by omega)
  have h2 := h1.set (k' := 2) (c := 1) (by decide) (by decide) b1 b3 (fun j hj => by omega)
  have h3 := h2.set (k' := 3) (c := 2) (by decide) (by decide) o1 o3 (fun j hj => by omega)
  exact h3.set (k' := 4) (c := 3) (by decide) (by decide) fe_zero z3 (fun j hj => by omega)
section
variable {X N : List Nat} {i j : Nat}
theorem pl_add (h : Rk 4 X N) (hi : i < 4) (hj : j < 4) : Fe (add (r5 X i) (r5 X j)) ∧ radd (r16 N i) (r16 N j) = nk (kv (add (r5 X i) (r5 X j))) := by
  obtain ⟨f1, e1⟩ := h.2.2 i hi
  obtain ⟨f2, e2⟩ := h.2.2 j hj
  obtain ⟨g1, g2⟩ := add_val f1 f2
  exact ⟨g1, by rw [e1, e2, radd_val, g2]⟩
theorem pl_sub (h : Rk 4 X N) (hi : i < 4) (hj : j < 4) : Fe (sub (r5 X i) (r5 X j)) ∧ rsub (r16 N i) (r16 N j) = nk (kv (sub (r5 X i) (r5 X j))) := by
  obtain ⟨f1, e1⟩ := h.2.2 i hi
  obtain ⟨f2, e2⟩ := h.2.2 j hj
  obtain ⟨g1, g2⟩ := sub_val f1 f2
  exact ⟨g1, by rw [e1, e2, rsub_val, g2]⟩
theorem pl_mul (h : Rk 4 X N) (hi : i < 4) (hj : j < 4) : Fe (mul (r5 X i) (r5 X j)) ∧ rmul (r16 N i) (r16 N j) = nk (kv (mul (r5 X i) (r5 X j))) := by
  obtain ⟨f1, e1⟩ := h.2.2 i hi
  obtain ⟨f2, e2⟩ := h.2.2 j hj
  obtain ⟨g1, g2⟩ := mul_val f1 f2
  exact ⟨g1, by rw [e1, e2, rmul_val, g2]⟩
theorem pl_sqr (h : Rk 4 X N) (hi : i < 4) : Fe (sqr (r5 X i)) ∧ rmul (r16 N i) (r16 N i) = nk (kv (sqr (r5 X i))) := by
  obtain ⟨f1, e1⟩ := h.2.2 i hi
  obtain ⟨g1, g2⟩ := sqr_val f1
  exact ⟨g1, by rw [e1, rmul_val, g2]⟩
theorem pl_neg (h : Rk 4 X N) (hi : i < 4) : Fe (neg (r5 X i)) ∧ rsub (List.replicate 16 0) (r16 N i) = nk (kv (neg (r5 X i))) := by
  obtain ⟨f1, e1⟩ := h.2.2 i hi
  obtain ⟨g1, g2⟩ := neg_val f1
  refine ⟨g1, ?_⟩
  have e0 : (0 : K) - kv (r5 X i) = -kv (r5 X i) := by generalize kv (r5 X i) = z; grind -lia
  rw [e1, nk_zero, rsub_val, g2, e0]
theorem pl_pick (h : Rk 4 X N) (hi : i < 4) (hj : j < 4) : Fe (pick (r5 X i) (r5 X j) true) ∧ r16 N i = nk (kv (pick (r5 X i) (r5 X j) true)) := by
  obtain ⟨f1, e1⟩ := h.2.2 i hi
  obtain ⟨f2, e2⟩ := h.2.2 j hj
  rw [pick_all f1 f2, if_pos rfl]
  exact ⟨f1, e1⟩
theorem pl_load (h : Rk 4 X N) (hi : i < 4) : Fe (load (fbytes (r5 X i))) ∧ r16 N i = nk (kv (load (fbytes (r5 X i)))) := by
  obtain ⟨f1, e1⟩ := h.2.2 i hi
  obtain ⟨g1, g2⟩ := load_fb f1
  exact ⟨g1, by rw [e1, g2]⟩
theorem plays_b (h : Rk 4 X N) (hi : i < 4) : fbytes ((X.drop (i * 5)).take 5) = rbytes ((N.drop (i * 16)).take 16) := by
  obtain ⟨f1, e1⟩ := h.2.2 i hi
  unfold r5 r16 at *
  rw [e1, rbytes_val, fbytes_val f1]
theorem plays_o (h : Rk 4 X N) (hi : i < 4) : (!(odd ((X.drop (i * 5)).take 5) == decide (N.getD (i * 16) 0 % 2 = 1))) = false := by
  obtain ⟨f1, e1⟩ := h.2.2 i hi
  have e2 : N.getD (i * 16) 0 = (nk (kv (r5 X i))).getD 0 0 := by
    rw [← e1, r16_getD (by decide), Nat.add_zero]
  rw [e2, nk_odd]
  unfold r5 at *
  rw [odd_val f1]
  simp
end
end Go.Proofs.Ytnfiiclmbiiokaa
