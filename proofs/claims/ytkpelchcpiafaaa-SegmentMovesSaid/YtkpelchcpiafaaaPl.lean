/-
  The plain law of segments taken out one by one.
-/
import Derived.Test.YtkpelchcpiafaaaTh
import Derived.Test.YtkpelchcpiafaaaPk
namespace Go.Proofs.Ytkpelchcpiafaaa
open Go Go.Fx
set_option linter.unusedVariables false
set_option linter.unusedSimpArgs false
theorem segs_val (s : List Nat) : segs s = (segs_it1 s ((s.length - 1) / 528)).2 ++ [(segs_it1 s ((s.length - 1) / 528)).1] := rfl
theorem segs_len (s : List Nat) : (segs s).length = (s.length - 1) / 528 + 1 := by
  rw [segs_val, List.length_append, segs_n]
  rfl
theorem segs_it_get (s : List Nat) : ∀ i j, 528 * i ≤ s.length → j < i → (segs_it1 s i).2.getD j [] = (s.drop (528 * j)).take 528
  | 0, j, _, h => absurd h (Nat.not_lt_zero j)
  | i + 1, j, h, hj => by
    rw [segs_it1_s]
    unfold segs_s1
    dsimp only
    by_cases q : j < i
    · rw [List.getD_eq_getElem?_getD, List.getElem?_append_left (by rw [segs_n]; exact q), ← List.getD_eq_getElem?_getD]
      exact segs_it_get s i j (by omega) q
    · have e : j = i := by omega
      rw [List.getD_eq_getElem?_getD, List.getElem?_append_right (by rw [segs_n]; omega), segs_n, e, Nat.sub_self, segs_f s i (by omega)]
      simp
theorem segs_get (s : List Nat) {j : Nat} (h : j ≤ (s.length - 1) / 528) : (segs s).getD j [] = (s.drop (528 * j)).take 528 := by
  rw [segs_val]
  by_cases q : j < (s.length - 1) / 528
  · rw [List.getD_eq_getElem?_getD, List.getElem?_append_left (by rw [segs_n]; exact q), ← List.getD_eq_getElem?_getD]
    exact segs_it_get s _ j (by omega) q
  · have e : j = (s.length - 1) / 528 := by omega
    rw [List.getD_eq_getElem?_getD, List.getElem?_append_right (by rw [segs_n]; omega), segs_n, ← e, Nat.sub_self, segs_f s j (by omega)]
    rw [List.take_of_length_le (by rw [List.length_drop]; omega)]
    rfl
theorem segs_le (s : List Nat) (j : Nat) : ((segs s).getD j []).length ≤ 528 := by
  by_cases h : j ≤ (s.length - 1) / 528
  · rw [segs_get s h, List.length_take]; omega
  · rw [List.getD_eq_getElem?_getD, List.getElem?_eq_none (by rw [segs_len]; omega)]
    exact Nat.zero_le _
theorem segs_sealed {key : List Nat} (lk : key.length = 32) (beside : List Nat) {b : List Nat} (hb : b.length ≤ 4000000) : (segs (sseal key beside b).1).length = (b.length - 1) / 512 + 1 := by
  have hn := sseal_len lk beside (b := b) (by omega)
  rw [segs_len, hn]
  omega
theorem segs_seg {key : List Nat} (lk : key.length = 32) (beside : List Nat) {b : List Nat} (hb : b.length ≤ 4000000) {j : Nat} (h : j ≤ (b.length - 1) / 512) : (segs (sseal key beside b).1).getD j [] = segm key beside b j := by
  have hn := sseal_len lk beside (b := b) (by omega)
  rw [segs_get _ (by omega)]
  by_cases q : j < (b.length - 1) / 512
  · exact sseal_seg lk beside (by omega) q
  · have e : j = (b.length - 1) / 512 := by omega
    rw [e, sseal_last lk beside (by omega)]
    exact List.take_of_length_le (by rw [segm_len lk]; omega)
theorem segm_lt {key beside b : List Nat} (lk : key.length = 32) (hk : Lt 256 key) (hs : Lt 256 beside) (lb : Lt 256 b) (i : Nat) : Lt 256 (segm key beside b i) :=
  sealed_lt lk hk (nonce_lt _ _) ((lb.drop _).take _) hs
theorem seg_each {key beside b : List Nat} (lk : key.length = 32) (hk : Lt 256 key) (hs : Lt 256 beside) (lb : Lt 256 b) (hb : b.length ≤ 4000000) {n : Nat} (h : n < (segs (sseal key beside b).1).length) :
    ropened key (nonce (n % 18446744073709551616) (decide (n = (segs (sseal key beside b).1).length - 1))) ((segs (sseal key beside b).1).getD n []) beside = ((b.drop (512 * n)).take 512, 0) := by
  rw [segs_sealed lk beside hb] at h ⊢
  rw [segs_seg lk beside hb (by omega), ← opened_eq hk (nonce_lt _ _) (segm_lt lk hk hs lb n) hs, show n % 18446744073709551616 = n by omega]
  exact opened_segm lk beside b n (decide_eq_decide.2 (by omega))
theorem seg_part {b : List Nat} {n : Nat} (h : 512 * n ≤ b.length) : (b.drop (512 * n)).take 512 = (b.drop (Min.min (512 * n) b.length)).take (Min.min (512 * n + 512) b.length - Min.min (512 * n) b.length) := by
  rw [show Min.min (512 * n) b.length = 512 * n by omega]
  by_cases q : 512 * n + 512 ≤ b.length
  · rw [show Min.min (512 * n + 512) b.length - 512 * n = 512 by omega]
  · rw [show Min.min (512 * n + 512) b.length - 512 * n = b.length - 512 * n by omega, List.take_of_length_le (by rw [List.length_drop]; omega), List.take_of_length_le (by rw [List.length_drop]; omega)]
end Go.Proofs.Ytkpelchcpiafaaa
