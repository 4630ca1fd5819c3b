/-
  Plain: the bytes of a key are the document's, and how they begin.
-/
import Derived.Test.YtjgcmfedofmkpaaKe
import Derived.Test.YtjgcmfedofmkpaaMh
namespace Go.Proofs.Ytjgcmfedofmkpaa
open Go Go.Fx
set_option linter.unusedVariables false
set_option linter.unusedSimpArgs false
theorem three_lt {a b c : List Nat} (ha : Lt 256 a) (hb : Lt 256 b) (hc : Lt 256 c) : ∀ t ∈ [a, b, c], Lt 256 t := by
  intro t ht
  simp only [List.mem_cons, List.not_mem_nil, or_false] at ht
  rcases ht with rfl | rfl | rfl
  · exact ha
  · exact hb
  · exact hc
theorem rmac_lt (key a : List Nat) : Lt 256 (rmac key a) := by unfold rmac; exact rsha_lt _
theorem lt_b {x : Nat} (h : x < 256) : Lt 256 [x] := lt_lit (by simpa using h)
theorem mac_three {key a b : List Nat} {x : Nat} (hk : Lt 256 key) (ha : Lt 256 a) (hb : Lt 256 b) (hx : x < 256) : mac key [a, b, [x]] = rmac key ((([] ++ a) ++ b) ++ [x]) := by
  rw [mac_eq hk (three_lt ha hb (lt_b hx))]
  simp [List.append_assoc]
theorem mac_nil2 {key b : List Nat} {x : Nat} (hk : Lt 256 key) (hb : Lt 256 b) (hx : x < 256) : mac key [[], b, [x]] = mac key [b, [x]] := by
  rw [mac_eq hk (three_lt lt_nil hb (lt_b hx)), mac_eq hk (two_lt hb (lt_b hx))]
  simp
/-- The steps of both are the same. -/
theorem kx_same {key use_ : List Nat} (bk : Lt 256 key) (bu : Lt 256 use_) : ∀ i, i ≤ 255 → (kexp_it1 key use_ i).1 = (rexp_it1 key use_ i).2 ∧ (kexp_it1 key use_ i).2.1 = (rexp_it1 key use_ i).1 ∧ (kexp_it1 key use_ i).2.2 = [i] ∧ Lt 256 (rexp_it1 key use_ i).1
  | 0, _ => ⟨rfl, rfl, rfl, lt_nil⟩
  | i + 1, h => by
    obtain ⟨h1, h2, h3, h4⟩ := kx_same bk bu i (by omega)
    rw [kexp_it1_s, rexp_it1_s]
    unfold kexp_s1 rexp_s1
    dsimp only
    rw [knext_1, knext_2, h1, h2, h3]
    have e : ([i].set 0 (([i].getD 0 0 + 1) % 256)) = [i + 1] := by
      show [(i + 1) % 256] = _
      rw [Nat.mod_eq_of_lt (by omega)]
    rw [e]
    have e2 : [i + 1].getD 0 0 = i + 1 := rfl
    have e3 : (1 + i) % 256 = i + 1 := by rw [Nat.mod_eq_of_lt (by omega)]; omega
    rw [e2, e3, mac_three bk h4 bu (by omega)]
    exact ⟨rfl, rfl, rfl, rmac_lt _ _⟩
theorem kx_eq {key use_ : List Nat} (bk : Lt 256 key) (bu : Lt 256 use_) (n : Int) : kexp key use_ n = rexp key use_ n := by
  unfold kexp rexp
  by_cases h1 : n < ((0 : Nat) : Int)
  · rw [if_pos h1, if_pos h1]
  · by_cases h2 : ((16320 : Nat) : Int) < n
    · rw [if_neg h1, if_pos h2, if_neg h1, if_pos h2]
    · rw [if_neg h1, if_neg h2, if_neg h1, if_neg h2, (kx_same bk bu _ (by omega)).1, List.drop_zero, Nat.sub_zero]
def kout (key use_ : List Nat) (i : Nat) : List Nat := (kexp_it1 key use_ i).1
theorem kout_len (key use_ : List Nat) (i : Nat) : (kout key use_ i).length = 64 * i := (kexp_n key use_ i).1
theorem kout_pre (key use_ : List Nat) (i : Nat) : ∀ d, (kout key use_ (i + d)).take (64 * i) = kout key use_ i
  | 0 => by rw [Nat.add_zero, List.take_of_length_le (by rw [kout_len]; exact Nat.le_refl _)]
  | d + 1 => by
    have e : kout key use_ (i + (d + 1)) = kout key use_ (i + d) ++ (knext (kexp_it1 key use_ (i + d)).2.2 key (kexp_it1 key use_ (i + d)).2.1 use_).1 := by
      unfold kout
      rw [show i + (d + 1) = (i + d) + 1 by omega, kexp_it1_s]
      unfold kexp_s1
      rfl
    rw [e, List.take_append_of_le_length (by rw [kout_len]; omega)]
    exact kout_pre key use_ i d
theorem kexp_nat (key use_ : List Nat) {n : Nat} (h : n ≤ 16320) : kexp key use_ ((n : Nat) : Int) = ((kout key use_ ((n + 63) / 64)).take n, 0) := by
  unfold kexp kout
  rw [if_neg (by omega), if_neg (by omega), Int.toNat_natCast]
theorem kexp_err (key use_ : List Nat) {n : Nat} (h : n ≤ 16320) : (kexp key use_ ((n : Nat) : Int)).2 = 0 := by rw [kexp_nat key use_ h]
theorem kexp_len {key use_ : List Nat} {n : Nat} (h : n ≤ 16320) : (kexp key use_ ((n : Nat) : Int)).1.length = n := by
  rw [kexp_nat key use_ h, List.length_take, kout_len]
  omega
theorem kexp_big (key use_ : List Nat) {n : Int} (h : 16320 < n) : (kexp key use_ n).2 = 50 := by
  unfold kexp
  rw [if_neg (by omega), if_pos (by omega)]
theorem kexp_neg (key use_ : List Nat) {n : Int} (h : n < 0) : (kexp key use_ n).2 = 1 := by
  unfold kexp
  rw [if_pos (by omega)]
theorem kexp_pre (key use_ : List Nat) {k m : Nat} (h : k ≤ m) (hm : m ≤ 16320) : (kexp key use_ ((k : Nat) : Int)).1 = ((kexp key use_ ((m : Nat) : Int)).1.drop 0).take (k - 0) := by
  rw [kexp_nat key use_ hm, kexp_nat key use_ (by omega), List.drop_zero, Nat.sub_zero]
  dsimp only
  rw [List.take_take, Nat.min_eq_left h]
  obtain ⟨d, hd⟩ : ∃ d, (m + 63) / 64 = (k + 63) / 64 + d := ⟨(m + 63) / 64 - (k + 63) / 64, by omega⟩
  rw [hd, ← kout_pre key use_ ((k + 63) / 64) d, List.take_take, Nat.min_eq_left (by omega)]
theorem kexp_pre0 (key use_ : List Nat) {k m : Nat} (h : k ≤ m) (hm : m ≤ 16320) : (kexp key use_ ((k : Nat) : Int)).1 = (kexp key use_ ((m : Nat) : Int)).1.take k := by
  rw [kexp_pre key use_ h hm, List.drop_zero, Nat.sub_zero]
theorem kout_two {key use_ : List Nat} (bk : Lt 256 key) (bu : Lt 256 use_) : kout key use_ 2 = mac key [use_, [1]] ++ mac key [mac key [use_, [1]], use_, [2]] := by
  have e2 : kexp_it1 key use_ 2 = kexp_s1 key use_ 1 (kexp_it1 key use_ 1) := kexp_it1_s key use_ 1
  have e1 : kexp_it1 key use_ 1 = kexp_s1 key use_ 0 (kexp_it1 key use_ 0) := kexp_it1_s key use_ 0
  rw [kexp_it1_z] at e1
  unfold kexp_s1 at e1 e2
  dsimp only at e1 e2
  unfold kout
  rw [e2, e1]
  dsimp only
  rw [knext_1, knext_2, knext_1]
  show ([] ++ mac key [[], use_, [1]]) ++ mac key [mac key [[], use_, [1]], use_, [2]] = _
  rw [mac_nil2 bk bu (by decide), List.nil_append]
theorem kexp_128 {key use_ : List Nat} (bk : Lt 256 key) (bu : Lt 256 use_) : (kexp key use_ ((128 : Nat) : Int)).1 = mac key [use_, [1]] ++ mac key [mac key [use_, [1]], use_, [2]] := by
  rw [kexp_nat key use_ (by decide)]
  show (kout key use_ 2).take 128 = _
  rw [List.take_of_length_le (by rw [kout_len]; exact Nat.le_refl _), kout_two bk bu]
theorem kexp_a {key use_ : List Nat} (bk : Lt 256 key) (bu : Lt 256 use_) : (kexp key use_ ((128 : Nat) : Int)).1.take 64 = mac key [use_, [1]] := by
  rw [kexp_128 bk bu, List.take_left' (mac_l _ _)]
theorem kexp_b {key use_ : List Nat} (bk : Lt 256 key) (bu : Lt 256 use_) : (kexp key use_ ((128 : Nat) : Int)).1.drop 64 = mac key [mac key [use_, [1]], use_, [2]] := by
  rw [kexp_128 bk bu, List.drop_left' (mac_l _ _)]
theorem kext_eq {key a : List Nat} (bk : Lt 256 key) (ba : Lt 256 a) : kext key a = rext key a := by
  unfold kext rext
  exact mac_one bk ba
theorem kext_zero (a : List Nat) (z : Nat) : kext [] a = kext (List.replicate (z % 129) 0) a := by
  unfold kext
  exact (mac_zeros lt_nil (z := z % 129) (by have := Nat.mod_lt z (show 0 < 129 by decide); simp only [List.length_nil]; omega) [a]).symm
end Go.Proofs.Ytjgcmfedofmkpaa
