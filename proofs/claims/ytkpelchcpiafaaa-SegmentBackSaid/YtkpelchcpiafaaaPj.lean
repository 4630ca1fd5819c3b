/-
  The plain law of sealed segments: the document's, and where each segment lies.
-/
import Derived.Test.YtkpelchcpiafaaaTc
import Derived.Test.YtkpelchcpiafaaaTd
namespace Go.Proofs.Ytkpelchcpiafaaa
open Go Go.Fx
set_option linter.unusedVariables false
set_option linter.unusedSimpArgs false
theorem rnonce_it (n : Nat) : ∀ i, i ≤ 8 → rnonce_it1 n i = nonce_it1 n i
  | 0, _ => rfl
  | i + 1, h => by
    rw [rnonce_it1_s, nonce_it1_s, rnonce_it n i (by omega)]
    unfold rnonce_s1 nonce_s1
    dsimp only
    rw [show (56 - 8 * i) % 18446744073709551616 = 56 - 8 * i by omega]
theorem rnonce_eq (n : Nat) (l : Bool) : rnonce n l = nonce n l := by
  unfold rnonce nonce
  rw [rnonce_it n 8 (by decide)]
theorem nonce_it_lt (n : Nat) : ∀ i, Lt 256 (nonce_it1 n i)
  | 0 => Lt.replicate (by decide)
  | i + 1 => by
    rw [nonce_it1_s]
    unfold nonce_s1
    exact (nonce_it_lt n i).set (Nat.mod_lt _ (by decide))
theorem nonce_lt (n : Nat) (l : Bool) : Lt 256 (nonce n l) := by
  unfold nonce
  split
  · exact (nonce_it_lt n 8).set (by decide)
  · exact nonce_it_lt n 8
theorem min512 (n : Nat) : (if 512 < n then 512 else n) = Min.min n 512 := by split <;> omega
theorem min528 (n : Nat) : (if 528 < n then 528 else n) = Min.min n 528 := by split <;> omega
theorem rsseal_it {key beside b : List Nat} (hk : Lt 256 key) (hs : Lt 256 beside) (hb : b.length ≤ 4194304) (lb : Lt 256 b) : ∀ i, 512 * i ≤ b.length → rsseal_it1 key beside b i = sseal_it1 key beside b i
  | 0, _ => rfl
  | i + 1, h => by
    have hl : Lt 256 (sseal_it1 key beside b i).1 := by rw [(sseal_f key beside hb i (by omega)).1]; exact lb.drop _
    rw [rsseal_it1_s, sseal_it1_s, rsseal_it hk hs hb lb i (by omega)]
    unfold rsseal_s1 sseal_s1
    dsimp only
    rw [min512, rnonce_eq, ← sealed_eq hk (nonce_lt _ _) ((hl.drop _).take _) hs]
theorem rsseal_eq {key beside b : List Nat} (hk : Lt 256 key) (hs : Lt 256 beside) (hb : b.length ≤ 4194304) (lb : Lt 256 b) : rsseal key beside b = sseal key beside b := by
  have hl : Lt 256 (sseal_it1 key beside b ((b.length - 1) / 512)).1 := by rw [(sseal_f key beside hb _ (by omega)).1]; exact lb.drop _
  unfold rsseal sseal
  rw [rsseal_it hk hs hb lb _ (by omega), min512, rnonce_eq, ← sealed_eq hk (nonce_lt _ _) ((hl.drop _).take _) hs]
/-- A segment of the sealed text. -/
def segm (key beside b : List Nat) (i : Nat) : List Nat := (sealed key (nonce i (decide (b.length - 512 * i ≤ 512))) ((b.drop (512 * i)).take 512) beside).1
theorem segm_step {key : List Nat} (beside : List Nat) {b : List Nat} (hb : b.length ≤ 4194304) (i : Nat) (h : 512 * i ≤ b.length) :
    (sealed key (nonce (sseal_it1 key beside b i).2.1 (decide ((Min.min (sseal_it1 key beside b i).1.length 512) = (sseal_it1 key beside b i).1.length))) (((sseal_it1 key beside b i).1.drop 0).take ((Min.min (sseal_it1 key beside b i).1.length 512) - 0)) beside).1 = segm key beside b i := by
  obtain ⟨h1, h2⟩ := sseal_f key beside hb i h
  rw [h1, h2, List.drop_zero, Nat.sub_zero, List.length_drop]
  unfold segm
  rw [decide_eq_decide.2 (show (Min.min (b.length - 512 * i) 512 = b.length - 512 * i) ↔ (b.length - 512 * i ≤ 512) by omega)]
  congr 2
  by_cases q : b.length - 512 * i ≤ 512
  · rw [List.take_of_length_le (by rw [List.length_drop]; omega), List.take_of_length_le (by rw [List.length_drop]; omega)]
  · rw [show Min.min (b.length - 512 * i) 512 = 512 by omega]
theorem segm_len {key : List Nat} (lk : key.length = 32) (beside b : List Nat) (i : Nat) : (segm key beside b i).length = Min.min 512 (b.length - 512 * i) + 16 := by
  unfold segm
  rw [sealed_len lk (nonce_len _ _), List.length_take, List.length_drop]
theorem sseal_out {key : List Nat} (beside : List Nat) {b : List Nat} (hb : b.length ≤ 4194304) (i : Nat) (h : 512 * i ≤ b.length) : (sseal_it1 key beside b (i + 1)).2.2 = (sseal_it1 key beside b i).2.2 ++ segm key beside b i := by
  rw [← segm_step beside hb i h, sseal_it1_s]
  rfl
theorem sseal_all {key : List Nat} (beside : List Nat) {b : List Nat} (hb : b.length ≤ 4194304) : (sseal key beside b).1 = (sseal_it1 key beside b ((b.length - 1) / 512)).2.2 ++ segm key beside b ((b.length - 1) / 512) := by
  rw [← segm_step beside hb _ (by omega)]
  rfl
theorem sseal_len {key : List Nat} (lk : key.length = 32) (beside : List Nat) {b : List Nat} (hb : b.length ≤ 4194304) : (sseal key beside b).1.length = b.length + 16 * ((b.length - 1) / 512 + 1) := by
  rw [sseal_all beside hb, List.length_append, sseal_n lk beside hb _ (by omega), segm_len lk]
  omega
theorem sseal_take {key : List Nat} (lk : key.length = 32) (beside : List Nat) {b : List Nat} (hb : b.length ≤ 4194304) : ∀ d i, i + d = (b.length - 1) / 512 → (sseal key beside b).1.take (528 * i) = (sseal_it1 key beside b i).2.2
  | 0, i, h => by
    have e : i = (b.length - 1) / 512 := by omega
    rw [sseal_all beside hb, e]
    exact List.take_left' (sseal_n lk beside hb _ (by omega))
  | d + 1, i, h => by
    have ih := sseal_take lk beside hb d (i + 1) (by omega)
    have hn := sseal_n lk beside hb i (by omega)
    rw [sseal_out beside hb i (by omega)] at ih
    have := congrArg (List.take (528 * i)) ih
    rw [List.take_take, show Min.min (528 * i) (528 * (i + 1)) = 528 * i by omega, List.take_left' hn] at this
    exact this
/-- Each segment lies at its place. -/
theorem sseal_seg {key : List Nat} (lk : key.length = 32) (beside : List Nat) {b : List Nat} (hb : b.length ≤ 4194304) {i : Nat} (h : i < (b.length - 1) / 512) : ((sseal key beside b).1.drop (528 * i)).take 528 = segm key beside b i := by
  have h1 := sseal_take lk beside hb ((b.length - 1) / 512 - (i + 1)) (i + 1) (by omega)
  rw [sseal_out beside hb i (by omega)] at h1
  have h2 := congrArg (List.drop (528 * i)) h1
  rw [List.drop_left' (sseal_n lk beside hb i (by omega)), List.drop_take, show 528 * (i + 1) - 528 * i = 528 by omega] at h2
  exact h2
theorem sseal_last {key : List Nat} (lk : key.length = 32) (beside : List Nat) {b : List Nat} (hb : b.length ≤ 4194304) : (sseal key beside b).1.drop (528 * ((b.length - 1) / 512)) = segm key beside b ((b.length - 1) / 512) := by
  rw [sseal_all beside hb]
  exact List.drop_left' (sseal_n lk beside hb _ (by omega))
theorem opened_segm {key : List Nat} (lk : key.length = 32) (beside b : List Nat) (i : Nat) {l : Bool} (hl : decide (b.length - 512 * i ≤ 512) = l) : opened key (nonce i l) (segm key beside b i) beside = ((b.drop (512 * i)).take 512, 0) := by
  unfold segm
  rw [hl]
  exact opened_sealed lk (nonce_len _ _)
end Go.Proofs.Ytkpelchcpiafaaa
