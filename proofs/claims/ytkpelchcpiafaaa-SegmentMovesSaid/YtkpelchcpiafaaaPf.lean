/-
  The plain law of sealing and opening.
-/
import Derived.Test.YtkpelchcpiafaaaRe
namespace Go.Proofs.Ytkpelchcpiafaaa
open Go Go.Fx
set_option linter.unusedVariables false
set_option linter.unusedSimpArgs false
theorem xor_zero {x y : Nat} : x ^^^ y = 0 ↔ x = y := by
  constructor
  · intro h
    rw [← Nat.xor_zero x, ← Nat.xor_self y, ← Nat.xor_assoc, h, Nat.zero_xor]
  · rintro rfl
    exact Nat.xor_self x
theorem same_it (a b : List Nat) (i : Nat) : same_it1 a b i = 0 ↔ ∀ j, j < i → a.getD j 0 = b.getD j 0 := by
  induction i with
  | zero => exact ⟨fun _ j h => absurd h (Nat.not_lt_zero j), fun _ => rfl⟩
  | succ i ih =>
    rw [same_it1_s]
    unfold same_s1
    dsimp only
    rw [Nat.or_eq_zero_iff, ih, xor_zero]
    constructor
    · rintro ⟨h1, h2⟩ j hj
      by_cases h : j = i
      · subst h; exact h2
      · exact h1 j (by omega)
    · intro h
      exact ⟨fun j hj => h j (by omega), h i (by omega)⟩
theorem same_eq (a b : List Nat) : same a b = true ↔ a = b := by
  unfold same
  split
  · rename_i h
    exact ⟨fun q => absurd q (by decide), fun q => absurd (congrArg List.length q) h⟩
  · rename_i h
    rw [decide_eq_true_iff, same_it]
    constructor
    · intro q
      refine ext_getD (by omega) fun j hj => q j (by omega)
    · rintro rfl j _
      rfl
theorem block_lt (key nonce : List Nat) (ctr : Nat) : Lt 256 (block key ctr nonce) :=
  iter_inv (fun o => Lt 256 o) (Lt.replicate (by decide)) (fun i o h => h.set (Nat.mod_lt _ (by decide))) 64
theorem stream_lt {key nonce xs : List Nat} {ctr : Nat} (h : Lt 256 xs) : Lt 256 (stream block key ctr nonce xs) :=
  Lt.map_range (by decide) (fun i _ => Nat.xor_lt_two_pow (n := 8) (h i) (block_lt _ _ _ _))
theorem rmark_key (key nonce : List Nat) : rmark_it1 key nonce 32 = (rblock key 0 nonce).take 32 := by
  have k : ∀ i, i ≤ 32 → ∀ j, j < i → (rmark_it1 key nonce i).getD j 0 = (rblock key 0 nonce).getD j 0 := by
    intro i
    induction i with
    | zero => intro _ j hj; omega
    | succ i ih =>
      intro hi j hj
      rw [rmark_it1_s]
      unfold rmark_s1
      dsimp only
      by_cases h : j = i
      · subst h
        rw [getD_set_eq (by rw [rmark_it1_l]; simp; omega)]
      · rw [Fx.getD_set_ne (by omega)]
        exact ih (by omega) j (by omega)
  have hl : (rmark_it1 key nonce 32).length = 32 := by rw [rmark_it1_l]; simp
  refine ext_getD (by rw [hl, List.length_take, rblock_len]; rfl) fun j hj => ?_
  rw [hl] at hj
  rw [k 32 (by decide) j hj, getD_take hj]
theorem mark_eq {key nonce text beside : List Nat} (hk : Lt 256 key) (hn : Lt 256 nonce) (ht : Lt 256 text) (hb : Lt 256 beside) : mark key nonce text beside = rmark key nonce text beside := by
  unfold mark rmark
  dsimp only
  rw [rmark_key, ← block_eq hk hn (by decide), List.drop_zero]
  exact tags_same (by rw [List.length_take, block_len]; rfl) ((block_lt _ _ _).take _) (by rw [← tagged_flat]; exact tagged_lt hb ht) (tagged_flat _ _)
theorem sealed_val (key nonce text beside : List Nat) : sealed key nonce text beside = (stream block key 1 nonce text ++ mark key nonce (stream block key 1 nonce text) beside, 0) := by
  unfold sealed
  dsimp only
  rw [List.drop_zero, Nat.sub_zero, List.take_of_length_le (by rw [stream_len]; exact Nat.le_refl _)]
theorem sealed_eq {key nonce text beside : List Nat} (hk : Lt 256 key) (hn : Lt 256 nonce) (ht : Lt 256 text) (hb : Lt 256 beside) : sealed key nonce text beside = rseal key nonce text beside := by
  rw [sealed_val]
  unfold rseal
  dsimp only
  rw [← stream_eq hk hn, mark_eq hk hn (stream_lt ht) hb, List.nil_append]
theorem opened_lt {key nonce s beside : List Nat} (h : s.length < 16) : opened key nonce s beside = ([], 110) := by
  unfold opened
  dsimp only
  rw [if_pos (by omega)]
theorem opened_ge {key nonce s beside : List Nat} (h : 16 ≤ s.length) : opened key nonce s beside = if mark key nonce (s.take (s.length - 16)) beside = s.drop (s.length - 16) then (stream block key 1 nonce (s.take (s.length - 16)), 0) else ([], 110) := by
  unfold opened
  dsimp only
  rw [if_neg (by omega), List.drop_zero, Nat.sub_zero, show (s.drop (s.length - 16)).take (s.length - (s.length - 16)) = s.drop (s.length - 16) from List.take_of_length_le (by simp)]
  by_cases q : mark key nonce (s.take (s.length - 16)) beside = s.drop (s.length - 16)
  · rw [if_pos q, if_neg (by rw [(same_eq _ _).2 q]; decide)]
  · rw [if_neg q, if_pos (by simpa using fun z => q ((same_eq _ _).1 z))]
theorem opened_eq {key nonce s beside : List Nat} (hk : Lt 256 key) (hn : Lt 256 nonce) (ht : Lt 256 s) (hb : Lt 256 beside) : opened key nonce s beside = ropened key nonce s beside := by
  by_cases h : s.length < 16
  · rw [opened_lt h]
    unfold ropened
    rw [if_pos h]
  · rw [opened_ge (by omega), mark_eq hk hn (ht.take _) hb]
    unfold ropened
    dsimp only
    rw [if_neg h, List.drop_zero, Nat.sub_zero, show (s.drop (s.length - 16)).take (s.length - (s.length - 16)) = s.drop (s.length - 16) from List.take_of_length_le (by simp), ← stream_eq hk hn]
    by_cases q : rmark key nonce (s.take (s.length - 16)) beside = s.drop (s.length - 16)
    · rw [if_pos q, if_neg (fun z => z q)]
    · rw [if_neg q, if_pos q]
theorem opened_join {key nonce c m beside : List Nat} (hm : m.length = 16) : opened key nonce (c ++ m) beside = if mark key nonce c beside = m then (stream block key 1 nonce c, 0) else ([], 110) := by
  have hl : (c ++ m).length - 16 = c.length := by rw [List.length_append, hm]; omega
  rw [opened_ge (by rw [List.length_append, hm]; omega), hl, List.take_left, List.drop_left]
theorem opened_sealed {key nonce text beside : List Nat} (lk : key.length = 32) (ln : nonce.length = 12) : opened key nonce (sealed key nonce text beside).1 beside = (text, 0) := by
  rw [sealed_val]
  dsimp only
  rw [opened_join (mark_len _ _ _ _ lk ln), if_pos rfl, stream_twice]
theorem sealed_len {key nonce text beside : List Nat} (lk : key.length = 32) (ln : nonce.length = 12) : (sealed key nonce text beside).1.length = text.length + 16 := by
  rw [sealed_val]
  dsimp only
  rw [List.length_append, stream_len, mark_len _ _ _ _ lk ln]
theorem sealed_l19 {key nonce text beside : List Nat} (lk : key.length = 32) (ln : nonce.length = 12) (lt : text.length = 3) : (sealed key nonce text beside).1.length = 19 := by
  rw [sealed_len lk ln, lt]
theorem sealed_lt {key nonce text beside : List Nat} (lk : key.length = 32) (hk : Lt 256 key) (hn : Lt 256 nonce) (ht : Lt 256 text) (hb : Lt 256 beside) : Lt 256 (sealed key nonce text beside).1 := by
  rw [sealed_val]
  dsimp only
  refine (stream_lt ht).append ?_
  unfold mark
  dsimp only
  rw [ptag_val (by rw [List.length_take, List.length_drop, block_len]; rfl) (((block_lt _ _ _).drop _).take _) (tagged_lt hb (stream_lt ht))]
  exact Lt.map_range (by decide) (fun i _ => Nat.mod_lt _ (by decide))
theorem sealed_take {key nonce text beside : List Nat} : (sealed key nonce text beside).1.take text.length = stream block key 1 nonce text := by
  rw [sealed_val]
  dsimp only
  exact List.take_left' (stream_len _ _ _ _ _)
end Go.Proofs.Ytkpelchcpiafaaa
