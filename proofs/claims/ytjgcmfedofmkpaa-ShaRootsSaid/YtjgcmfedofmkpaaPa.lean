/-
  Plain: a block of the program is one of the document.
-/
import Derived.Test.YtjgcmfedofmkpaaSj
namespace Go.Proofs.Ytjgcmfedofmkpaa
open Go Go.Fx
set_option linter.unusedVariables false
set_option linter.unusedSimpArgs false
theorem turn_eq (x n : Nat) : sturn x n = rturn x n := by unfold sturn rturn; rfl
theorem k_eq : sK = rK := by unfold sK rK; rfl
theorem or_add {m b : Nat} (h : b < 256) : m * 2 ^ 8 % 18446744073709551616 ||| b = (m * 2 ^ 8 % 18446744073709551616 + b) % 18446744073709551616 := by
  have e : m * 2 ^ 8 % 18446744073709551616 = (m % 72057594037927936) * 2 ^ 8 := by omega
  rw [e, Nat.mul_comm, ← Nat.two_pow_add_eq_or_of_lt (i := 8) (b := b) (by simpa using h)]
  omega
theorem blk1 {b : List Nat} (hb : Lt 256 b) : ∀ i, sblk_it1 b i = rwords_it1 b i
  | 0 => rfl
  | i + 1 => by
    rw [sblk_it1_s, rwords_it1_s, blk1 hb i]
    unfold sblk_s1 rwords_s1
    dsimp only
    rw [or_add (hb i)]
theorem blk2 {b : List Nat} (hl : b.length = 128) (hb : Lt 256 b) : ∀ i, sblk_it2 b i = rwords_it2 b i
  | 0 => by rw [sblk_it2_z, rwords_it2_z, hl]; exact blk1 hb 128
  | i + 1 => by
    rw [sblk_it2_s, rwords_it2_s, blk2 hl hb i]
    unfold sblk_s2 rwords_s2
    simp only [turn_eq]
theorem words_eq {b : List Nat} (hl : b.length = 128) (hb : Lt 256 b) : sblk_it2 b 64 = rwords b := by
  rw [blk2 hl hb]
  unfold rwords
  rfl
theorem blk3s {b : List Nat} (hw : sblk_it2 b 64 = rwords b) (s : St) (k : List Nat) (i : Nat) (m : List Nat) : sblk_s3 b s k i m = rblock_s1 s.h b k i m := by
  unfold sblk_s3 rblock_s1
  rw [hw]
  simp only [turn_eq]
theorem blk3 {b : List Nat} (hl : b.length = 128) (hb : Lt 256 b) (s : St) (k : List Nat) (i : Nat) : sblk_it3 b s k i = rblock_it1 s.h b k i := by
  induction i with
  | zero => rw [sblk_it3_z, rblock_it1_z]
  | succ i ih => rw [sblk_it3_s, rblock_it1_s, ih, blk3s (words_eq hl hb)]
theorem blk4 {b : List Nat} (hl : b.length = 128) (hb : Lt 256 b) (s : St) (k : List Nat) : ∀ i, sblk_it4 b s k i = ⟨s.b, rblock_it2 s.h b k i, s.n, s.r⟩
  | 0 => rfl
  | i + 1 => by
    rw [sblk_it4_s, rblock_it2_s, blk4 hl hb s k i]
    unfold sblk_s4 rblock_s2
    dsimp only [St.setH]
    rw [blk3 hl hb]
theorem blk_eq {b : List Nat} (hl : b.length = 128) (hb : Lt 256 b) (s : St) (k : List Nat) : (sblk b s k).1 = ⟨s.b, rblock s.h b k, s.n, s.r⟩ := by
  rw [sblk_1, blk4 hl hb]
  unfold rblock
  rfl
/-! ### What a state stands for -/
/-- The blocks of a message, folded. -/
def hb (m : List Nat) (q : Nat) : List Nat := iter (fun i h => rblock h ((m.drop (128 * i)).take 128) rK) q snew.h
theorem hb_succ (m : List Nat) (q : Nat) : hb m (q + 1) = rblock (hb m q) ((m.drop (128 * q)).take 128) rK := rfl
theorem hb_append {m : List Nat} (a : List Nat) {q : Nat} (h : 128 * q ≤ m.length) : hb (m ++ a) q = hb m q := by
  unfold hb
  refine iter_ext q fun i hi x _ => ?_
  show rblock x (((m ++ a).drop (128 * i)).take 128) rK = rblock x ((m.drop (128 * i)).take 128) rK
  rw [List.drop_append_of_le_length (by omega), List.take_append_of_le_length (by rw [List.length_drop]; omega)]
/-- The state stands for the message. -/
structure Inv (s : St) (m : List Nat) : Prop where
  b : s.b = true
  n : s.n = m.length % 18446744073709551616
  r : s.r = m.drop (128 * (m.length / 128))
  h : s.h = hb m (m.length / 128)
theorem Inv.new : Inv snew [] := ⟨snew_b, snew_n, snew_r, rfl⟩
theorem Inv.beg {s : St} {m : List Nat} (h : Inv s m) : sbeg s = s := (sbeg_neg s (by rw [h.b]; decide)).symm
theorem Inv.write {s : St} {m a : List Nat} (h : Inv s m) (hm : Lt 256 m) (ha : Lt 256 a) : Inv (swrite s a) (m ++ a) := by
  have hma : Lt 256 (m ++ a) := hm.append ha
  have eX : s.r ++ a = (m ++ a).drop (128 * (m.length / 128)) := by
    rw [h.r, List.drop_append_of_le_length (by omega)]
  have key : ∀ i, i ≤ (s.r.length + a.length) / 128 → (swrite_it1 s a i).2.1 = ⟨true, hb (m ++ a) (m.length / 128 + i), (s.n + a.length % 18446744073709551616) % 18446744073709551616, s.r⟩ := by
    intro i
    induction i with
    | zero =>
      intro _
      rw [swrite_it1_z, h.beg]
      dsimp only [St.setN]
      rw [h.b, h.h, Nat.add_zero, hb_append a (by omega)]
    | succ i ih =>
      intro hi
      obtain ⟨g1, g2, g3⟩ := swrite_n s a i
      rw [h.beg, eX, List.drop_drop] at g1
      rw [swrite_it1_s]
      unfold swrite_s1
      dsimp only
      have hl : s.r.length = m.length % 128 := by rw [h.r, List.length_drop]; omega
      have hL : ((swrite_it1 s a i).1.drop 0).take (128 - 0) = ((m ++ a).drop (128 * (m.length / 128 + i))).take 128 := by
        rw [g1, List.drop_zero, show 128 * (m.length / 128) + 128 * i = 128 * (m.length / 128 + i) by omega]
      rw [hL, g3, k_eq, blk_eq (by rw [List.length_take, List.length_drop, List.length_append]; omega) ((hma.drop _).take _), ih (by omega)]
      dsimp only
      rw [← Nat.add_assoc, hb_succ]
  have hl : s.r.length = m.length % 128 := by rw [h.r, List.length_drop]; omega
  have hq : m.length / 128 + (s.r.length + a.length) / 128 = (m ++ a).length / 128 := by rw [List.length_append, hl]; omega
  have e : swrite s a = ((swrite_it1 s a ((s.r.length + a.length) / 128)).2.1).setR (swrite_it1 s a ((s.r.length + a.length) / 128)).1 := by
    unfold swrite
    rw [h.beg]
  rw [e, key _ (Nat.le_refl _), hq]
  refine ⟨rfl, ?_, ?_, rfl⟩
  · show (s.n + a.length % 18446744073709551616) % 18446744073709551616 = _
    rw [h.n, List.length_append, ← Nat.add_mod]
  · show (swrite_it1 s a ((s.r.length + a.length) / 128)).1 = _
    rw [(swrite_n s a _).1, h.beg, eX, List.drop_drop, ← Nat.mul_add, hq]
theorem Inv.parts {ts : List (List Nat)} (hts : ∀ t ∈ ts, Lt 256 t) : ∀ i, i ≤ ts.length → Inv (sha_it1 ts i) (ts.take i).flatten ∧ Lt 256 (ts.take i).flatten
  | 0, _ => ⟨Inv.new, fun _ => by simp⟩
  | i + 1, hi => by
    obtain ⟨h1, h2⟩ := Inv.parts hts i (by omega)
    have hg : ts.getD i [] ∈ ts := by
      rw [List.getD_eq_getElem?_getD, List.getElem?_eq_getElem (by omega)]
      exact List.getElem_mem _
    have e : (ts.take (i + 1)).flatten = (ts.take i).flatten ++ ts.getD i [] := by
      rw [List.take_add_one, List.flatten_append, List.getD_eq_getElem?_getD]
      have hi' : i < ts.length := by omega
      simp [hi']
    rw [e, sha_it1_s]
    unfold sha_s1
    exact ⟨h1.write h2 (hts _ hg), h2.append (hts _ hg)⟩
end Go.Proofs.Ytjgcmfedofmkpaa
