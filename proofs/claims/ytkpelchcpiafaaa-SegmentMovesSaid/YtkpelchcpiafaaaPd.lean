/-
  The plain law of Poly1305: both tags are the same number's bytes.
-/
import Derived.Test.YtkpelchcpiafaaaPc
namespace Go.Proofs.Ytkpelchcpiafaaa
open Go Go.Fx
set_option linter.unusedVariables false
set_option linter.unusedSimpArgs false

def pchunk (t : List Nat) (i : Nat) : List Nat := (t.drop (16 * i)).take 16
def pcv (t : List Nat) (i : Nat) : Nat := val 256 (pchunk t i) + 256 ^ (pchunk t i).length
def pacc (r : Nat) (t : List Nat) (n : Nat) : Nat := iter (fun i h => (h + pcv t i) * r % P130) n 0
theorem pacc_lt (r : Nat) (t : List Nat) (n : Nat) : pacc r t n < P130 := by
  cases n with
  | zero => exact (by decide : 0 < P130)
  | succ n => exact Nat.mod_lt _ (by decide : 0 < P130)
theorem pacc_succ (r : Nat) (t : List Nat) (n : Nat) : pacc r t (n + 1) = (pacc r t n + pcv t n) * r % P130 := rfl
def clampL (k : List Nat) : List Nat :=
  [k.getD 0 0, k.getD 1 0, k.getD 2 0, k.getD 3 0 % 16, k.getD 4 0 - k.getD 4 0 % 4, k.getD 5 0, k.getD 6 0, k.getD 7 0 % 16, k.getD 8 0 - k.getD 8 0 % 4, k.getD 9 0, k.getD 10 0, k.getD 11 0 % 16, k.getD 12 0 - k.getD 12 0 % 4, k.getD 13 0, k.getD 14 0, k.getD 15 0 % 16]
def clamp (k : List Nat) : Nat := val 256 (clampL k)
theorem and252 : ∀ k, k < 256 → k &&& 252 = k - k % 4 := by decide +kernel
theorem and255 {k : Nat} (h : k < 256) : k &&& 255 = k := by rw [show (255 : Nat) = 2 ^ 8 - 1 by decide, and_mask]; omega
theorem and15 (k : Nat) : k &&& 15 = k % 16 := and_mask k 4
theorem P130_40 : P130 < 256 ^ 40 := by decide
theorem P130_20 : P130 < 256 ^ 20 := by decide
theorem pfold_le {V : Nat} (h : V < 2467047160177266359781340901694081032192 * 21267647932558653966460912964485513216) : pfold V < 1786482426335389432854591686830544609280 := by
  unfold pfold
  rw [show (2 : Nat) ^ 130 = 1361129467683753853853498429727072845824 from rfl]
  omega
theorem acc_mod (S c r : Nat) : pfold ((S + c) * r) % P130 = (S % P130 + c) * r % P130 := by
  rw [pfold_mod, Nat.mul_mod (S + c), Nat.mul_mod (S % P130 + c), Nat.mod_add_mod]
theorem pword8 {b : List Nat} (h : Lt 256 b) {o : Nat} (ho : o + 8 ≤ b.length) : pword ((b.drop o).take 8) = val 256 ((b.drop o).take 8) ∧ pword ((b.drop o).take 8) < 18446744073709551616 := by
  have hl : 8 ≤ ((b.drop o).take 8).length := by rw [List.length_take, List.length_drop]; omega
  have h1 := pword_val ((h.drop o).take 8) hl
  rw [List.take_take, Nat.min_self] at h1
  exact ⟨h1, pword_lt ((h.drop o).take 8) hl⟩
theorem clamp_words {key : List Nat} (lk : key.length = 32) (hk : Lt 256 key) :
    val 18446744073709551616 [pword ((key.drop 0).take 8) &&& 1152921487695413247, pword ((key.drop 8).take 8) &&& 1152921487695413244] = clamp key := by
  have b := fun j => hk j
  rw [(pword8 hk (o := 0) (by omega)).1, (pword8 hk (o := 8) (by omega)).1, eight (by omega), eight (by omega)]
  rw [show (1152921487695413247 : Nat) = val 256 [255, 255, 255, 15, 252, 255, 255, 15] by decide, show (1152921487695413244 : Nat) = val 256 [252, 255, 255, 15, 252, 255, 255, 15] by decide]
  rw [and_val (ys := [255, 255, 255, 15, 252, 255, 255, 15]) (Lt.of_mem (by decide) (by simp only [List.mem_cons, List.not_mem_nil, or_false, forall_eq_or_imp, forall_eq]; exact ⟨b _, b _, b _, b _, b _, b _, b _, b _⟩)) (Lt.of_mem (by decide) (by decide)) (by simp), and_val (ys := [252, 255, 255, 15, 252, 255, 255, 15]) (Lt.of_mem (by decide) (by simp only [List.mem_cons, List.not_mem_nil, or_false, forall_eq_or_imp, forall_eq]; exact ⟨b _, b _, b _, b _, b _, b _, b _, b _⟩)) (Lt.of_mem (by decide) (by decide)) (by simp)]
  simp only [List.zipWith_cons_cons, List.zipWith_nil_right, and255 (b _), and252 _ (b _), and15, Nat.zero_add, Nat.reduceAdd]
  unfold clamp clampL
  simp only [val]
  omega
theorem clamp_lt {key : List Nat} (lk : key.length = 32) (hk : Lt 256 key) : clamp key < 21267647932558653966460912964485513216 := by
  rw [← clamp_words lk hk]
  have h1 : pword ((key.drop 0).take 8) &&& 1152921487695413247 ≤ 1152921487695413247 := Nat.and_le_right
  have h2 : pword ((key.drop 8).take 8) &&& 1152921487695413244 ≤ 1152921487695413244 := Nat.and_le_right
  simp only [val]
  omega
theorem set2 (x y : Nat) : ((List.replicate 2 0).set 0 x).set 1 y = [x, y] := rfl
theorem set3 (x y z : Nat) : (((List.replicate 3 0).set 0 x).set 1 y).set 2 z = [x, y, z] := rfl
theorem set3' (x y : Nat) : ((List.replicate 3 0).set 0 x).set 1 y = [x, y, 0] := rfl
theorem set5 (x y z : Nat) : (((List.replicate 5 0).set 0 x).set 1 y).set 2 z = [x, y, z, 0, 0] := rfl
/-- A block: what is told, a byte 1, and bytes 0. -/
theorem block_eq' {c : List Nat} (h : c.length ≤ 16) : ((List.replicate 24 0).take 0 ++ c ++ (List.replicate 24 0).drop (0 + c.length)).set c.length 1 = c ++ 1 :: List.replicate (23 - c.length) 0 := by
  rw [List.take_zero, List.nil_append, Nat.zero_add, List.drop_replicate, show 24 - c.length = (23 - c.length) + 1 by omega, List.replicate_succ, List.set_append_right _ _ (Nat.le_refl _), Nat.sub_self]
  rfl
theorem block_val {c : List Nat} (h : c.length ≤ 16) : val 256 (c ++ 1 :: List.replicate (23 - c.length) 0) = val 256 c + 256 ^ c.length := by
  rw [val_append, val, val_replicate]; omega
theorem words3 {b : List Nat} (l : b.length = 24) (h : Lt 256 b) : val 18446744073709551616 [pword ((b.drop 0).take 8), pword ((b.drop 8).take 8), pword ((b.drop 16).take 8)] = val 256 b ∧ Lt 18446744073709551616 [pword ((b.drop 0).take 8), pword ((b.drop 8).take 8), pword ((b.drop 16).take 8)] := by
  have g := fun o (ho : o + 8 ≤ 24) => pword8 h (o := o) (by omega)
  refine ⟨?_, Lt.of_mem (by decide) (by simp only [List.mem_cons, List.not_mem_nil, or_false, forall_eq_or_imp, forall_eq]; exact ⟨(g 0 (by omega)).2, (g 8 (by omega)).2, (g 16 (by omega)).2⟩)⟩
  rw [(g 0 (by omega)).1, (g 8 (by omega)).1, (g 16 (by omega)).1]
  have e1 := val_split8 b (by omega)
  have e2 := val_split8 (b.drop 8) (by simp; omega)
  have e3 := val_split8 (b.drop 16) (by simp; omega)
  rw [List.drop_drop] at e2 e3
  rw [(List.drop_eq_nil_of_le (by omega) : b.drop (16 + 8) = [])] at e3
  simp only [val, List.drop_zero, Nat.reduceAdd] at *
  omega
theorem words2 {b : List Nat} (l : b.length = 32) (h : Lt 256 b) : val 18446744073709551616 [pword ((b.drop 16).take 8), pword ((b.drop 24).take 8), 0] = val 256 (b.drop 16) ∧ Lt 18446744073709551616 [pword ((b.drop 16).take 8), pword ((b.drop 24).take 8), 0] := by
  have g := fun o (ho : o + 8 ≤ 32) => pword8 h (o := o) (by omega)
  refine ⟨?_, Lt.of_mem (by decide) (by simp only [List.mem_cons, List.not_mem_nil, or_false, forall_eq_or_imp, forall_eq]; exact ⟨(g 16 (by omega)).2, (g 24 (by omega)).2, by decide⟩)⟩
  rw [(g 16 (by omega)).1, (g 24 (by omega)).1]
  have e1 := val_split8 (b.drop 16) (by simp; omega)
  have e2 := val_split8 (b.drop 24) (by simp; omega)
  rw [List.drop_drop] at e1 e2
  rw [(List.drop_eq_nil_of_le (by omega) : b.drop (24 + 8) = [])] at e2
  simp only [val, Nat.reduceAdd] at *
  omega
theorem ptag_step {key : List Nat} {xss : List (List Nat)} (lk : key.length = 32) (hk : Lt 256 key) (ht : Lt 256 xss.flatten) : ∀ i, i ≤ (xss.flatten.length + 15) / 16 →
    Lt 18446744073709551616 (ptag_it1 key xss i).2 ∧ val 18446744073709551616 (ptag_it1 key xss i).2 < 1786482426335389432854591686830544609280 ∧ val 18446744073709551616 (ptag_it1 key xss i).2 % P130 = pacc (clamp key) xss.flatten i := by
  intro i
  induction i with
  | zero => intro _; exact ⟨Lt.replicate (by decide), by show val _ (List.replicate 3 0) < _; rw [val_replicate]; decide, by show val _ (List.replicate 3 0) % _ = 0; rw [val_replicate]; rfl⟩
  | succ i ih =>
    intro hi
    obtain ⟨h1, h2, h3⟩ := ih (by omega)
    have l3 : (ptag_it1 key xss i).2.length = 3 := by rw [ptag_it1_l1, List.length_replicate]
    have hc : ((ptag_it1 key xss i).1.drop 0).take (Min.min 16 (ptag_it1 key xss i).1.length - 0) = pchunk xss.flatten i := by
      rw [ptag_t, List.drop_zero, Nat.sub_zero, pchunk, List.take_eq_take_iff]
      simp
    have hcl : Min.min 16 (ptag_it1 key xss i).1.length = (pchunk xss.flatten i).length := by
      rw [← hc]; simp
    have hc16 : (pchunk xss.flatten i).length ≤ 16 := by rw [← hcl]; exact Nat.min_le_left _ _
    rw [hcl, Nat.sub_zero] at hc
    have hcb : Lt 256 (pchunk xss.flatten i) := (ht.drop _).take _
    rw [ptag_it1_s]
    simp only [ptag_s1, hc, hcl, block_eq' hc16, set2, set3, Nat.sub_zero, show 16 - 8 = 8 from rfl, show 24 - 16 = 8 from rfl]
    have lb : (pchunk xss.flatten i ++ 1 :: List.replicate (23 - (pchunk xss.flatten i).length) 0).length = 24 := by simp; omega
    have bb : Lt 256 (pchunk xss.flatten i ++ 1 :: List.replicate (23 - (pchunk xss.flatten i).length) 0) := hcb.append (Lt.of_mem (by decide) (by simp))
    obtain ⟨w1, w2⟩ := words3 lb bb
    rw [block_val hc16] at w1
    have cw := clamp_words lk hk
    have cl := clamp_lt lk hk
    have bw : Lt 18446744073709551616 [pword ((key.drop 0).take 8) &&& 1152921487695413247, pword ((key.drop 8).take 8) &&& 1152921487695413244] := Lt.of_mem (by decide) (by
      simp only [List.mem_cons, List.not_mem_nil, or_false, forall_eq_or_imp, forall_eq]
      exact ⟨Nat.lt_of_le_of_lt Nat.and_le_right (by decide), Nat.lt_of_le_of_lt Nat.and_le_right (by decide)⟩)
    obtain ⟨a1, a2⟩ := padd_val l3 rfl h1 w2
    have cb : pcv xss.flatten i < 680564733841876926926749214863536422912 := by
      have e1 := hcb.val_lt
      have e2 : (256 : Nat) ^ (pchunk xss.flatten i).length ≤ 256 ^ 16 := Nat.pow_le_pow_right (by decide) hc16
      rw [show (256 : Nat) ^ 16 = 340282366920938463463374607431768211456 from rfl] at e2
      unfold pcv
      omega
    have e0 : val 256 (pchunk xss.flatten i) + 256 ^ (pchunk xss.flatten i).length = pcv xss.flatten i := rfl
    rw [w1, e0, show (18446744073709551616 : Nat) ^ 3 = 6277101735386680763835789423207666416102355444464034512896 from rfl, Nat.mod_eq_of_lt (by omega)] at a2
    have hN : val 18446744073709551616 (padd (ptag_it1 key xss i).2 [pword (List.take 8 (List.drop 0 (pchunk xss.flatten i ++ 1 :: List.replicate (23 - (pchunk xss.flatten i).length) 0))), pword (List.take 8 (List.drop 8 (pchunk xss.flatten i ++ 1 :: List.replicate (23 - (pchunk xss.flatten i).length) 0))), pword (List.take 8 (List.drop 16 (pchunk xss.flatten i ++ 1 :: List.replicate (23 - (pchunk xss.flatten i).length) 0)))]) * val 18446744073709551616 [pword ((key.drop 0).take 8) &&& 1152921487695413247, pword ((key.drop 8).take 8) &&& 1152921487695413244] < 2467047160177266359781340901694081032192 * 21267647932558653966460912964485513216 := by
      rw [a2, cw]
      exact Nat.mul_lt_mul_of_lt_of_lt (by omega) cl
    obtain ⟨t1, t2⟩ := ptimes_val (padd_len _ _) rfl a1 bw (Nat.lt_trans hN (by decide))
    refine ⟨t1, ?_, ?_⟩
    · rw [t2]; exact pfold_le hN
    · rw [t2, a2, cw, pacc_succ, ← h3]; exact acc_mod _ _ _
theorem ptag_s2_eq (key : List Nat) (xss : List (List Nat)) : ptag_s2 key xss = fun i m => m.set i ((ptag_sum key xss).getD (i / 8) 0 / 2 ^ (8 * (i % 8)) % 256) := by
  funext i m; unfold ptag_s2; rfl
theorem ptag_out (key : List Nat) (xss : List (List Nat)) : ptag key xss = (List.range 16).map fun i => (ptag_sum key xss).getD (i / 8) 0 / 2 ^ (8 * (i % 8)) % 256 := by
  unfold ptag ptag_it2
  rw [ptag_s2_eq]
  exact iter_fill (fun i => (ptag_sum key xss).getD (i / 8) 0 / 2 ^ (8 * (i % 8)) % 256) 16
/-- The program's tag. -/
theorem ptag_val {key : List Nat} {xss : List (List Nat)} (lk : key.length = 32) (hk : Lt 256 key) (ht : Lt 256 xss.flatten) :
    ptag key xss = digs 256 16 (pacc (clamp key) xss.flatten ((xss.flatten.length + 15) / 16) + val 256 (key.drop 16)) := by
  obtain ⟨h1, h2, h3⟩ := ptag_step lk hk ht _ (Nat.le_refl _)
  have l3 : (ptag_it1 key xss ((xss.flatten.length + 15) / 16)).2.length = 3 := by rw [ptag_it1_l1, List.length_replicate]
  generalize hS : (ptag_it1 key xss ((xss.flatten.length + 15) / 16)).2 = S at *
  have f1 : Lt 18446744073709551616 (ptag_f key xss) ∧ val 18446744073709551616 (ptag_f key xss) = pfold (val 18446744073709551616 S) := by
    have e : ptag_f key xss = pfolded [S.getD 0 0, S.getD 1 0, S.getD 2 0, 0, 0] := by
      unfold ptag_f; rw [hS]; rfl
    have eS : val 18446744073709551616 [S.getD 0 0, S.getD 1 0, S.getD 2 0, 0, 0] = val 18446744073709551616 S := by
      match S, l3 with
      | [a, b, c], _ => rfl
    rw [e]
    have := pfolded_val (w := [S.getD 0 0, S.getD 1 0, S.getD 2 0, 0, 0]) rfl (Lt.of_mem (by decide) (by simp only [List.mem_cons, List.not_mem_nil, or_false, forall_eq_or_imp, forall_eq]; exact ⟨h1 0, h1 1, h1 2, by decide, by decide⟩)) (by rw [eS]; exact Nat.lt_trans h2 (by decide))
    rw [eS] at this
    exact this
  obtain ⟨fl, fv⟩ := f1
  have fm : val 18446744073709551616 (ptag_f key xss) % P130 = pacc (clamp key) xss.flatten ((xss.flatten.length + 15) / 16) := by rw [fv, pfold_mod, h3]
  have fb : val 18446744073709551616 (ptag_f key xss) < 1361129467683753853853498429727072845829 := by
    rw [fv]
    unfold pfold
    rw [show (2 : Nat) ^ 130 = 1361129467683753853853498429727072845824 from rfl]
    omega
  obtain ⟨ml, mv⟩ := padd_val (a := ptag_f key xss) (b := [5, 0, 0]) (ptag_f_len _ _) rfl fl (Lt.of_mem (by decide) (by decide))
  have mv' : val 18446744073709551616 (ptag_m key xss) = val 18446744073709551616 (ptag_f key xss) + 5 := by
    have e : ptag_m key xss = padd (ptag_f key xss) [5, 0, 0] := rfl
    rw [e, mv, show val 18446744073709551616 [5, 0, 0] = 5 from rfl, show (18446744073709551616 : Nat) ^ 3 = 6277101735386680763835789423207666416102355444464034512896 from rfl, Nat.mod_eq_of_lt (by omega)]
  have ml' : Lt 18446744073709551616 (ptag_m key xss) := ml
  have hm3 := ptag_m_len key xss
  obtain ⟨s1, s2⟩ := words2 lk hk
  have key' : ∀ Z : List Nat, Z.length = 3 → Lt 18446744073709551616 Z → val 18446744073709551616 Z = pacc (clamp key) xss.flatten ((xss.flatten.length + 15) / 16) → ptag_sum key xss = padd Z [pword ((key.drop 16).take 8), pword ((key.drop 24).take 8), 0] →
      ptag key xss = digs 256 16 (pacc (clamp key) xss.flatten ((xss.flatten.length + 15) / 16) + val 256 (key.drop 16)) := by
    intro Z lz hz vz e
    obtain ⟨g1, g2⟩ := padd_val lz rfl hz s2
    have pl := pacc_lt (clamp key) xss.flatten ((xss.flatten.length + 15) / 16)
    have kl : val 256 (key.drop 16) < 340282366920938463463374607431768211456 := by
      have := (hk.drop 16).val_lt
      rw [List.length_drop, lk] at this
      exact this
    rw [vz, s1, show (18446744073709551616 : Nat) ^ 3 = 6277101735386680763835789423207666416102355444464034512896 from rfl, Nat.mod_eq_of_lt (by unfold P130 at pl; omega)] at g2
    have e2 := ptag_out key xss
    rw [e2, ← g2, ← e]
    unfold digs
    refine List.map_congr_left fun i _ => ?_
    have g3 := val_group (B := 256) (k := 8) (by decide) (by decide) (ptag_sum key xss) i (by rw [e]; exact g1)
    rw [pow256, ← g3]
  have es : ptag_sum key xss = padd (if 4 ≤ (ptag_m key xss).getD 2 0 then [(ptag_m key xss).getD 0 0, (ptag_m key xss).getD 1 0, ((ptag_m key xss).getD 2 0 + (18446744073709551616 - 4)) % 18446744073709551616] else ptag_f key xss) [pword ((key.drop 16).take 8), pword ((key.drop 24).take 8), 0] := rfl
  obtain ⟨m0, m1, m2, hm⟩ : ∃ m0 m1 m2, ptag_m key xss = [m0, m1, m2] := by
    match ptag_m key xss, hm3 with
    | [a, b, c], _ => exact ⟨a, b, c, rfl⟩
  have b0 : m0 < 18446744073709551616 := by have := ml' 0; rw [hm] at this; exact this
  have b1 : m1 < 18446744073709551616 := by have := ml' 1; rw [hm] at this; exact this
  have b2 : m2 < 18446744073709551616 := by have := ml' 2; rw [hm] at this; exact this
  rw [hm] at mv'
  simp only [val] at mv'
  unfold P130 at fm
  by_cases h : 4 ≤ (ptag_m key xss).getD 2 0
  · rw [if_pos h, hm] at es
    rw [hm] at h
    have h' : 4 ≤ m2 := h
    refine key' _ rfl (Lt.of_mem (by decide) ?_) ?_ es
    · simp only [List.mem_cons, List.not_mem_nil, or_false, forall_eq_or_imp, forall_eq]
      exact ⟨b0, b1, Nat.mod_lt _ (by decide)⟩
    · show m0 + 18446744073709551616 * (m1 + 18446744073709551616 * ((m2 + (18446744073709551616 - 4)) % 18446744073709551616 + 18446744073709551616 * 0)) = _
      rw [← fm]
      rw [show (m2 + (18446744073709551616 - 4)) % 18446744073709551616 = m2 - 4 by omega]
      clear mv ml fv s1 s2 h1 h2 h3
      generalize val 18446744073709551616 (ptag_f key xss) = X at *
      rw [Nat.mod_eq_sub_mod (by omega), Nat.mod_eq_of_lt (by omega)]
      omega
  · rw [if_neg h] at es
    rw [hm] at h
    have h' : ¬ 4 ≤ m2 := h
    refine key' _ (ptag_f_len _ _) fl ?_ es
    rw [← fm]
    omega
/-! ### the other one -/
theorem rtag_it3_eq (key : List Nat) : rtag_it3 key 3 = clampL key ++ List.replicate 24 0 := by kernel_rfl
theorem rtag_it3_len (key : List Nat) : (rtag_it3 key 3).length = 40 := by rw [rtag_it3_l, rtag_it2_l, rtag_it1_l, List.length_replicate]
theorem rtag_it3_zero (key : List Nat) {j : Nat} (hj : 20 ≤ j) : (rtag_it3 key 3).getD j 0 = 0 := by
  have h : (clampL key).length = 16 := rfl
  rw [rtag_it3_eq, getD_append_r (by omega)]
  exact rep_getD 24 _
theorem rtag_it3_val (key : List Nat) : val 256 (rtag_it3 key 3) = clamp key := by
  rw [rtag_it3_eq, val_append, val_replicate, Nat.mul_zero, Nat.add_zero]; rfl
theorem digs_zero {N j : Nat} (h : N < 256 ^ 20) (hj : 20 ≤ j) : (digs 256 40 N).getD j 0 = 0 := by
  by_cases h4 : j < 40
  · rw [digs_getD h4, Nat.div_eq_of_lt (Nat.lt_of_lt_of_le h (Nat.pow_le_pow_right (by decide) hj))]
  · exact getD_ge (by rw [digs_len]; omega)
theorem rtag5_val {m : List Nat × List Nat} (lm : m.2.length = 40) : ∀ i, i ≤ m.1.length → i ≤ 16 → val 256 (rtag_it5 m i) = val 256 m.2 + val 256 (m.1.take i) := by
  intro i
  induction i with
  | zero => intro _ _; rw [rtag_it5_z]; simp [val]
  | succ i ih =>
    intro h1 h2
    have := ih (by omega) (by omega)
    have h5 := val_set (B := 256) (xs := rtag_it5 m i) (i := i) (v := (rtag_it5 m i).getD i 0 + m.1.getD i 0) (by rw [rtag_it5_l]; omega)
    rw [rtag_it5_s]
    simp only [rtag_s5]
    rw [Nat.mul_add] at h5
    rw [val_take_succ (by omega)]
    omega
theorem rtag_step {key text : List Nat} (lk : key.length = 32) (hk : Lt 256 key) (ht : Lt 256 text) : ∀ i, i ≤ (text.length + 15) / 16 → (rtag_it4 key text i).2 = digs 256 40 (pacc (clamp key) text i) := by
  intro i
  induction i with
  | zero => intro _; rw [rtag_it4_z]; exact (by decide : List.replicate 40 0 = digs 256 40 0)
  | succ i ih =>
    intro hi
    have h1 := ih (by omega)
    have hv : (if 16 < (rtag_it4 key text i).1.length then 16 else (rtag_it4 key text i).1.length) = (pchunk text i).length := by
      rw [rtag_t, pchunk, List.length_take]
      split <;> omega
    have hc16 : (pchunk text i).length ≤ 16 := by rw [pchunk, List.length_take]; omega
    have hcl : (pchunk text i).length ≤ (rtag_it4 key text i).1.length := by rw [rtag_t, pchunk, List.length_take]; omega
    have htk : (rtag_it4 key text i).1.take (pchunk text i).length = pchunk text i := by
      rw [rtag_t, pchunk, List.length_take, List.take_eq_take_iff]; omega
    have l2 : (rtag_it4 key text i).2.length = 40 := by rw [rtag_it4_l1, List.length_replicate]
    have pl := pacc_lt (clamp key) text i
    have cl := clamp_lt lk hk
    have h5 := rtag5_val (m := rtag_it4 key text i) l2 _ hcl hc16
    rw [htk, h1, val_digs (by decide), Nat.mod_eq_of_lt (Nat.lt_trans pl P130_40)] at h5
    have h6 := val_set (B := 256) (xs := rtag_it5 (rtag_it4 key text i) (pchunk text i).length) (i := (pchunk text i).length) (v := (rtag_it5 (rtag_it4 key text i) (pchunk text i).length).getD (pchunk text i).length 0 + 1) (by rw [rtag_it5_l]; omega)
    rw [Nat.mul_add, Nat.mul_one] at h6
    have hcb : Lt 256 (pchunk text i) := (ht.drop _).take _
    have e1 := hcb.val_lt
    have e2 : (256 : Nat) ^ (pchunk text i).length ≤ 256 ^ 16 := Nat.pow_le_pow_right (by decide) hc16
    rw [show (256 : Nat) ^ 16 = 340282366920938463463374607431768211456 from rfl] at e2
    have h7 : val 256 ((rtag_it5 (rtag_it4 key text i) (pchunk text i).length).set (pchunk text i).length ((rtag_it5 (rtag_it4 key text i) (pchunk text i).length).getD (pchunk text i).length 0 + 1)) = pacc (clamp key) text i + pcv text i := by
      unfold pcv; omega
    rw [rtag_it4_s]
    simp only [rtag_s4, hv]
    rw [rmodulo_val (by rw [List.length_set, rtag_it5_l, l2]) (by rw [h7]; unfold P130 at pl; unfold pcv; exact Nat.lt_trans (m := 1361129467683753853853498429727072845819 + 680564733841876926926749214863536422912) (by omega) (by decide)), h7]
    have hq : (pacc (clamp key) text i + pcv text i) % P130 < P130 := Nat.mod_lt _ (by decide)
    have hb3 : Lt 256 (rtag_it3 key 3) := rtag_b3 hk 3
    have hr := rtimes_val (digs_len 256 40 ((pacc (clamp key) text i + pcv text i) % P130)) (rtag_it3_len key) (digs_lt (by decide) _ _) hb3 (fun j hj => digs_zero (Nat.lt_trans hq P130_20) hj) (fun j hj => rtag_it3_zero key hj)
    rw [rtag_it3_val, val_digs (by decide), Nat.mod_eq_of_lt (Nat.lt_trans hq P130_40)] at hr
    rw [hr, pacc_succ]
    exact congrArg (digs 256 40) (by rw [Nat.mul_mod, Nat.mod_mod, ← Nat.mul_mod])
theorem rtag6_val {key text : List Nat} (lk : key.length = 32) {V : Nat} (hV : (rtag_it4 key text ((text.length + 15) / 16)).2 = digs 256 40 V) (hb : V < 256 ^ 40) : ∀ i, i ≤ 16 → val 256 (rtag_it6 key text i) = V + val 256 ((key.drop 16).take i) := by
  intro i
  induction i with
  | zero => intro _; rw [rtag_it6_z, hV, val_digs (by decide), Nat.mod_eq_of_lt hb]; simp [val]
  | succ i ih =>
    intro h1
    have := ih (by omega)
    have h5 := val_set (B := 256) (xs := rtag_it6 key text i) (i := i) (v := (rtag_it6 key text i).getD i 0 + key.getD (16 + i) 0) (by rw [rtag_it6_l, rtag_it4_l1, List.length_replicate]; omega)
    rw [rtag_it6_s]
    simp only [rtag_s6]
    rw [Nat.mul_add] at h5
    rw [val_take_succ (by simp; omega), getD_drop]
    omega
theorem rtag_s7_eq (key text : List Nat) : rtag_s7 key text = fun i m => m.set i ((rcarried (rtag_it6 key text 16)).getD i 0 % 256) := by
  funext i m; unfold rtag_s7; rfl
theorem rtag_out (key text : List Nat) : rtag key text = (List.range 16).map fun i => (rcarried (rtag_it6 key text 16)).getD i 0 % 256 := by
  unfold rtag rtag_it7
  rw [rtag_s7_eq]
  exact iter_fill (fun i => (rcarried (rtag_it6 key text 16)).getD i 0 % 256) 16
/-- The other tag. -/
theorem rtag_val {key text : List Nat} (lk : key.length = 32) (hk : Lt 256 key) (ht : Lt 256 text) :
    rtag key text = digs 256 16 (pacc (clamp key) text ((text.length + 15) / 16) + val 256 (key.drop 16)) := by
  have hV := rtag_step lk hk ht _ (Nat.le_refl _)
  have pl := pacc_lt (clamp key) text ((text.length + 15) / 16)
  have h6 := rtag6_val lk hV (Nat.lt_trans pl P130_40) 16 (by omega)
  rw [List.take_of_length_le (by simp; omega)] at h6
  have kl : val 256 (key.drop 16) < 340282366920938463463374607431768211456 := by
    have := (hk.drop 16).val_lt
    rw [List.length_drop, lk] at this
    exact this
  have hc := rcarried_digs (n := rtag_it6 key text 16) (by rw [rtag_it6_l, rtag_it4_l1, List.length_replicate]) (by rw [h6]; unfold P130 at pl; exact Nat.lt_trans (m := 1361129467683753853853498429727072845819 + 340282366920938463463374607431768211456) (by omega) (by decide))
  rw [h6] at hc
  have e2 := rtag_out key text
  rw [e2, hc]
  unfold digs
  refine List.map_congr_left fun i hi => ?_
  have hi' : i < 16 := by simpa using hi
  rw [getD_map_range (by omega), Nat.mod_mod]
theorem tags_same {key text : List Nat} {xss : List (List Nat)} (lk : key.length = 32) (hk : Lt 256 key) (ht : Lt 256 text) (h : xss.flatten = text) : ptag key xss = rtag key text := by
  subst h
  rw [ptag_val lk hk ht, rtag_val lk hk ht]
end Go.Proofs.Ytkpelchcpiafaaa
