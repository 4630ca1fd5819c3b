/-
  Walks: PolyKeys.
-/
import Derived.Test.YtkpelchcpiafaaaQi
namespace Go.Proofs.Ytkpelchcpiafaaa
open Go Go.Fx
set_option linter.unusedVariables false
set_option linter.unusedSimpArgs false
theorem xor_high (x y : Nat) : (x ^^^ (y &&& 240)) % 16 = x % 16 := by
  have h := Nat.xor_mod_two_pow (a := x) (b := y &&& 240) (n := 4)
  have h2 := Nat.and_mod_two_pow (a := y) (b := 240) (n := 4)
  simp only [show (2 : Nat) ^ 4 = 16 from rfl] at h h2
  rw [h, h2]; simp
theorem xor_low (x y : Nat) : (x ^^^ (y &&& 3)) - (x ^^^ (y &&& 3)) % 4 = x - x % 4 := by
  have h := Nat.xor_div_two_pow (a := x) (b := y &&& 3) (n := 2)
  have h2 := Nat.and_div_two_pow (a := y) (b := 3) (n := 2)
  simp only [show (2 : Nat) ^ 2 = 4 from rfl] at h h2
  rw [h2, show 3 / 4 = 0 from rfl, Nat.and_zero, Nat.xor_zero] at h
  omega
theorem xor_lt {x y : Nat} (hx : x < 256) (hy : y < 256) : x ^^^ y < 256 := Nat.xor_lt_two_pow (n := 8) hx hy
def pkeys_s1 (key : List Nat) (low : List Nat) (i1_ : Nat) (m1_ : List Nat) : List Nat :=
  let v8_ : Nat := (m1_.getD ((4 * i1_) + 3) 0) ^^^ ((low.getD i1_ 0) &&& 240)
  if 0 < i1_ then
    let v9_ : Nat := (m1_.set ((4 * i1_) + 3) v8_).getD (4 * i1_) 0
    let v10_ : List Nat := (m1_.set ((4 * i1_) + 3) v8_).set (4 * i1_) (v9_ ^^^ ((low.getD (4 + i1_) 0) &&& 3))
    v10_
  else
    m1_.set ((4 * i1_) + 3) v8_
def pkeys_it1 (key : List Nat) (low : List Nat) (i1_ : Nat) : List Nat := iter (pkeys_s1 key low) i1_ key
theorem pkeys_it1_z (key : List Nat) (low : List Nat) : pkeys_it1 key low 0 = key := rfl
theorem pkeys_it1_s (key : List Nat) (low : List Nat) (i1_ : Nat) : pkeys_it1 key low (i1_ + 1) = pkeys_s1 key low i1_ (pkeys_it1 key low i1_) := by unfold pkeys_it1; exact iterS _ _ _
theorem pkeys_it1_l (key : List Nat) (low : List Nat) (i1_ : Nat) : ((pkeys_it1 key low i1_)).length = (key : List Nat).length := iter_inv (fun (s : List Nat) => (s).length = (key : List Nat).length) (by simp) (fun i s h => by
  unfold pkeys_s1
  first | (simp [h]; done) | (dsimp only; (repeat' split) <;> simp [h])) i1_
theorem pkeys_o {key low : List Nat} (lk : key.length = 32) (hk : Lt 256 key) (hl : Lt 256 low) : (pkeys_it1 key low 4).length = 32 ∧ Lt 256 (pkeys_it1 key low 4) ∧ clamp (pkeys_it1 key low 4) = clamp key ∧ (pkeys_it1 key low 4).drop 16 = key.drop 16 := by
  have lo : ∀ i, low.getD i 0 < 256 := fun i => hl i
  have key' : ∀ i, i ≤ 4 → Lt 256 (pkeys_it1 key low i) ∧ (∀ j, j % 4 ≠ 3 → ¬ (j % 4 = 0 ∧ 0 < j ∧ j < 16) → (pkeys_it1 key low i).getD j 0 = key.getD j 0) ∧ (∀ j, 16 ≤ j → (pkeys_it1 key low i).getD j 0 = key.getD j 0) ∧
      (∀ j, (pkeys_it1 key low i).getD (4 * j + 3) 0 % 16 = key.getD (4 * j + 3) 0 % 16) ∧ (∀ j, (pkeys_it1 key low i).getD (4 * j) 0 - (pkeys_it1 key low i).getD (4 * j) 0 % 4 = key.getD (4 * j) 0 - key.getD (4 * j) 0 % 4) := by
    intro i
    induction i with
    | zero => intro _; exact ⟨hk, fun j _ _ => rfl, fun j _ => rfl, fun j => rfl, fun j => rfl⟩
    | succ i ih =>
      intro hi
      obtain ⟨h1, h2, h3, h4, h5⟩ := ih (by omega)
      have hl : (pkeys_it1 key low i).length = 32 := by rw [pkeys_it1_l, lk]
      have g1 : ∀ y, Lt 256 ((pkeys_it1 key low i).set (4 * i + 3) ((pkeys_it1 key low i).getD (4 * i + 3) 0 ^^^ (y &&& 240))) := fun y => h1.set (xor_lt (h1 _) (Nat.lt_of_le_of_lt Nat.and_le_right (by decide)))
      rw [pkeys_it1_s]
      unfold pkeys_s1
      dsimp only
      split
      · rename_i h0
        refine ⟨(g1 _).set (xor_lt (g1 _ _) (Nat.lt_of_le_of_lt Nat.and_le_right (by decide))), fun j hj1 hj2 => ?_, fun j hj => ?_, fun j => ?_, fun j => ?_⟩
        · rw [Fx.getD_set_ne (by omega), Fx.getD_set_ne (by omega)]; exact h2 j hj1 hj2
        · rw [Fx.getD_set_ne (by omega), Fx.getD_set_ne (by omega)]; exact h3 j hj
        · rw [Fx.getD_set_ne (by omega)]
          by_cases h : j = i
          · subst h; rw [getD_set_eq (by omega), xor_high]; exact h4 j
          · rw [Fx.getD_set_ne (by omega)]; exact h4 j
        · by_cases h : j = i
          · subst h; rw [getD_set_eq (by rw [List.length_set]; omega), xor_low, Fx.getD_set_ne (by omega)]; exact h5 j
          · rw [Fx.getD_set_ne (by omega), Fx.getD_set_ne (by omega)]; exact h5 j
      · rename_i h0
        refine ⟨g1 _, fun j hj1 hj2 => ?_, fun j hj => ?_, fun j => ?_, fun j => ?_⟩
        · rw [Fx.getD_set_ne (by omega)]; exact h2 j hj1 hj2
        · rw [Fx.getD_set_ne (by omega)]; exact h3 j hj
        · by_cases h : j = i
          · subst h; rw [getD_set_eq (by omega), xor_high]; exact h4 j
          · rw [Fx.getD_set_ne (by omega)]; exact h4 j
        · rw [Fx.getD_set_ne (by omega)]; exact h5 j
  obtain ⟨h1, h2, h3, h4, h5⟩ := key' 4 (by omega)
  have hl : (pkeys_it1 key low 4).length = 32 := by rw [pkeys_it1_l, lk]
  refine ⟨hl, h1, ?_, ?_⟩
  · unfold clamp clampL
    rw [h2 0 (by decide) (by decide), h2 1 (by decide) (by decide), h2 2 (by decide) (by decide), h4 0, h5 1, h2 5 (by decide) (by decide), h2 6 (by decide) (by decide), h4 1, h5 2, h2 9 (by decide) (by decide), h2 10 (by decide) (by decide), h4 2, h5 3, h2 13 (by decide) (by decide), h2 14 (by decide) (by decide), h4 3]
  · refine ext_getD (by simp [hl, lk]) fun j hj => ?_
    rw [getD_drop, getD_drop]; exact h3 _ (by omega)
def pkeys_s2 (key : List Nat) (i2_ : Nat) (m2_ : List Nat) : List Nat :=
  m2_.set (16 + i2_) 0
def pkeys_it2 (key : List Nat) (i2_ : Nat) : List Nat := iter (pkeys_s2 key) i2_ key
theorem pkeys_it2_z (key : List Nat) : pkeys_it2 key 0 = key := rfl
theorem pkeys_it2_s (key : List Nat) (i2_ : Nat) : pkeys_it2 key (i2_ + 1) = pkeys_s2 key i2_ (pkeys_it2 key i2_) := by unfold pkeys_it2; exact iterS _ _ _
theorem pkeys_it2_l (key : List Nat) (i2_ : Nat) : ((pkeys_it2 key i2_)).length = (key : List Nat).length := iter_inv (fun (s : List Nat) => (s).length = (key : List Nat).length) (by simp) (fun i s h => by
  unfold pkeys_s2
  first | (simp [pkeys_it1_l, h]; done) | (dsimp only; (repeat' split) <;> simp [pkeys_it1_l, h])) i2_
theorem pkeys_h {key : List Nat} (lk : key.length = 32) (hk : Lt 256 key) : (pkeys_it2 key 16).length = 32 ∧ Lt 256 (pkeys_it2 key 16) ∧ clamp (pkeys_it2 key 16) = clamp key ∧ val 256 ((pkeys_it2 key 16).drop 16) = 0 := by
  have key' : ∀ i, i ≤ 16 → Lt 256 (pkeys_it2 key i) ∧ (∀ j, j < 16 → (pkeys_it2 key i).getD j 0 = key.getD j 0) ∧ (∀ j, 16 ≤ j → j < 16 + i → (pkeys_it2 key i).getD j 0 = 0) := by
    intro i
    induction i with
    | zero => intro _; exact ⟨hk, fun j _ => rfl, fun j _ hj => by omega⟩
    | succ i ih =>
      intro hi
      obtain ⟨h1, h2, h3⟩ := ih (by omega)
      have hl : (pkeys_it2 key i).length = 32 := by rw [pkeys_it2_l, lk]
      rw [pkeys_it2_s]
      unfold pkeys_s2
      refine ⟨h1.set (by decide), fun j hj => ?_, fun j hj1 hj2 => ?_⟩
      · rw [Fx.getD_set_ne (by omega)]; exact h2 j hj
      · by_cases h : j = 16 + i
        · subst h; exact getD_set_eq (by omega)
        · rw [Fx.getD_set_ne (by omega)]; exact h3 j hj1 (by omega)
  obtain ⟨h1, h2, h3⟩ := key' 16 (by omega)
  have hl : (pkeys_it2 key 16).length = 32 := by rw [pkeys_it2_l, lk]
  refine ⟨hl, h1, ?_, ?_⟩
  · unfold clamp clampL
    rw [h2 0 (by decide), h2 1 (by decide), h2 2 (by decide), h2 3 (by decide), h2 4 (by decide), h2 5 (by decide), h2 6 (by decide), h2 7 (by decide), h2 8 (by decide), h2 9 (by decide), h2 10 (by decide), h2 11 (by decide), h2 12 (by decide), h2 13 (by decide), h2 14 (by decide), h2 15 (by decide)]
  · rw [val_drop_zero (n := 0) (fun j _ => by
      rw [getD_drop]
      by_cases h : j < 16
      · exact h3 _ (by omega) (by omega)
      · exact getD_ge (by omega))]
    rfl
def pkeys_s3 (key : List Nat) (text : List Nat) (i3_ : Nat) (m3_ : Nat) : Nat :=
  let v21_ : Nat := (ptag (pkeys_it2 key 16) [text]).getD i3_ 0
  let v24_ : Nat := ((v21_ + (key.getD (16 + i3_) 0)) + m3_) / 256
  v24_
def pkeys_it3 (key : List Nat) (text : List Nat) (i3_ : Nat) : Nat := iter (pkeys_s3 key text) i3_ 0
theorem pkeys_it3_z (key : List Nat) (text : List Nat) : pkeys_it3 key text 0 = 0 := rfl
theorem pkeys_it3_s (key : List Nat) (text : List Nat) (i3_ : Nat) : pkeys_it3 key text (i3_ + 1) = pkeys_s3 key text i3_ (pkeys_it3 key text i3_) := by unfold pkeys_it3; exact iterS _ _ _
def pkeys_q (key text : List Nat) : List Nat := (List.range 16).map fun i => (ptag (pkeys_it2 key 16) [text]).getD i 0 + key.getD (16 + i) 0
theorem val_add (f g : Nat → Nat) : ∀ n, val 256 ((List.range n).map fun i => f i + g i) = val 256 ((List.range n).map f) + val 256 ((List.range n).map g) := by
  intro n
  induction n with
  | zero => rfl
  | succ n ih =>
    simp only [List.range_succ, List.map_append, val_append, List.length_map, List.length_range, ih, List.map_cons, List.map_nil, val, Nat.mul_zero, Nat.add_zero, Nat.mul_add]
    omega
theorem pkeys_qv {key text : List Nat} (lk : key.length = 32) (hk : Lt 256 key) (ht : Lt 256 text) : ∃ A, ptag key [text] = digs 256 16 (A + val 256 (key.drop 16)) ∧ A < 2 ^ 130 ∧ (ptag (pkeys_it2 key 16) [text]) = digs 256 16 A := by
  obtain ⟨h1, h2, h3, h4⟩ := pkeys_h lk hk
  refine ⟨_, ptag_val lk hk (by simpa using ht), Nat.lt_trans (pacc_lt _ _ _) (by decide), ?_⟩
  rw [ptag_val h1 h2 (by simpa using ht), h3, h4, Nat.add_zero]
theorem pkeys_c {key text : List Nat} (lk : key.length = 32) (i : Nat) (hi : i ≤ 16) : pkeys_it3 key text i = val 256 ((pkeys_q key text).take i) / 256 ^ i := by
  induction i with
  | zero => rw [pkeys_it3_z, List.take_zero]; rfl
  | succ i ih =>
    have hq : (pkeys_q key text).length = 16 := by simp [pkeys_q]
    have h := carry_dig (q := pkeys_q key text) (i := i) (by omega) (ih (by omega))
    rw [pkeys_it3_s]
    unfold pkeys_s3
    dsimp only
    rw [← h.2, pkeys_q, getD_map_range (by omega)]
theorem pkeys_b {key text : List Nat} (lk : key.length = 32) (hk : Lt 256 key) (ht : Lt 256 text) (i : Nat) (hi : i ≤ 16) : pkeys_it3 key text i < 1099511627776 := by
  induction i with
  | zero => exact (by decide : (0 : Nat) < 1099511627776)
  | succ i ih =>
    have := ih (by omega)
    have h1 : (ptag (pkeys_it2 key 16) [text]).getD i 0 < 256 := by
      obtain ⟨A, _, _, e⟩ := pkeys_qv lk hk ht
      rw [e]; exact digs_lt (by decide) _ _ _
    have h2 := hk (16 + i)
    rw [pkeys_it3_s]
    unfold pkeys_s3
    dsimp only
    omega
theorem pkeys_d {key text : List Nat} (lk : key.length = 32) (hk : Lt 256 key) (ht : Lt 256 text) {i : Nat} (hi : i < 16) (hc : pkeys_it3 key text i = val 256 ((pkeys_q key text).take i) / 256 ^ i) :
    (ptag key [text]).getD i 0 = ((ptag (pkeys_it2 key 16) [text]).getD i 0 + key.getD (16 + i) 0 + pkeys_it3 key text i) % 256 % 256 := by
  obtain ⟨A, e1, e2, e3⟩ := pkeys_qv lk hk ht
  have hq : (pkeys_q key text).length = 16 := by simp [pkeys_q]
  have h := (carry_dig (q := pkeys_q key text) (by omega) hc).1
  have hg : (pkeys_q key text).getD i 0 = (ptag (pkeys_it2 key 16) [text]).getD i 0 + key.getD (16 + i) 0 := by rw [pkeys_q, getD_map_range hi]
  rw [hg] at h
  rw [Nat.mod_mod, ← h, e1, digs_getD hi]
  have hv : val 256 (pkeys_q key text) = A % 256 ^ 16 + val 256 (key.drop 16) := by
    have e4 : ((List.range 16).map fun i => (ptag (pkeys_it2 key 16) [text]).getD i 0) = digs 256 16 A := by
      rw [e3]
      refine ext_getD (by simp [digs_len]) fun j hj => ?_
      have hj' : j < 16 := by simpa using hj
      rw [getD_map_range hj']
    have e5 : ((List.range 16).map fun i => key.getD (16 + i) 0) = key.drop 16 := by
      refine ext_getD (by simp [lk]) fun j hj => ?_
      have hj' : j < 16 := by simpa using hj
      rw [getD_map_range hj', getD_drop]
    unfold pkeys_q
    rw [val_add, e4, e5, val_digs (by decide)]
  rw [hv]
  have hs : digs 256 16 (A + val 256 (key.drop 16)) = digs 256 16 (A % 256 ^ 16 + val 256 (key.drop 16)) := by
    rw [← digs_mod (by decide), ← digs_mod (N := A % 256 ^ 16 + _) (by decide), Nat.mod_add_mod]
  have := congrArg (fun l => List.getD l i 0) hs
  simp only [digs_getD hi] at this
  exact this
theorem w_pkeys (key : List Nat) (text : List Nat) (low : List Nat) (l_key : key.length = 32) (l_low : low.length = 12) : VC Try.prog 10 [.row (.ints .u8 key), .one (.bs false .u8 text), .row (.ints .u8 low)] (.one (.b true)) := by
  refine VC.go Try.func10 rfl Try.ntmps10 rfl rfl fun O w => ?_
  refine Holds.ltRow 0 rfl u8s u8m (fun b_key => ?_)
  refine Holds.ltBs 1 rfl u8s u8m (fun b_text => ?_)
  refine Holds.ltRow 2 rfl u8s u8m (fun b_low => ?_)
  refine Holds.seq ?_
  refine Holds.reg ?_
  refine OpsFrom.u (Y.boxR (d := 3) (up0 rfl rfl rfl) rfl rfl rfl) rfl rfl rfl ?_
  refine OpsFrom.u (Y.boxR (d := 5) (up0 rfl rfl rfl) rfl rfl rfl) rfl rfl rfl ?_
  refine OpsFrom.v (Y.assign (up0 rfl rfl rfl) rfl rfl) rfl ?_
  refine OpsFrom.nil ?_
  refine Holds.seq ?_
  refine Holds.reg ?_
  refine OpsFrom.v (Y.callV w_pawake fnok31 (up0 rfl rfl rfl) rfl rfl .nil .nil rfl rfl) rfl ?_
  refine OpsFrom.v (Y.assign (up0 rfl rfl rfl) rfl rfl) rfl ?_
  refine OpsFrom.nil ?_
  refine Holds.seq ?_
  refine Holds.seq ?_
  refine Holds.reg ?_
  refine OpsFrom.v (Y.move (up0 rfl rfl rfl) rfl rfl) rfl ?_
  refine OpsFrom.v (Y.len ty26 (up0 rfl rfl rfl) rfl rfl rfl rfl) rfl ?_
  refine OpsFrom.v (Y.gtr (b := 1000) (up0 rfl rfl rfl) rfl rfl rfl) rfl ?_
  refine OpsFrom.nil ?_
  refine Holds.condD rfl (fun h20 => ?_) (fun h20 => ?_)
  · refine Holds.seq ?_
    refine Holds.reg ?_
    refine OpsFrom.v (Y.move (up0 rfl rfl rfl) rfl rfl) rfl ?_
    refine OpsFrom.v (Y.assign (up0 rfl rfl rfl) rfl rfl) rfl ?_
    refine OpsFrom.nil ?_
    refine Holds.ret ?_
    exact Holds.ret1 (.inl rfl) rfl (.tmp _ _ rfl) (.same _) rfl
  · refine Holds.skip ?_
    refine Holds.seq ?_
    refine Holds.reg ?_
    refine OpsFrom.v (Y.ldAll ty23 rfl (up0 rfl rfl rfl) rfl rfl rfl (by first | (with_reducible assumption) | omega | (simp only [lens, List.flatten_cons, List.flatten_nil, List.append_nil, List.length_cons, List.length_nil, Cs.len, List.length_map, List.length_set, List.length_replicate, *]; first | done | omega) | decide | (split <;> simp only [lens, List.flatten_cons, List.flatten_nil, List.append_nil, List.length_cons, List.length_nil, Cs.len, List.length_map, List.length_set, List.length_replicate, *]) | (with_reducible exact Lt.mono (by assumption) (by decide))) (by decide)) rfl ?_
    refine OpsFrom.u (Y.alloc (d := 8) ty23 rfl rfl (up0 rfl rfl rfl) rfl) rfl rfl rfl ?_
    refine OpsFrom.n (Y.stR ty23 (upN rfl rfl) rfl rfl rfl rfl rfl (by first | (with_reducible assumption) | omega | (simp only [lens, List.flatten_cons, List.flatten_nil, List.append_nil, List.length_cons, List.length_nil, Cs.len, List.length_map, List.length_set, List.length_replicate, *]; first | done | omega) | decide | (split <;> simp only [lens, List.flatten_cons, List.flatten_nil, List.append_nil, List.length_cons, List.length_nil, Cs.len, List.length_map, List.length_set, List.length_replicate, *]) | (with_reducible exact Lt.mono (by assumption) (by decide))) (by first | (with_reducible assumption) | omega | (simp only [lens, List.flatten_cons, List.flatten_nil, List.append_nil, List.length_cons, List.length_nil, Cs.len, List.length_map, List.length_set, List.length_replicate, *]; first | done | omega) | decide | (split <;> simp only [lens, List.flatten_cons, List.flatten_nil, List.append_nil, List.length_cons, List.length_nil, Cs.len, List.length_map, List.length_set, List.length_replicate, *]) | (with_reducible exact Lt.mono (by assumption) (by decide))) (by decide)) rfl rfl ?_
    refine OpsFrom.nil ?_
    refine Holds.seq ?_
    refine Holds.seq ?_
    refine Holds.reg ?_
    refine OpsFrom.v (Y.assign (v := (.one (.n .i64 0))) (up0 rfl rfl rfl) rfl rfl) rfl ?_
    refine OpsFrom.nil ?_
    refine Holds.block ?_
    refine Holds.loop (fun (i1_ : Nat) => ⟨[(1, .one (.bs false .u8 text)), (3, .one (.p 3 0)), (5, .one (.p 5 0)), (6, .one (.b false)), (7, .one (.b true)), (8, .one (.p 8 0)), (9, .one (.n .i64 i1_))], [(3, .own (.ints .u8 key)), (5, .own (.ints .u8 low)), (8, .own (.ints .u8 (pkeys_it1 key low i1_)))]⟩) (fun (i1_ : Nat) => i1_ ≤ 4) (fun (i1_ : Nat) => 4 - i1_) 0 (by first | (with_reducible assumption) | omega | (simp only [lens, pkeys_it1_l, List.flatten_cons, List.flatten_nil, List.append_nil, List.length_cons, List.length_nil, Cs.len, List.length_map, List.length_set, List.length_replicate, *]; first | done | omega) | decide | (split <;> simp only [lens, pkeys_it1_l, List.flatten_cons, List.flatten_nil, List.append_nil, List.length_cons, List.length_nil, Cs.len, List.length_map, List.length_set, List.length_replicate, *]) | (with_reducible exact Lt.mono (by assumption) (by decide))) [] ⟨⟨rfl, rfl, rfl, rfl, rfl, rfl, rfl, trivial⟩, ⟨rfl, rfl, (hEq (congrArg (fun (s : List Nat) => s) (pkeys_it1_z key low)).symm), trivial⟩, rfl, rfl⟩ ?_
    intro i1_ k1_
    refine Holds.seq ?_
    refine Holds.seq ?_
    refine Holds.reg ?_
    refine OpsFrom.v (Y.move (up0 rfl rfl rfl) rfl rfl) rfl ?_
    refine OpsFrom.v (Y.lss (b := 4) (up0 rfl rfl rfl) rfl rfl rfl) rfl ?_
    refine OpsFrom.nil ?_
    refine Holds.condD rfl (fun h24 => ?_) (fun h24 => ?_)
    · refine Holds.skip ?_
      refine Holds.seq ?_
      refine Holds.block ?_
      refine Holds.seq ?_
      refine Holds.dr mx [([27], [30, 31, 32, 33, 34, 35, 36, 37, 38, 39]), ([28], [30, 31, 32, 33, 34, 35, 36, 37, 38, 39]), ([29], [30, 31, 32, 33, 34, 35, 36, 37, 38, 39]), ([30], [27, 28, 29, 35, 36, 37, 38]), ([31], [27, 28, 29, 35, 36, 37, 38]), ([32], [27, 28, 29, 35, 36, 37, 38]), ([33], [27, 28, 29, 35, 36, 37, 38]), ([34], [27, 28, 29, 35, 36, 37, 38]), ([35], [27, 28, 29, 30, 31, 32, 33, 34]), ([36], [27, 28, 29, 30, 31, 32, 33, 34]), ([37], [27, 28, 29, 30, 31, 32, 33, 34]), ([38], [27, 28, 29, 30, 31, 32, 33, 34]), ([39], [27, 28, 29]), ([40], []), ([8], [])] (by kernel_rfl) ?_
      refine CertK.vd (Y.move (up0 rfl rfl rfl) rfl rfl) rfl rfl ?_
      refine CertK.vd (Y.mulI (a := 4) (up0 rfl rfl rfl) rfl rfl rfl (by first | (with_reducible assumption) | omega | (simp only [lens, pkeys_it1_l, List.flatten_cons, List.flatten_nil, List.append_nil, List.length_cons, List.length_nil, Cs.len, List.length_map, List.length_set, List.length_replicate, *]; first | done | omega) | decide | (split <;> simp only [lens, pkeys_it1_l, List.flatten_cons, List.flatten_nil, List.append_nil, List.length_cons, List.length_nil, Cs.len, List.length_map, List.length_set, List.length_replicate, *]) | (with_reducible exact Lt.mono (by assumption) (by decide)))) rfl rfl ?_
      refine CertK.vd (Y.addI (b := 3) (up0 rfl rfl rfl) rfl rfl rfl (by first | (with_reducible assumption) | omega | (simp only [lens, pkeys_it1_l, List.flatten_cons, List.flatten_nil, List.append_nil, List.length_cons, List.length_nil, Cs.len, List.length_map, List.length_set, List.length_replicate, *]; first | done | omega) | decide | (split <;> simp only [lens, pkeys_it1_l, List.flatten_cons, List.flatten_nil, List.append_nil, List.length_cons, List.length_nil, Cs.len, List.length_map, List.length_set, List.length_replicate, *]) | (with_reducible exact Lt.mono (by assumption) (by decide)))) rfl rfl ?_
      refine CertK.vd (Y.move (up0 rfl rfl rfl) rfl rfl) rfl rfl ?_
      refine CertK.vd (Y.mulI (a := 4) (up0 rfl rfl rfl) rfl rfl rfl (by first | (with_reducible assumption) | omega | (simp only [lens, pkeys_it1_l, List.flatten_cons, List.flatten_nil, List.append_nil, List.length_cons, List.length_nil, Cs.len, List.length_map, List.length_set, List.length_replicate, *]; first | done | omega) | decide | (split <;> simp only [lens, pkeys_it1_l, List.flatten_cons, List.flatten_nil, List.append_nil, List.length_cons, List.length_nil, Cs.len, List.length_map, List.length_set, List.length_replicate, *]) | (with_reducible exact Lt.mono (by assumption) (by decide)))) rfl rfl ?_
      refine CertK.vd (Y.addI (b := 3) (up0 rfl rfl rfl) rfl rfl rfl (by first | (with_reducible assumption) | omega | (simp only [lens, pkeys_it1_l, List.flatten_cons, List.flatten_nil, List.append_nil, List.length_cons, List.length_nil, Cs.len, List.length_map, List.length_set, List.length_replicate, *]; first | done | omega) | decide | (split <;> simp only [lens, pkeys_it1_l, List.flatten_cons, List.flatten_nil, List.append_nil, List.length_cons, List.length_nil, Cs.len, List.length_map, List.length_set, List.length_replicate, *]) | (with_reducible exact Lt.mono (by assumption) (by decide)))) rfl rfl ?_
      refine CertK.vd (Y.ia0 ty23 ty5 (up0 rfl rfl rfl) rfl rfl rfl (by first | (with_reducible assumption) | omega | (simp only [lens, pkeys_it1_l, List.flatten_cons, List.flatten_nil, List.append_nil, List.length_cons, List.length_nil, Cs.len, List.length_map, List.length_set, List.length_replicate, *]; first | done | omega) | decide | (split <;> simp only [lens, pkeys_it1_l, List.flatten_cons, List.flatten_nil, List.append_nil, List.length_cons, List.length_nil, Cs.len, List.length_map, List.length_set, List.length_replicate, *]) | (with_reducible exact Lt.mono (by assumption) (by decide)))) rfl rfl ?_
      refine CertK.vd (Y.ldI ty5 rfl (up0 rfl rfl rfl) rfl rfl rfl (by first | (with_reducible assumption) | omega | (simp only [lens, pkeys_it1_l, List.flatten_cons, List.flatten_nil, List.append_nil, List.length_cons, List.length_nil, Cs.len, List.length_map, List.length_set, List.length_replicate, *]; first | done | omega) | decide | (split <;> simp only [lens, pkeys_it1_l, List.flatten_cons, List.flatten_nil, List.append_nil, List.length_cons, List.length_nil, Cs.len, List.length_map, List.length_set, List.length_replicate, *]) | (with_reducible exact Lt.mono (by assumption) (by decide)))) rfl rfl ?_
      refine CertK.vd (Y.move (up0 rfl rfl rfl) rfl rfl) rfl rfl ?_
      refine CertK.vd (Y.ia0 ty25 ty5 (up0 rfl rfl rfl) rfl rfl rfl (by first | (with_reducible assumption) | omega | (simp only [lens, pkeys_it1_l, List.flatten_cons, List.flatten_nil, List.append_nil, List.length_cons, List.length_nil, Cs.len, List.length_map, List.length_set, List.length_replicate, *]; first | done | omega) | decide | (split <;> simp only [lens, pkeys_it1_l, List.flatten_cons, List.flatten_nil, List.append_nil, List.length_cons, List.length_nil, Cs.len, List.length_map, List.length_set, List.length_replicate, *]) | (with_reducible exact Lt.mono (by assumption) (by decide)))) rfl rfl ?_
      refine CertK.vd (Y.ldI ty5 rfl (up0 rfl rfl rfl) rfl rfl rfl (by first | (with_reducible assumption) | omega | (simp only [lens, pkeys_it1_l, List.flatten_cons, List.flatten_nil, List.append_nil, List.length_cons, List.length_nil, Cs.len, List.length_map, List.length_set, List.length_replicate, *]; first | done | omega) | decide | (split <;> simp only [lens, pkeys_it1_l, List.flatten_cons, List.flatten_nil, List.append_nil, List.length_cons, List.length_nil, Cs.len, List.length_map, List.length_set, List.length_replicate, *]) | (with_reducible exact Lt.mono (by assumption) (by decide)))) rfl rfl ?_
      refine CertK.vd (Y.and (b := 240) u8s u8m (up0 rfl rfl rfl) rfl rfl rfl) rfl rfl ?_
      refine CertK.vd (Y.xor u8s u8m (up0 rfl rfl rfl) rfl rfl rfl) rfl rfl ?_
      refine CertK.v (Y.ia0 ty23 ty5 (up0 rfl rfl rfl) rfl rfl rfl (by first | (with_reducible assumption) | omega | (simp only [lens, pkeys_it1_l, List.flatten_cons, List.flatten_nil, List.append_nil, List.length_cons, List.length_nil, Cs.len, List.length_map, List.length_set, List.length_replicate, *]; first | done | omega) | decide | (split <;> simp only [lens, pkeys_it1_l, List.flatten_cons, List.flatten_nil, List.append_nil, List.length_cons, List.length_nil, Cs.len, List.length_map, List.length_set, List.length_replicate, *]) | (with_reducible exact Lt.mono (by assumption) (by decide)))) rfl ?_
      refine CertK.n (Y.stI ty5 (upN rfl rfl) rfl rfl rfl rfl (by first | (with_reducible assumption) | omega | (simp only [lens, pkeys_it1_l, List.flatten_cons, List.flatten_nil, List.append_nil, List.length_cons, List.length_nil, Cs.len, List.length_map, List.length_set, List.length_replicate, *]; first | done | omega) | decide | (split <;> simp only [lens, pkeys_it1_l, List.flatten_cons, List.flatten_nil, List.append_nil, List.length_cons, List.length_nil, Cs.len, List.length_map, List.length_set, List.length_replicate, *]) | (with_reducible exact Lt.mono (by assumption) (by decide)))) rfl rfl rfl rfl ?_
      refine CertK.nil ?_
      refine Holds.seq ?_
      refine Holds.reg ?_
      refine OpsFrom.v (Y.move (up0 rfl rfl rfl) rfl rfl) rfl ?_
      refine OpsFrom.v (Y.gtr (b := 0) (up0 rfl rfl rfl) rfl rfl rfl) rfl ?_
      refine OpsFrom.nil ?_
      refine Holds.condD rfl (fun h42 => ?_) (fun h42 => ?_)
      · refine Holds.dr mx [([43], [45, 46, 47, 48, 49, 50, 51, 52, 53, 54]), ([44], [45, 46, 47, 48, 49, 50, 51, 52, 53, 54]), ([45], [43, 44, 49, 50, 51, 52, 53]), ([46], [43, 44, 49, 50, 51, 52, 53]), ([47], [43, 44, 49, 50, 51, 52, 53]), ([48], [43, 44, 49, 50, 51, 52, 53]), ([49], [43, 44, 45, 46, 47, 48]), ([50], [43, 44, 45, 46, 47, 48]), ([51], [43, 44, 45, 46, 47, 48]), ([52], [43, 44, 45, 46, 47, 48]), ([53], [43, 44, 45, 46, 47, 48]), ([54], [43, 44]), ([55], []), ([8], [])] (by kernel_rfl) ?_
        refine CertK.vd (Y.move (up0 rfl rfl rfl) rfl rfl) rfl rfl ?_
        refine CertK.vd (Y.mulI (a := 4) (up0 rfl rfl rfl) rfl rfl rfl (by first | (with_reducible assumption) | omega | (simp only [lens, pkeys_it1_l, List.flatten_cons, List.flatten_nil, List.append_nil, List.length_cons, List.length_nil, Cs.len, List.length_map, List.length_set, List.length_replicate, *]; first | done | omega) | decide | (split <;> simp only [lens, pkeys_it1_l, List.flatten_cons, List.flatten_nil, List.append_nil, List.length_cons, List.length_nil, Cs.len, List.length_map, List.length_set, List.length_replicate, *]) | (with_reducible exact Lt.mono (by assumption) (by decide)))) rfl rfl ?_
        refine CertK.vd (Y.move (up0 rfl rfl rfl) rfl rfl) rfl rfl ?_
        refine CertK.vd (Y.mulI (a := 4) (up0 rfl rfl rfl) rfl rfl rfl (by first | (with_reducible assumption) | omega | (simp only [lens, pkeys_it1_l, List.flatten_cons, List.flatten_nil, List.append_nil, List.length_cons, List.length_nil, Cs.len, List.length_map, List.length_set, List.length_replicate, *]; first | done | omega) | decide | (split <;> simp only [lens, pkeys_it1_l, List.flatten_cons, List.flatten_nil, List.append_nil, List.length_cons, List.length_nil, Cs.len, List.length_map, List.length_set, List.length_replicate, *]) | (with_reducible exact Lt.mono (by assumption) (by decide)))) rfl rfl ?_
        refine CertK.vd (Y.ia0 ty23 ty5 (up0 rfl rfl rfl) rfl rfl rfl (by first | (with_reducible assumption) | omega | (simp only [lens, pkeys_it1_l, List.flatten_cons, List.flatten_nil, List.append_nil, List.length_cons, List.length_nil, Cs.len, List.length_map, List.length_set, List.length_replicate, *]; first | done | omega) | decide | (split <;> simp only [lens, pkeys_it1_l, List.flatten_cons, List.flatten_nil, List.append_nil, List.length_cons, List.length_nil, Cs.len, List.length_map, List.length_set, List.length_replicate, *]) | (with_reducible exact Lt.mono (by assumption) (by decide)))) rfl rfl ?_
        refine CertK.vd (Y.ldI ty5 rfl (up0 rfl rfl rfl) rfl rfl rfl (by first | (with_reducible assumption) | omega | (simp only [lens, pkeys_it1_l, List.flatten_cons, List.flatten_nil, List.append_nil, List.length_cons, List.length_nil, Cs.len, List.length_map, List.length_set, List.length_replicate, *]; first | done | omega) | decide | (split <;> simp only [lens, pkeys_it1_l, List.flatten_cons, List.flatten_nil, List.append_nil, List.length_cons, List.length_nil, Cs.len, List.length_map, List.length_set, List.length_replicate, *]) | (with_reducible exact Lt.mono (by assumption) (by decide)))) rfl rfl ?_
        refine CertK.vd (Y.move (up0 rfl rfl rfl) rfl rfl) rfl rfl ?_
        refine CertK.vd (Y.addI (a := 4) (up0 rfl rfl rfl) rfl rfl rfl (by first | (with_reducible assumption) | omega | (simp only [lens, pkeys_it1_l, List.flatten_cons, List.flatten_nil, List.append_nil, List.length_cons, List.length_nil, Cs.len, List.length_map, List.length_set, List.length_replicate, *]; first | done | omega) | decide | (split <;> simp only [lens, pkeys_it1_l, List.flatten_cons, List.flatten_nil, List.append_nil, List.length_cons, List.length_nil, Cs.len, List.length_map, List.length_set, List.length_replicate, *]) | (with_reducible exact Lt.mono (by assumption) (by decide)))) rfl rfl ?_
        refine CertK.vd (Y.ia0 ty25 ty5 (up0 rfl rfl rfl) rfl rfl rfl (by first | (with_reducible assumption) | omega | (simp only [lens, pkeys_it1_l, List.flatten_cons, List.flatten_nil, List.append_nil, List.length_cons, List.length_nil, Cs.len, List.length_map, List.length_set, List.length_replicate, *]; first | done | omega) | decide | (split <;> simp only [lens, pkeys_it1_l, List.flatten_cons, List.flatten_nil, List.append_nil, List.length_cons, List.length_nil, Cs.len, List.length_map, List.length_set, List.length_replicate, *]) | (with_reducible exact Lt.mono (by assumption) (by decide)))) rfl rfl ?_
        refine CertK.vd (Y.ldI ty5 rfl (up0 rfl rfl rfl) rfl rfl rfl (by first | (with_reducible assumption) | omega | (simp only [lens, pkeys_it1_l, List.flatten_cons, List.flatten_nil, List.append_nil, List.length_cons, List.length_nil, Cs.len, List.length_map, List.length_set, List.length_replicate, *]; first | done | omega) | decide | (split <;> simp only [lens, pkeys_it1_l, List.flatten_cons, List.flatten_nil, List.append_nil, List.length_cons, List.length_nil, Cs.len, List.length_map, List.length_set, List.length_replicate, *]) | (with_reducible exact Lt.mono (by assumption) (by decide)))) rfl rfl ?_
        refine CertK.vd (Y.and (b := 3) u8s u8m (up0 rfl rfl rfl) rfl rfl rfl) rfl rfl ?_
        refine CertK.vd (Y.xor u8s u8m (up0 rfl rfl rfl) rfl rfl rfl) rfl rfl ?_
        refine CertK.v (Y.ia0 ty23 ty5 (up0 rfl rfl rfl) rfl rfl rfl (by first | (with_reducible assumption) | omega | (simp only [lens, pkeys_it1_l, List.flatten_cons, List.flatten_nil, List.append_nil, List.length_cons, List.length_nil, Cs.len, List.length_map, List.length_set, List.length_replicate, *]; first | done | omega) | decide | (split <;> simp only [lens, pkeys_it1_l, List.flatten_cons, List.flatten_nil, List.append_nil, List.length_cons, List.length_nil, Cs.len, List.length_map, List.length_set, List.length_replicate, *]) | (with_reducible exact Lt.mono (by assumption) (by decide)))) rfl ?_
        refine CertK.n (Y.stI ty5 (upN rfl rfl) rfl rfl rfl rfl (by first | (with_reducible assumption) | omega | (simp only [lens, pkeys_it1_l, List.flatten_cons, List.flatten_nil, List.append_nil, List.length_cons, List.length_nil, Cs.len, List.length_map, List.length_set, List.length_replicate, *]; first | done | omega) | decide | (split <;> simp only [lens, pkeys_it1_l, List.flatten_cons, List.flatten_nil, List.append_nil, List.length_cons, List.length_nil, Cs.len, List.length_map, List.length_set, List.length_replicate, *]) | (with_reducible exact Lt.mono (by assumption) (by decide)))) rfl rfl rfl rfl ?_
        refine CertK.nil ?_
        refine Holds.reg ?_
        refine OpsFrom.v (Y.move (up0 rfl rfl rfl) rfl rfl) rfl ?_
        refine OpsFrom.v (Y.addI (b := 1) (up0 rfl rfl rfl) rfl rfl rfl (by first | (with_reducible assumption) | omega | (simp only [lens, pkeys_it1_l, List.flatten_cons, List.flatten_nil, List.append_nil, List.length_cons, List.length_nil, Cs.len, List.length_map, List.length_set, List.length_replicate, *]; first | done | omega) | decide | (split <;> simp only [lens, pkeys_it1_l, List.flatten_cons, List.flatten_nil, List.append_nil, List.length_cons, List.length_nil, Cs.len, List.length_map, List.length_set, List.length_replicate, *]) | (with_reducible exact Lt.mono (by assumption) (by decide)))) rfl ?_
        refine OpsFrom.v (Y.assign (up0 rfl rfl rfl) rfl rfl) rfl ?_
        refine OpsFrom.nil ?_
        exact Holds.again (i1_ + 1) (by omega) (by omega) [] ⟨⟨rfl, rfl, rfl, rfl, rfl, rfl, (nEq (by omega)), trivial⟩, ⟨rfl, rfl, (hEq (congrArg (fun (s : List Nat) => s) ((pkeys_it1_s key low i1_).trans ((if_pos h42)))).symm), trivial⟩, rfl, rfl⟩
      · refine Holds.skip ?_
        refine Holds.reg ?_
        refine OpsFrom.v (Y.move (up0 rfl rfl rfl) rfl rfl) rfl ?_
        refine OpsFrom.v (Y.addI (b := 1) (up0 rfl rfl rfl) rfl rfl rfl (by first | (with_reducible assumption) | omega | (simp only [lens, pkeys_it1_l, List.flatten_cons, List.flatten_nil, List.append_nil, List.length_cons, List.length_nil, Cs.len, List.length_map, List.length_set, List.length_replicate, *]; first | done | omega) | decide | (split <;> simp only [lens, pkeys_it1_l, List.flatten_cons, List.flatten_nil, List.append_nil, List.length_cons, List.length_nil, Cs.len, List.length_map, List.length_set, List.length_replicate, *]) | (with_reducible exact Lt.mono (by assumption) (by decide)))) rfl ?_
        refine OpsFrom.v (Y.assign (up0 rfl rfl rfl) rfl rfl) rfl ?_
        refine OpsFrom.nil ?_
        exact Holds.again (i1_ + 1) (by omega) (by omega) [] ⟨⟨rfl, rfl, rfl, rfl, rfl, rfl, (nEq (by omega)), trivial⟩, ⟨rfl, rfl, (hEq (congrArg (fun (s : List Nat) => s) ((pkeys_it1_s key low i1_).trans ((if_neg h42)))).symm), trivial⟩, rfl, rfl⟩
    · obtain rfl : i1_ = 4 := by omega
      refine Holds.exit ?_
      refine Holds.seq ?_
      refine Holds.reg ?_
      refine OpsFrom.v (Y.ldAll ty23 rfl (up0 rfl rfl rfl) rfl rfl rfl (by first | (with_reducible assumption) | omega | (simp only [lens, pkeys_it1_l, List.flatten_cons, List.flatten_nil, List.append_nil, List.length_cons, List.length_nil, Cs.len, List.length_map, List.length_set, List.length_replicate, *]; first | done | omega) | decide | (split <;> simp only [lens, pkeys_it1_l, List.flatten_cons, List.flatten_nil, List.append_nil, List.length_cons, List.length_nil, Cs.len, List.length_map, List.length_set, List.length_replicate, *]) | (with_reducible exact Lt.mono (by assumption) (by decide))) (by decide)) rfl ?_
      refine OpsFrom.u (Y.alloc (d := 10) ty23 rfl rfl (up0 rfl rfl rfl) rfl) rfl rfl rfl ?_
      refine OpsFrom.n (Y.stR ty23 (upN rfl rfl) rfl rfl rfl rfl rfl (by first | (with_reducible assumption) | omega | (simp only [lens, pkeys_it1_l, List.flatten_cons, List.flatten_nil, List.append_nil, List.length_cons, List.length_nil, Cs.len, List.length_map, List.length_set, List.length_replicate, *]; first | done | omega) | decide | (split <;> simp only [lens, pkeys_it1_l, List.flatten_cons, List.flatten_nil, List.append_nil, List.length_cons, List.length_nil, Cs.len, List.length_map, List.length_set, List.length_replicate, *]) | (with_reducible exact Lt.mono (by assumption) (by decide))) (by first | (with_reducible assumption) | omega | (simp only [lens, pkeys_it1_l, List.flatten_cons, List.flatten_nil, List.append_nil, List.length_cons, List.length_nil, Cs.len, List.length_map, List.length_set, List.length_replicate, *]; first | done | omega) | decide | (split <;> simp only [lens, pkeys_it1_l, List.flatten_cons, List.flatten_nil, List.append_nil, List.length_cons, List.length_nil, Cs.len, List.length_map, List.length_set, List.length_replicate, *]) | (with_reducible exact Lt.mono (by assumption) (by decide))) (by decide)) rfl rfl ?_
      refine OpsFrom.nil ?_
      refine Holds.seq ?_
      refine Holds.seq ?_
      refine Holds.reg ?_
      refine OpsFrom.v (Y.assign (v := (.one (.n .i64 16))) (up0 rfl rfl rfl) rfl rfl) rfl ?_
      refine OpsFrom.nil ?_
      refine Holds.block ?_
      refine Holds.loop (fun (i2_ : Nat) => ⟨[(1, .one (.bs false .u8 text)), (3, .one (.p 3 0)), (6, .one (.b false)), (7, .one (.b true)), (8, .one (.p 8 0)), (10, .one (.p 10 0)), (11, .one (.n .i64 (16 + i2_)))], [(3, .own (.ints .u8 key)), (8, .own (.ints .u8 (pkeys_it1 key low 4))), (10, .own (.ints .u8 (pkeys_it2 key i2_)))]⟩) (fun (i2_ : Nat) => i2_ ≤ 16) (fun (i2_ : Nat) => 16 - i2_) 0 (by first | (with_reducible assumption) | omega | (simp only [lens, pkeys_it1_l, pkeys_it2_l, List.flatten_cons, List.flatten_nil, List.append_nil, List.length_cons, List.length_nil, Cs.len, List.length_map, List.length_set, List.length_replicate, *]; first | done | omega) | decide | (split <;> simp only [lens, pkeys_it1_l, pkeys_it2_l, List.flatten_cons, List.flatten_nil, List.append_nil, List.length_cons, List.length_nil, Cs.len, List.length_map, List.length_set, List.length_replicate, *]) | (with_reducible exact Lt.mono (by assumption) (by decide))) [] ⟨⟨rfl, rfl, rfl, rfl, rfl, rfl, rfl, trivial⟩, ⟨rfl, rfl, (hEq (congrArg (fun (s : List Nat) => s) (pkeys_it2_z key)).symm), trivial⟩, rfl, rfl⟩ ?_
      intro i2_ k2_
      refine Holds.seq ?_
      refine Holds.seq ?_
      refine Holds.reg ?_
      refine OpsFrom.v (Y.move (up0 rfl rfl rfl) rfl rfl) rfl ?_
      refine OpsFrom.v (Y.lss (b := 32) (up0 rfl rfl rfl) rfl rfl rfl) rfl ?_
      refine OpsFrom.nil ?_
      refine Holds.condD rfl (fun h58 => ?_) (fun h58 => ?_)
      · refine Holds.skip ?_
        refine Holds.seq ?_
        refine Holds.block ?_
        refine Holds.reg ?_
        refine OpsFrom.v (Y.move (up0 rfl rfl rfl) rfl rfl) rfl ?_
        refine OpsFrom.v (Y.ia0 ty23 ty5 (up0 rfl rfl rfl) rfl rfl rfl (by first | (with_reducible assumption) | omega | (simp only [lens, pkeys_it1_l, pkeys_it2_l, List.flatten_cons, List.flatten_nil, List.append_nil, List.length_cons, List.length_nil, Cs.len, List.length_map, List.length_set, List.length_replicate, *]; first | done | omega) | decide | (split <;> simp only [lens, pkeys_it1_l, pkeys_it2_l, List.flatten_cons, List.flatten_nil, List.append_nil, List.length_cons, List.length_nil, Cs.len, List.length_map, List.length_set, List.length_replicate, *]) | (with_reducible exact Lt.mono (by assumption) (by decide)))) rfl ?_
        refine OpsFrom.n (Y.stI ty5 (upN rfl rfl) rfl rfl rfl rfl (by first | (with_reducible assumption) | omega | (simp only [lens, pkeys_it1_l, pkeys_it2_l, List.flatten_cons, List.flatten_nil, List.append_nil, List.length_cons, List.length_nil, Cs.len, List.length_map, List.length_set, List.length_replicate, *]; first | done | omega) | decide | (split <;> simp only [lens, pkeys_it1_l, pkeys_it2_l, List.flatten_cons, List.flatten_nil, List.append_nil, List.length_cons, List.length_nil, Cs.len, List.length_map, List.length_set, List.length_replicate, *]) | (with_reducible exact Lt.mono (by assumption) (by decide)))) rfl rfl ?_
        refine OpsFrom.nil ?_
        refine Holds.reg ?_
        refine OpsFrom.v (Y.move (up0 rfl rfl rfl) rfl rfl) rfl ?_
        refine OpsFrom.v (Y.addI (b := 1) (up0 rfl rfl rfl) rfl rfl rfl (by first | (with_reducible assumption) | omega | (simp only [lens, pkeys_it1_l, pkeys_it2_l, List.flatten_cons, List.flatten_nil, List.append_nil, List.length_cons, List.length_nil, Cs.len, List.length_map, List.length_set, List.length_replicate, *]; first | done | omega) | decide | (split <;> simp only [lens, pkeys_it1_l, pkeys_it2_l, List.flatten_cons, List.flatten_nil, List.append_nil, List.length_cons, List.length_nil, Cs.len, List.length_map, List.length_set, List.length_replicate, *]) | (with_reducible exact Lt.mono (by assumption) (by decide)))) rfl ?_
        refine OpsFrom.v (Y.assign (up0 rfl rfl rfl) rfl rfl) rfl ?_
        refine OpsFrom.nil ?_
        exact Holds.again (i2_ + 1) (by omega) (by omega) [] ⟨⟨rfl, rfl, rfl, rfl, rfl, rfl, (nEq (by omega)), trivial⟩, ⟨rfl, rfl, (hEq (by rw [pkeys_it2_s]; unfold pkeys_s2; first | (dsimp only; done) | rfl)), trivial⟩, rfl, rfl⟩
      · obtain rfl : i2_ = 16 := by omega
        refine Holds.exit ?_
        refine Holds.seq ?_
        refine Holds.reg ?_
        refine OpsFrom.v (Y.ldAll ty23 rfl (up0 rfl rfl rfl) rfl rfl rfl (by first | (with_reducible assumption) | omega | (simp only [lens, pkeys_it1_l, pkeys_it2_l, List.flatten_cons, List.flatten_nil, List.append_nil, List.length_cons, List.length_nil, Cs.len, List.length_map, List.length_set, List.length_replicate, *]; first | done | omega) | decide | (split <;> simp only [lens, pkeys_it1_l, pkeys_it2_l, List.flatten_cons, List.flatten_nil, List.append_nil, List.length_cons, List.length_nil, Cs.len, List.length_map, List.length_set, List.length_replicate, *]) | (with_reducible exact Lt.mono (by assumption) (by decide))) (by decide)) rfl ?_
        refine OpsFrom.v (Y.move (up0 rfl rfl rfl) rfl rfl) rfl ?_
        refine OpsFrom.u (Y.bldS (d := 65) ty39 ty26 rfl (up0 rfl rfl rfl) rfl (.mix (List.replicate 1 (.nil))) rfl rfl rfl rfl (by decide) (by decide) (.cons _ _ _ _ _ _ _ _ _ rfl rfl rfl rfl (Spl.m (by first | decide | (simp; done))) (.nil _))) rfl rfl rfl ?_
        refine OpsFrom.v (Y.callV (w_ptag _ _ (by first | (with_reducible assumption) | omega | (simp only [lens, pkeys_it1_l, pkeys_it2_l, ptag_len, List.flatten_cons, List.flatten_nil, List.append_nil, List.length_cons, List.length_nil, Cs.len, List.length_map, List.length_set, List.length_replicate, *]; first | done | omega) | decide | (split <;> simp only [lens, pkeys_it1_l, pkeys_it2_l, ptag_len, List.flatten_cons, List.flatten_nil, List.append_nil, List.length_cons, List.length_nil, Cs.len, List.length_map, List.length_set, List.length_replicate, *]) | (with_reducible exact Lt.mono (by assumption) (by decide))) (by first | (with_reducible assumption) | omega | (simp only [lens, pkeys_it1_l, pkeys_it2_l, ptag_len, List.flatten_cons, List.flatten_nil, List.append_nil, List.length_cons, List.length_nil, Cs.len, List.length_map, List.length_set, List.length_replicate, *]; first | done | omega) | decide | (split <;> simp only [lens, pkeys_it1_l, pkeys_it2_l, ptag_len, List.flatten_cons, List.flatten_nil, List.append_nil, List.length_cons, List.length_nil, Cs.len, List.length_map, List.length_set, List.length_replicate, *]) | (with_reducible exact Lt.mono (by assumption) (by decide))) (by first | (with_reducible assumption) | omega | (simp only [lens, pkeys_it1_l, pkeys_it2_l, ptag_len, List.flatten_cons, List.flatten_nil, List.append_nil, List.length_cons, List.length_nil, Cs.len, List.length_map, List.length_set, List.length_replicate, *]; first | done | omega) | decide | (split <;> simp only [lens, pkeys_it1_l, pkeys_it2_l, ptag_len, List.flatten_cons, List.flatten_nil, List.append_nil, List.length_cons, List.length_nil, Cs.len, List.length_map, List.length_set, List.length_replicate, *]) | (with_reducible exact Lt.mono (by assumption) (by decide)))) fnok32 (up0 rfl rfl rfl) rfl rfl (.cons _ _ _ _ rfl (.cons _ _ _ _ rfl .nil)) (.cons _ _ _ _ (.same _) (.cons _ _ _ _ (.sgsL rfl (.cons _ _ _ _ (.same _) .nil) rfl) .nil)) rfl rfl) rfl ?_
        refine OpsFrom.u (Y.alloc (d := 12) ty35 rfl rfl (up0 rfl rfl rfl) rfl) rfl rfl rfl ?_
        refine OpsFrom.n (Y.stR ty35 (upN rfl rfl) rfl rfl rfl rfl rfl (by first | (with_reducible assumption) | omega | (simp only [lens, pkeys_it1_l, pkeys_it2_l, ptag_len, List.flatten_cons, List.flatten_nil, List.append_nil, List.length_cons, List.length_nil, Cs.len, List.length_map, List.length_set, List.length_replicate, *]; first | done | omega) | decide | (split <;> simp only [lens, pkeys_it1_l, pkeys_it2_l, ptag_len, List.flatten_cons, List.flatten_nil, List.append_nil, List.length_cons, List.length_nil, Cs.len, List.length_map, List.length_set, List.length_replicate, *]) | (with_reducible exact Lt.mono (by assumption) (by decide))) (by first | (with_reducible assumption) | omega | (simp only [lens, pkeys_it1_l, pkeys_it2_l, ptag_len, List.flatten_cons, List.flatten_nil, List.append_nil, List.length_cons, List.length_nil, Cs.len, List.length_map, List.length_set, List.length_replicate, *]; first | done | omega) | decide | (split <;> simp only [lens, pkeys_it1_l, pkeys_it2_l, ptag_len, List.flatten_cons, List.flatten_nil, List.append_nil, List.length_cons, List.length_nil, Cs.len, List.length_map, List.length_set, List.length_replicate, *]) | (with_reducible exact Lt.mono (by assumption) (by decide))) (by decide)) rfl rfl ?_
        refine OpsFrom.nil ?_
        refine Holds.seq ?_
        refine Holds.reg ?_
        refine OpsFrom.v (Y.ldAll ty23 rfl (up0 rfl rfl rfl) rfl rfl rfl (by first | (with_reducible assumption) | omega | (simp only [lens, pkeys_it1_l, pkeys_it2_l, ptag_len, List.flatten_cons, List.flatten_nil, List.append_nil, List.length_cons, List.length_nil, Cs.len, List.length_map, List.length_set, List.length_replicate, *]; first | done | omega) | decide | (split <;> simp only [lens, pkeys_it1_l, pkeys_it2_l, ptag_len, List.flatten_cons, List.flatten_nil, List.append_nil, List.length_cons, List.length_nil, Cs.len, List.length_map, List.length_set, List.length_replicate, *]) | (with_reducible exact Lt.mono (by assumption) (by decide))) (by decide)) rfl ?_
        refine OpsFrom.v (Y.move (up0 rfl rfl rfl) rfl rfl) rfl ?_
        refine OpsFrom.u (Y.bldS (d := 69) ty39 ty26 rfl (up0 rfl rfl rfl) rfl (.mix (List.replicate 1 (.nil))) rfl rfl rfl rfl (by decide) (by decide) (.cons _ _ _ _ _ _ _ _ _ rfl rfl rfl rfl (Spl.m (by first | decide | (simp; done))) (.nil _))) rfl rfl rfl ?_
        refine OpsFrom.v (Y.callV (w_ptag _ _ (by first | (with_reducible assumption) | omega | (simp only [lens, pkeys_it1_l, pkeys_it2_l, ptag_len, List.flatten_cons, List.flatten_nil, List.append_nil, List.length_cons, List.length_nil, Cs.len, List.length_map, List.length_set, List.length_replicate, *]; first | done | omega) | decide | (split <;> simp only [lens, pkeys_it1_l, pkeys_it2_l, ptag_len, List.flatten_cons, List.flatten_nil, List.append_nil, List.length_cons, List.length_nil, Cs.len, List.length_map, List.length_set, List.length_replicate, *]) | (with_reducible exact Lt.mono (by assumption) (by decide))) (by first | (with_reducible assumption) | omega | (simp only [lens, pkeys_it1_l, pkeys_it2_l, ptag_len, List.flatten_cons, List.flatten_nil, List.append_nil, List.length_cons, List.length_nil, Cs.len, List.length_map, List.length_set, List.length_replicate, *]; first | done | omega) | decide | (split <;> simp only [lens, pkeys_it1_l, pkeys_it2_l, ptag_len, List.flatten_cons, List.flatten_nil, List.append_nil, List.length_cons, List.length_nil, Cs.len, List.length_map, List.length_set, List.length_replicate, *]) | (with_reducible exact Lt.mono (by assumption) (by decide))) (by first | (with_reducible assumption) | omega | (simp only [lens, pkeys_it1_l, pkeys_it2_l, ptag_len, List.flatten_cons, List.flatten_nil, List.append_nil, List.length_cons, List.length_nil, Cs.len, List.length_map, List.length_set, List.length_replicate, *]; first | done | omega) | decide | (split <;> simp only [lens, pkeys_it1_l, pkeys_it2_l, ptag_len, List.flatten_cons, List.flatten_nil, List.append_nil, List.length_cons, List.length_nil, Cs.len, List.length_map, List.length_set, List.length_replicate, *]) | (with_reducible exact Lt.mono (by assumption) (by decide)))) fnok32 (up0 rfl rfl rfl) rfl rfl (.cons _ _ _ _ rfl (.cons _ _ _ _ rfl .nil)) (.cons _ _ _ _ (.same _) (.cons _ _ _ _ (.sgsL rfl (.cons _ _ _ _ (.same _) .nil) rfl) .nil)) rfl rfl) rfl ?_
        refine OpsFrom.u (Y.alloc (d := 13) ty35 rfl rfl (up0 rfl rfl rfl) rfl) rfl rfl rfl ?_
        refine OpsFrom.n (Y.stR ty35 (upN rfl rfl) rfl rfl rfl rfl rfl (by first | (with_reducible assumption) | omega | (simp only [lens, pkeys_it1_l, pkeys_it2_l, ptag_len, List.flatten_cons, List.flatten_nil, List.append_nil, List.length_cons, List.length_nil, Cs.len, List.length_map, List.length_set, List.length_replicate, *]; first | done | omega) | decide | (split <;> simp only [lens, pkeys_it1_l, pkeys_it2_l, ptag_len, List.flatten_cons, List.flatten_nil, List.append_nil, List.length_cons, List.length_nil, Cs.len, List.length_map, List.length_set, List.length_replicate, *]) | (with_reducible exact Lt.mono (by assumption) (by decide))) (by first | (with_reducible assumption) | omega | (simp only [lens, pkeys_it1_l, pkeys_it2_l, ptag_len, List.flatten_cons, List.flatten_nil, List.append_nil, List.length_cons, List.length_nil, Cs.len, List.length_map, List.length_set, List.length_replicate, *]; first | done | omega) | decide | (split <;> simp only [lens, pkeys_it1_l, pkeys_it2_l, ptag_len, List.flatten_cons, List.flatten_nil, List.append_nil, List.length_cons, List.length_nil, Cs.len, List.length_map, List.length_set, List.length_replicate, *]) | (with_reducible exact Lt.mono (by assumption) (by decide))) (by decide)) rfl rfl ?_
        refine OpsFrom.nil ?_
        refine Holds.seq ?_
        refine Holds.reg ?_
        refine OpsFrom.v (Y.assign (v := (.one (.n .i64 0))) (up0 rfl rfl rfl) rfl rfl) rfl ?_
        refine OpsFrom.nil ?_
        refine Holds.seq ?_
        refine Holds.seq ?_
        refine Holds.reg ?_
        refine OpsFrom.v (Y.assign (v := (.one (.n .i64 0))) (up0 rfl rfl rfl) rfl rfl) rfl ?_
        refine OpsFrom.nil ?_
        refine Holds.block ?_
        refine Holds.loop (fun (i3_ : Nat) => ⟨[(1, .one (.bs false .u8 text)), (3, .one (.p 3 0)), (6, .one (.b false)), (7, .one (.b true)), (8, .one (.p 8 0)), (12, .one (.p 12 0)), (13, .one (.p 13 0)), (14, .one (.n .i64 (pkeys_it3 key text i3_))), (15, .one (.n .i64 i3_))], [(3, .own (.ints .u8 key)), (8, .own (.ints .u8 (pkeys_it1 key low 4))), (12, .own (.ints .u8 (ptag key [text]))), (13, .own (.ints .u8 (ptag (pkeys_it2 key 16) [text])))]⟩) (fun (i3_ : Nat) => i3_ ≤ 16) (fun (i3_ : Nat) => 16 - i3_) 0 (by first | (with_reducible assumption) | omega | (simp only [lens, pkeys_it1_l, pkeys_it2_l, ptag_len, List.flatten_cons, List.flatten_nil, List.append_nil, List.length_cons, List.length_nil, Cs.len, List.length_map, List.length_set, List.length_replicate, *]; first | done | omega) | decide | (split <;> simp only [lens, pkeys_it1_l, pkeys_it2_l, ptag_len, List.flatten_cons, List.flatten_nil, List.append_nil, List.length_cons, List.length_nil, Cs.len, List.length_map, List.length_set, List.length_replicate, *]) | (with_reducible exact Lt.mono (by assumption) (by decide))) [] ⟨⟨rfl, rfl, rfl, rfl, rfl, rfl, rfl, (nEq (congrArg (fun (s : Nat) => s) (pkeys_it3_z key text)).symm), rfl, trivial⟩, ⟨rfl, rfl, rfl, rfl, trivial⟩, rfl, rfl⟩ ?_
        intro i3_ k3_
        have hc := pkeys_c (text := text) l_key i3_ (by omega)
        have ha := (pkeys_qv l_key b_key b_text)
        have hb1 : (ptag (pkeys_it2 key 16) [text]).getD i3_ 0 < 256 := by obtain ⟨A, _, _, e⟩ := ha; rw [e]; exact digs_lt (by decide) _ _ _
        have hb2 := b_key (16 + i3_)
        have hb3 : pkeys_it3 key text i3_ < 1099511627776 := pkeys_b l_key b_key b_text i3_ (by omega)
        refine Holds.seq ?_
        refine Holds.seq ?_
        refine Holds.reg ?_
        refine OpsFrom.v (Y.move (up0 rfl rfl rfl) rfl rfl) rfl ?_
        refine OpsFrom.v (Y.lss (b := 16) (up0 rfl rfl rfl) rfl rfl rfl) rfl ?_
        refine OpsFrom.nil ?_
        refine Holds.condD rfl (fun h72 => ?_) (fun h72 => ?_)
        · refine Holds.skip ?_
          refine Holds.seq ?_
          refine Holds.block ?_
          refine Holds.seq ?_
          refine Holds.dr mx [([75], [79, 80, 81, 82, 83, 85]), ([76], [79, 80, 81, 82, 83, 85]), ([77], [79, 80, 81, 82, 83, 85]), ([78], [79, 80, 81, 82, 83, 85]), ([79], [75, 76, 77, 78, 85]), ([80], [75, 76, 77, 78, 85]), ([81], [75, 76, 77, 78, 85]), ([82], [75, 76, 77, 78, 85]), ([83], [75, 76, 77, 78, 85]), ([84], [85]), ([85], [75, 76, 77, 78, 79, 80, 81, 82, 83, 84]), ([86], []), ([16], [])] (by kernel_rfl) ?_
          refine CertK.vd (Y.move (up0 rfl rfl rfl) rfl rfl) rfl rfl ?_
          refine CertK.vd (Y.ia0 ty35 ty5 (up0 rfl rfl rfl) rfl rfl rfl (by first | (with_reducible assumption) | omega | (simp only [lens, pkeys_it1_l, pkeys_it2_l, ptag_len, List.flatten_cons, List.flatten_nil, List.append_nil, List.length_cons, List.length_nil, Cs.len, List.length_map, List.length_set, List.length_replicate, *]; first | done | omega) | decide | (split <;> simp only [lens, pkeys_it1_l, pkeys_it2_l, ptag_len, List.flatten_cons, List.flatten_nil, List.append_nil, List.length_cons, List.length_nil, Cs.len, List.length_map, List.length_set, List.length_replicate, *]) | (with_reducible exact Lt.mono (by assumption) (by decide)))) rfl rfl ?_
          refine CertK.vd (Y.ldI ty5 rfl (up0 rfl rfl rfl) rfl rfl rfl (by first | (with_reducible assumption) | omega | (simp only [lens, pkeys_it1_l, pkeys_it2_l, ptag_len, List.flatten_cons, List.flatten_nil, List.append_nil, List.length_cons, List.length_nil, Cs.len, List.length_map, List.length_set, List.length_replicate, *]; first | done | omega) | decide | (split <;> simp only [lens, pkeys_it1_l, pkeys_it2_l, ptag_len, List.flatten_cons, List.flatten_nil, List.append_nil, List.length_cons, List.length_nil, Cs.len, List.length_map, List.length_set, List.length_replicate, *]) | (with_reducible exact Lt.mono (by assumption) (by decide)))) rfl rfl ?_
          refine CertK.vd (Y.convUpI ty5.u ty3.u rfl (by decide) (up0 rfl rfl rfl) rfl rfl) rfl rfl ?_
          refine CertK.vd (Y.move (up0 rfl rfl rfl) rfl rfl) rfl rfl ?_
          refine CertK.vd (Y.addI (a := 16) (up0 rfl rfl rfl) rfl rfl rfl (by first | (with_reducible assumption) | omega | (simp only [lens, pkeys_it1_l, pkeys_it2_l, ptag_len, List.flatten_cons, List.flatten_nil, List.append_nil, List.length_cons, List.length_nil, Cs.len, List.length_map, List.length_set, List.length_replicate, *]; first | done | omega) | decide | (split <;> simp only [lens, pkeys_it1_l, pkeys_it2_l, ptag_len, List.flatten_cons, List.flatten_nil, List.append_nil, List.length_cons, List.length_nil, Cs.len, List.length_map, List.length_set, List.length_replicate, *]) | (with_reducible exact Lt.mono (by assumption) (by decide)))) rfl rfl ?_
          refine CertK.vd (Y.ia0 ty23 ty5 (up0 rfl rfl rfl) rfl rfl rfl (by first | (with_reducible assumption) | omega | (simp only [lens, pkeys_it1_l, pkeys_it2_l, ptag_len, List.flatten_cons, List.flatten_nil, List.append_nil, List.length_cons, List.length_nil, Cs.len, List.length_map, List.length_set, List.length_replicate, *]; first | done | omega) | decide | (split <;> simp only [lens, pkeys_it1_l, pkeys_it2_l, ptag_len, List.flatten_cons, List.flatten_nil, List.append_nil, List.length_cons, List.length_nil, Cs.len, List.length_map, List.length_set, List.length_replicate, *]) | (with_reducible exact Lt.mono (by assumption) (by decide)))) rfl rfl ?_
          refine CertK.vd (Y.ldI ty5 rfl (up0 rfl rfl rfl) rfl rfl rfl (by first | (with_reducible assumption) | omega | (simp only [lens, pkeys_it1_l, pkeys_it2_l, ptag_len, List.flatten_cons, List.flatten_nil, List.append_nil, List.length_cons, List.length_nil, Cs.len, List.length_map, List.length_set, List.length_replicate, *]; first | done | omega) | decide | (split <;> simp only [lens, pkeys_it1_l, pkeys_it2_l, ptag_len, List.flatten_cons, List.flatten_nil, List.append_nil, List.length_cons, List.length_nil, Cs.len, List.length_map, List.length_set, List.length_replicate, *]) | (with_reducible exact Lt.mono (by assumption) (by decide)))) rfl rfl ?_
          refine CertK.vd (Y.convUpI ty5.u ty3.u rfl (by decide) (up0 rfl rfl rfl) rfl rfl) rfl rfl ?_
          refine CertK.vd (Y.addI (up0 rfl rfl rfl) rfl rfl rfl (by first | (with_reducible assumption) | omega | (simp only [lens, pkeys_it1_l, pkeys_it2_l, ptag_len, List.flatten_cons, List.flatten_nil, List.append_nil, List.length_cons, List.length_nil, Cs.len, List.length_map, List.length_set, List.length_replicate, *]; first | done | omega) | decide | (split <;> simp only [lens, pkeys_it1_l, pkeys_it2_l, ptag_len, List.flatten_cons, List.flatten_nil, List.append_nil, List.length_cons, List.length_nil, Cs.len, List.length_map, List.length_set, List.length_replicate, *]) | (with_reducible exact Lt.mono (by assumption) (by decide)))) rfl rfl ?_
          refine CertK.vd (Y.move (up0 rfl rfl rfl) rfl rfl) rfl rfl ?_
          refine CertK.v (Y.addI (up0 rfl rfl rfl) rfl rfl rfl (by first | (with_reducible assumption) | omega | (simp only [lens, pkeys_it1_l, pkeys_it2_l, ptag_len, List.flatten_cons, List.flatten_nil, List.append_nil, List.length_cons, List.length_nil, Cs.len, List.length_map, List.length_set, List.length_replicate, *]; first | done | omega) | decide | (split <;> simp only [lens, pkeys_it1_l, pkeys_it2_l, ptag_len, List.flatten_cons, List.flatten_nil, List.append_nil, List.length_cons, List.length_nil, Cs.len, List.length_map, List.length_set, List.length_replicate, *]) | (with_reducible exact Lt.mono (by assumption) (by decide)))) rfl ?_
          refine CertK.v (Y.assign (up0 rfl rfl rfl) rfl rfl) rfl ?_
          refine CertK.nil ?_
          refine Holds.seq ?_
          refine Holds.seq ?_
          refine Holds.reg ?_
          refine OpsFrom.v (Y.move (up0 rfl rfl rfl) rfl rfl) rfl ?_
          refine OpsFrom.v (Y.ia0 ty35 ty5 (up0 rfl rfl rfl) rfl rfl rfl (by first | (with_reducible assumption) | omega | (simp only [lens, pkeys_it1_l, pkeys_it2_l, ptag_len, List.flatten_cons, List.flatten_nil, List.append_nil, List.length_cons, List.length_nil, Cs.len, List.length_map, List.length_set, List.length_replicate, *]; first | done | omega) | decide | (split <;> simp only [lens, pkeys_it1_l, pkeys_it2_l, ptag_len, List.flatten_cons, List.flatten_nil, List.append_nil, List.length_cons, List.length_nil, Cs.len, List.length_map, List.length_set, List.length_replicate, *]) | (with_reducible exact Lt.mono (by assumption) (by decide)))) rfl ?_
          refine OpsFrom.v (Y.ldI ty5 rfl (up0 rfl rfl rfl) rfl rfl rfl (by first | (with_reducible assumption) | omega | (simp only [lens, pkeys_it1_l, pkeys_it2_l, ptag_len, List.flatten_cons, List.flatten_nil, List.append_nil, List.length_cons, List.length_nil, Cs.len, List.length_map, List.length_set, List.length_replicate, *]; first | done | omega) | decide | (split <;> simp only [lens, pkeys_it1_l, pkeys_it2_l, ptag_len, List.flatten_cons, List.flatten_nil, List.append_nil, List.length_cons, List.length_nil, Cs.len, List.length_map, List.length_set, List.length_replicate, *]) | (with_reducible exact Lt.mono (by assumption) (by decide)))) rfl ?_
          refine OpsFrom.v (Y.move (up0 rfl rfl rfl) rfl rfl) rfl ?_
          refine OpsFrom.v (Y.rem (b := 256) (up0 rfl rfl rfl) rfl rfl rfl (by decide)) rfl ?_
          refine OpsFrom.v (Y.conv ty3.u ty5.u u8s u8m (up0 rfl rfl rfl) rfl rfl) rfl ?_
          refine OpsFrom.v (Y.neq (up0 rfl rfl rfl) rfl rfl rfl) rfl ?_
          refine OpsFrom.nil ?_
          refine Holds.condDF rfl (decide_eq_false (not_not_intro (pkeys_d l_key b_key b_text (by first | (with_reducible assumption) | omega | (simp only [lens, pkeys_it1_l, pkeys_it2_l, ptag_len, List.flatten_cons, List.flatten_nil, List.append_nil, List.length_cons, List.length_nil, Cs.len, List.length_map, List.length_set, List.length_replicate, *]; first | done | omega) | decide | (split <;> simp only [lens, pkeys_it1_l, pkeys_it2_l, ptag_len, List.flatten_cons, List.flatten_nil, List.append_nil, List.length_cons, List.length_nil, Cs.len, List.length_map, List.length_set, List.length_replicate, *]) | (with_reducible exact Lt.mono (by assumption) (by decide))) hc))) ?_
          refine Holds.skip ?_
          refine Holds.reg ?_
          refine OpsFrom.v (Y.move (up0 rfl rfl rfl) rfl rfl) rfl ?_
          refine OpsFrom.v (Y.quoI (b := 256) (up0 rfl rfl rfl) rfl rfl rfl (by first | (with_reducible assumption) | omega | (simp only [lens, pkeys_it1_l, pkeys_it2_l, ptag_len, List.flatten_cons, List.flatten_nil, List.append_nil, List.length_cons, List.length_nil, Cs.len, List.length_map, List.length_set, List.length_replicate, *]; first | done | omega) | decide | (split <;> simp only [lens, pkeys_it1_l, pkeys_it2_l, ptag_len, List.flatten_cons, List.flatten_nil, List.append_nil, List.length_cons, List.length_nil, Cs.len, List.length_map, List.length_set, List.length_replicate, *]) | (with_reducible exact Lt.mono (by assumption) (by decide))) (by decide)) rfl ?_
          refine OpsFrom.v (Y.assign (up0 rfl rfl rfl) rfl rfl) rfl ?_
          refine OpsFrom.nil ?_
          refine Holds.reg ?_
          refine OpsFrom.v (Y.move (up0 rfl rfl rfl) rfl rfl) rfl ?_
          refine OpsFrom.v (Y.addI (b := 1) (up0 rfl rfl rfl) rfl rfl rfl (by first | (with_reducible assumption) | omega | (simp only [lens, pkeys_it1_l, pkeys_it2_l, ptag_len, List.flatten_cons, List.flatten_nil, List.append_nil, List.length_cons, List.length_nil, Cs.len, List.length_map, List.length_set, List.length_replicate, *]; first | done | omega) | decide | (split <;> simp only [lens, pkeys_it1_l, pkeys_it2_l, ptag_len, List.flatten_cons, List.flatten_nil, List.append_nil, List.length_cons, List.length_nil, Cs.len, List.length_map, List.length_set, List.length_replicate, *]) | (with_reducible exact Lt.mono (by assumption) (by decide)))) rfl ?_
          refine OpsFrom.v (Y.assign (up0 rfl rfl rfl) rfl rfl) rfl ?_
          refine OpsFrom.nil ?_
          exact Holds.again (i3_ + 1) (by omega) (by omega) [] ⟨⟨rfl, rfl, rfl, rfl, rfl, rfl, rfl, (nEq (by rw [pkeys_it3_s]; unfold pkeys_s3; first | (dsimp only; done) | rfl)), (nEq (by omega)), trivial⟩, ⟨rfl, rfl, rfl, rfl, trivial⟩, rfl, rfl⟩
        · obtain rfl : i3_ = 16 := by omega
          refine Holds.exit ?_
          refine Holds.seq ?_
          refine Holds.dr mx [([96], []), ([97], []), ([98], [99, 100, 102]), ([99], [98, 102]), ([100], [98, 102]), ([101], [102]), ([102], [98, 99, 100, 101]), ([103], []), ([104], []), ([6], [])] (by kernel_rfl) ?_
          refine CertK.v (Y.move (up0 rfl rfl rfl) rfl rfl) rfl ?_
          refine CertK.v (Y.move (up0 rfl rfl rfl) rfl rfl) rfl ?_
          refine CertK.vd (Y.ldAll ty23 rfl (up1 rfl rfl rfl rfl rfl rfl) rfl rfl rfl (by first | (with_reducible assumption) | omega | (simp only [lens, pkeys_it1_l, pkeys_it2_l, ptag_len, List.flatten_cons, List.flatten_nil, List.append_nil, List.length_cons, List.length_nil, Cs.len, List.length_map, List.length_set, List.length_replicate, *]; first | done | omega) | decide | (split <;> simp only [lens, pkeys_it1_l, pkeys_it2_l, ptag_len, List.flatten_cons, List.flatten_nil, List.append_nil, List.length_cons, List.length_nil, Cs.len, List.length_map, List.length_set, List.length_replicate, *]) | (with_reducible exact Lt.mono (by assumption) (by decide))) (by decide)) rfl rfl ?_
          refine CertK.vd (Y.move (up1 rfl rfl rfl rfl rfl rfl) rfl rfl) rfl rfl ?_
          refine CertK.u (Y.bldS (d := 100) ty39 ty26 rfl (up1 rfl rfl rfl rfl rfl rfl) rfl (.mix (List.replicate 1 (.nil))) rfl rfl rfl rfl (by decide) (by decide) (.cons _ _ _ _ _ _ _ _ _ rfl rfl rfl rfl (Spl.m (by first | decide | (simp; done))) (.nil _))) rfl rfl rfl rfl rfl ?_
          refine CertK.vd (Y.callV (w_ptag _ _ (pkeys_o l_key b_key b_low).1 (by first | (with_reducible assumption) | omega | (simp only [lens, pkeys_it1_l, pkeys_it2_l, ptag_len, List.flatten_cons, List.flatten_nil, List.append_nil, List.length_cons, List.length_nil, Cs.len, List.length_map, List.length_set, List.length_replicate, *]; first | done | omega) | decide | (split <;> simp only [lens, pkeys_it1_l, pkeys_it2_l, ptag_len, List.flatten_cons, List.flatten_nil, List.append_nil, List.length_cons, List.length_nil, Cs.len, List.length_map, List.length_set, List.length_replicate, *]) | (with_reducible exact Lt.mono (by assumption) (by decide))) (by first | (with_reducible assumption) | omega | (simp only [lens, pkeys_it1_l, pkeys_it2_l, ptag_len, List.flatten_cons, List.flatten_nil, List.append_nil, List.length_cons, List.length_nil, Cs.len, List.length_map, List.length_set, List.length_replicate, *]; first | done | omega) | decide | (split <;> simp only [lens, pkeys_it1_l, pkeys_it2_l, ptag_len, List.flatten_cons, List.flatten_nil, List.append_nil, List.length_cons, List.length_nil, Cs.len, List.length_map, List.length_set, List.length_replicate, *]) | (with_reducible exact Lt.mono (by assumption) (by decide)))) fnok32 (up1 rfl rfl rfl rfl rfl rfl) rfl rfl (.cons _ _ _ _ rfl (.cons _ _ _ _ rfl .nil)) (.cons _ _ _ _ (.same _) (.cons _ _ _ _ (.sgsL rfl (.cons _ _ _ _ (.same _) .nil) rfl) .nil)) rfl rfl) rfl rfl ?_
          refine CertK.vd (Y.ldAll ty35 rfl (up1 rfl rfl rfl rfl rfl rfl) rfl rfl rfl (by first | (with_reducible assumption) | omega | (simp only [lens, pkeys_it1_l, pkeys_it2_l, ptag_len, List.flatten_cons, List.flatten_nil, List.append_nil, List.length_cons, List.length_nil, Cs.len, List.length_map, List.length_set, List.length_replicate, *]; first | done | omega) | decide | (split <;> simp only [lens, pkeys_it1_l, pkeys_it2_l, ptag_len, List.flatten_cons, List.flatten_nil, List.append_nil, List.length_cons, List.length_nil, Cs.len, List.length_map, List.length_set, List.length_replicate, *]) | (with_reducible exact Lt.mono (by assumption) (by decide))) (by decide)) rfl rfl ?_
          refine CertK.v (Doing.isB (c := true) (decide_eq_true (ptag_of l_key b_key (by simpa using b_text) (pkeys_o l_key b_key b_low).1 (pkeys_o l_key b_key b_low).2.1 rfl (pkeys_o l_key b_key b_low).2.2.1 (pkeys_o l_key b_key b_low).2.2.2)) (Y.eqR ty35 ty5 (by kernel_rfl) (up1 rfl rfl rfl rfl rfl rfl) rfl rfl rfl (by first | (with_reducible assumption) | omega | (simp only [lens, pkeys_it1_l, pkeys_it2_l, ptag_len, List.flatten_cons, List.flatten_nil, List.append_nil, List.length_cons, List.length_nil, Cs.len, List.length_map, List.length_set, List.length_replicate, *]; first | done | omega) | decide | (split <;> simp only [lens, pkeys_it1_l, pkeys_it2_l, ptag_len, List.flatten_cons, List.flatten_nil, List.append_nil, List.length_cons, List.length_nil, Cs.len, List.length_map, List.length_set, List.length_replicate, *]) | (with_reducible exact Lt.mono (by assumption) (by decide))) (by first | (with_reducible assumption) | omega | (simp only [lens, pkeys_it1_l, pkeys_it2_l, ptag_len, List.flatten_cons, List.flatten_nil, List.append_nil, List.length_cons, List.length_nil, Cs.len, List.length_map, List.length_set, List.length_replicate, *]; first | done | omega) | decide | (split <;> simp only [lens, pkeys_it1_l, pkeys_it2_l, ptag_len, List.flatten_cons, List.flatten_nil, List.append_nil, List.length_cons, List.length_nil, Cs.len, List.length_map, List.length_set, List.length_replicate, *]) | (with_reducible exact Lt.mono (by assumption) (by decide))))) rfl ?_
          refine CertK.v (Y.pickT (up0 rfl rfl rfl) rfl rfl rfl) rfl ?_
          refine CertK.v (Y.assign (up0 rfl rfl rfl) rfl rfl) rfl ?_
          refine CertK.nil ?_
          refine Holds.ret ?_
          exact Holds.ret1 (.inl rfl) rfl (.tmp _ _ rfl) (.same _) rfl


end Go.Proofs.Ytkpelchcpiafaaa
