/-
  Walks: PolyOne.
-/
import Derived.Test.YtkpelchcpiafaaaQj
namespace Go.Proofs.Ytkpelchcpiafaaa
open Go Go.Fx
set_option linter.unusedVariables false
set_option linter.unusedSimpArgs false
def one_s1 (half : List Nat) (i1_ : Nat) (m1_ : (List Nat) × (List Nat)) : (List Nat) × (List Nat) :=
  (m1_.1.set (16 + i1_) (half.getD i1_ 0), m1_.2.set i1_ (half.getD i1_ 0))
def one_it1 (half : List Nat) (i1_ : Nat) : (List Nat) × (List Nat) := iter (one_s1 half) i1_ ((List.replicate 32 0).set 0 1, List.replicate 16 0)
theorem one_it1_z (half : List Nat) : one_it1 half 0 = ((List.replicate 32 0).set 0 1, List.replicate 16 0) := rfl
theorem one_it1_s (half : List Nat) (i1_ : Nat) : one_it1 half (i1_ + 1) = one_s1 half i1_ (one_it1 half i1_) := by unfold one_it1; exact iterS _ _ _
theorem one_it1_l0 (half : List Nat) (i1_ : Nat) : ((one_it1 half i1_).1).length = ((List.replicate 32 0).set 0 1 : List Nat).length := iter_inv (fun (s : (List Nat) × (List Nat)) => (s.1).length = ((List.replicate 32 0).set 0 1 : List Nat).length) (by simp) (fun i s h => by
  unfold one_s1
  first | (simp [h]; done) | (dsimp only; (repeat' split) <;> simp [h])) i1_
theorem one_it1_l1 (half : List Nat) (i1_ : Nat) : ((one_it1 half i1_).2).length = (List.replicate 16 0 : List Nat).length := iter_inv (fun (s : (List Nat) × (List Nat)) => (s.2).length = (List.replicate 16 0 : List Nat).length) (by simp) (fun i s h => by
  unfold one_s1
  first | (simp [h]; done) | (dsimp only; (repeat' split) <;> simp [h])) i1_
theorem one_key {half : List Nat} (lh : half.length = 16) (hh : Lt 256 half) : ∀ i, i ≤ 16 → Lt 256 (one_it1 half i).1 ∧ Lt 256 (one_it1 half i).2 ∧ (one_it1 half i).1.getD 0 0 = 1 ∧ (∀ j, 1 ≤ j → j < 16 → (one_it1 half i).1.getD j 0 = 0) ∧ (∀ j, j < i → (one_it1 half i).1.getD (16 + j) 0 = half.getD j 0 ∧ (one_it1 half i).2.getD j 0 = half.getD j 0) := by
  intro i
  induction i with
  | zero => intro _; exact ⟨(Lt.replicate (by decide)).set (by decide), Lt.replicate (by decide), rfl, fun j h1 h2 => by rw [one_it1_z]; show ((List.replicate 32 0).set 0 1).getD j 0 = 0; rw [Fx.getD_set_ne (by omega)]; exact rep_getD 32 j, fun j hj => by omega⟩
  | succ i ih =>
    intro hi
    obtain ⟨h1, h2, h3, h4, h5⟩ := ih (by omega)
    have l1 : (one_it1 half i).1.length = 32 := by rw [one_it1_l0]; rfl
    have l2 : (one_it1 half i).2.length = 16 := by rw [one_it1_l1]; rfl
    rw [one_it1_s]
    unfold one_s1
    dsimp only
    refine ⟨h1.set (hh i), h2.set (hh i), by rw [Fx.getD_set_ne (by omega)]; exact h3, fun j a b => by rw [Fx.getD_set_ne (by omega)]; exact h4 j a b, fun j hj => ?_⟩
    by_cases h : j = i
    · subst h
      exact ⟨getD_set_eq (by omega), getD_set_eq (by omega)⟩
    · rw [Fx.getD_set_ne (by omega), Fx.getD_set_ne (by omega)]; exact h5 j (by omega)
theorem one_k {half : List Nat} (lh : half.length = 16) (hh : Lt 256 half) : (one_it1 half 16).1.length = 32 ∧ Lt 256 (one_it1 half 16).1 ∧ clamp (one_it1 half 16).1 = 1 ∧ (one_it1 half 16).1.drop 16 = half ∧ (one_it1 half 16).2 = half := by
  obtain ⟨h1, h2, h3, h4, h5⟩ := one_key lh hh 16 (by omega)
  have l1 : (one_it1 half 16).1.length = 32 := by rw [one_it1_l0]; rfl
  have l2 : (one_it1 half 16).2.length = 16 := by rw [one_it1_l1]; rfl
  refine ⟨l1, h1, ?_, ?_, ?_⟩
  · unfold clamp clampL
    rw [h3, h4 1 (by decide) (by decide), h4 2 (by decide) (by decide), h4 3 (by decide) (by decide), h4 4 (by decide) (by decide), h4 5 (by decide) (by decide), h4 6 (by decide) (by decide), h4 7 (by decide) (by decide), h4 8 (by decide) (by decide), h4 9 (by decide) (by decide), h4 10 (by decide) (by decide), h4 11 (by decide) (by decide), h4 12 (by decide) (by decide), h4 13 (by decide) (by decide), h4 14 (by decide) (by decide), h4 15 (by decide) (by decide)]
    rfl
  · refine ext_getD (by simp [l1, lh]) fun j hj => ?_
    have hj' : j < 16 := by simp [l1] at hj; omega
    rw [getD_drop]; exact (h5 j hj').1
  · refine ext_getD (by omega) fun j hj => (h5 j (by omega)).2
def one_s2 (text : List Nat) (half : List Nat) (i2_ : Nat) (m2_ : List Nat) : List Nat :=
  let v6_ : List Nat := m2_.set i2_ ((m2_.getD i2_ 0) + (text.getD i2_ 0))
  v6_
def one_it2 (text : List Nat) (half : List Nat) (i2_ : Nat) : List Nat := iter (one_s2 text half) i2_ ((one_it1 half 16).2)
theorem one_it2_z (text : List Nat) (half : List Nat) : one_it2 text half 0 = (one_it1 half 16).2 := rfl
theorem one_it2_s (text : List Nat) (half : List Nat) (i2_ : Nat) : one_it2 text half (i2_ + 1) = one_s2 text half i2_ (one_it2 text half i2_) := by unfold one_it2; exact iterS _ _ _
theorem one_it2_l (text : List Nat) (half : List Nat) (i2_ : Nat) : ((one_it2 text half i2_)).length = ((one_it1 half 16).2 : List Nat).length := iter_inv (fun (s : List Nat) => (s).length = ((one_it1 half 16).2 : List Nat).length) (by simp) (fun i s h => by
  unfold one_s2
  first | (simp [one_it1_l0, one_it1_l1, h]; done) | (dsimp only; (repeat' split) <;> simp [one_it1_l0, one_it1_l1, h])) i2_
theorem one_2 {text half : List Nat} (lh : half.length = 16) (hh : Lt 256 half) (ht : Lt 256 text) (hl : text.length ≤ 15) : ∀ i, i ≤ text.length → Lt 511 (one_it2 text half i) ∧ (∀ j, i ≤ j → (one_it2 text half i).getD j 0 < 256) ∧ val 256 (one_it2 text half i) = val 256 half + val 256 (text.take i) := by
  intro i
  have e := (one_k lh hh).2.2.2.2
  induction i with
  | zero => intro _; rw [one_it2_z, e]; exact ⟨hh.mono (by decide), fun j _ => hh j, by simp [val]⟩
  | succ i ih =>
    intro hi
    obtain ⟨h1, h2, h3⟩ := ih (by omega)
    have hb := h2 i (Nat.le_refl i)
    have hc := ht i
    have hlen : (one_it2 text half i).length = 16 := by rw [one_it2_l, one_it1_l1]; rfl
    have h5 := val_set (B := 256) (xs := one_it2 text half i) (i := i) (v := (one_it2 text half i).getD i 0 + text.getD i 0) (by omega)
    rw [Nat.mul_add] at h5
    rw [one_it2_s]
    unfold one_s2
    dsimp only
    refine ⟨h1.set (by omega), fun j hj => ?_, ?_⟩
    · rw [Fx.getD_set_ne (by omega)]; exact h2 j (by omega)
    · rw [val_take_succ (by omega)]; omega
def one_sum (text : List Nat) (half : List Nat) : List Nat :=
  let v8_ : Nat := (one_it2 text half text.length).getD text.length 0
  let v9_ : List Nat := (one_it2 text half text.length).set text.length (v8_ + 1)
  v9_
theorem one_sum_len (text : List Nat) (half : List Nat) : (one_sum text half).length = 16 := by
  unfold one_sum
  first | (simp [one_it1_l0, one_it1_l1, one_it2_l]; done) | (dsimp only; (repeat' split) <;> simp [one_it1_l0, one_it1_l1, one_it2_l])
def one_s3 (text : List Nat) (half : List Nat) (i3_ : Nat) (m3_ : Nat) : Nat :=
  let v17_ : Nat := (((one_sum text half).getD i3_ 0) + m3_) / 256
  v17_
def one_it3 (text : List Nat) (half : List Nat) (i3_ : Nat) : Nat := iter (one_s3 text half) i3_ 0
theorem one_it3_z (text : List Nat) (half : List Nat) : one_it3 text half 0 = 0 := rfl
theorem one_it3_s (text : List Nat) (half : List Nat) (i3_ : Nat) : one_it3 text half (i3_ + 1) = one_s3 text half i3_ (one_it3 text half i3_) := by unfold one_it3; exact iterS _ _ _
theorem one_sv {text half : List Nat} (lh : half.length = 16) (hh : Lt 256 half) (ht : Lt 256 text) (hl : text.length ≤ 15) : Lt 512 (one_sum text half) ∧ val 256 (one_sum text half) = val 256 half + val 256 text + 256 ^ text.length := by
  obtain ⟨h1, h2, h3⟩ := one_2 lh hh ht hl text.length (Nat.le_refl _)
  have hlen : (one_it2 text half text.length).length = 16 := by rw [one_it2_l, one_it1_l1]; rfl
  have h5 := val_set (B := 256) (xs := one_it2 text half text.length) (i := text.length) (v := (one_it2 text half text.length).getD text.length 0 + 1) (by omega)
  rw [Nat.mul_add, Nat.mul_one] at h5
  rw [List.take_length] at h3
  have h6 := h1 text.length
  unfold one_sum
  dsimp only
  exact ⟨(h1.mono (by decide)).set (by omega), by omega⟩
theorem one_c {text half : List Nat} (i : Nat) (hi : i ≤ 16) : one_it3 text half i = val 256 ((one_sum text half).take i) / 256 ^ i := by
  induction i with
  | zero => rw [one_it3_z, List.take_zero]; rfl
  | succ i ih =>
    have h := carry_dig (q := one_sum text half) (i := i) (by rw [one_sum_len]; omega) (ih (by omega))
    rw [one_it3_s]
    unfold one_s3
    dsimp only
    exact h.2
theorem one_b {text half : List Nat} (lh : half.length = 16) (hh : Lt 256 half) (ht : Lt 256 text) (hl : text.length ≤ 15) (i : Nat) : one_it3 text half i < 1099511627776 := by
  induction i with
  | zero => exact (by decide : (0 : Nat) < 1099511627776)
  | succ i ih =>
    have := (one_sv lh hh ht hl).1 i
    rw [one_it3_s]
    unfold one_s3
    dsimp only
    omega
theorem one_d {text half : List Nat} (lh : half.length = 16) (hh : Lt 256 half) (ht : Lt 256 text) (hl : text.length ≤ 15) (h0 : text.length ≠ 0) {i : Nat} (hi : i < 16) : (ptag (one_it1 half 16).1 [text]).getD i 0 = ((one_sum text half).getD i 0 + one_it3 text half i) % 256 % 256 := by
  obtain ⟨k1, k2, k3, k4, _⟩ := one_k lh hh
  have h := (carry_dig (q := one_sum text half) (i := i) (by rw [one_sum_len]; omega) (one_c i (by omega))).1
  have hf : [text].flatten = text := by simp
  have hT := ptag_val (xss := [text]) k1 k2 (by rw [hf]; exact ht)
  rw [k3, k4, hf, show (text.length + 15) / 16 = 1 by omega] at hT
  have hv := (one_sv lh hh ht hl).2
  generalize one_sum text half = Z at *
  rw [Nat.mod_mod, ← h, hT, hv]
  rw [show (digs 256 16 (pacc 1 text 1 + val 256 half)).getD i 0 = (pacc 1 text 1 + val 256 half) / 256 ^ i % 256 from digs_getD hi]
  have hc : pchunk text 0 = text := by rw [pchunk, Nat.mul_zero, List.drop_zero, List.take_of_length_le (by omega)]
  have e1 := ht.val_lt
  have e2 : (256 : Nat) ^ text.length ≤ 256 ^ 15 := Nat.pow_le_pow_right (by decide) hl
  have e3 : (256 : Nat) ^ 15 + 256 ^ 15 < P130 := by decide
  have hp : pacc 1 text 1 = val 256 text + 256 ^ text.length := by
    show (0 + pcv text 0) * 1 % P130 = _
    unfold pcv
    rw [hc, Nat.zero_add, Nat.mul_one, Nat.mod_eq_of_lt (by omega)]
  rw [hp, show val 256 text + 256 ^ text.length + val 256 half = val 256 half + val 256 text + 256 ^ text.length by omega]
theorem w_one (text : List Nat) (half : List Nat) (l_half : half.length = 16) : VC Try.prog 13 [.one (.bs false .u8 text), .row (.ints .u8 half)] (.one (.b true)) := by
  refine VC.go Try.func13 rfl Try.ntmps13 rfl rfl fun O w => ?_
  refine Holds.ltBs 0 rfl u8s u8m (fun b_text => ?_)
  refine Holds.ltRow 1 rfl u8s u8m (fun b_half => ?_)
  refine Holds.seq ?_
  refine Holds.reg ?_
  refine OpsFrom.u (Y.boxR (d := 3) (up0 rfl rfl rfl) rfl rfl rfl) rfl rfl rfl ?_
  refine OpsFrom.v (Y.assign (up0 rfl rfl rfl) rfl rfl) rfl ?_
  refine OpsFrom.nil ?_
  refine Holds.seq ?_
  refine Holds.reg ?_
  refine OpsFrom.v (Y.callV w_pawake fnok31 (up0 rfl rfl rfl) rfl rfl .nil .nil rfl rfl) rfl ?_
  refine OpsFrom.v (Y.assign (up0 rfl rfl rfl) rfl rfl) rfl ?_
  refine OpsFrom.nil ?_
  refine Holds.seq ?_
  refine Holds.seqJoin ⟨[(0, .one (.bs false .u8 text)), (3, .one (.p 3 0)), (4, .one (.b false)), (5, .one (.b true)), (22, .one (.b (decide ((text.length = 0) ∨ (15 < text.length)))))], [(3, .own (.ints .u8 half))]⟩ ?_ (fun join => ?_)
  · refine Holds.condD rfl (fun h22 => ?_) (fun h22 => ?_)
    · refine Holds.seq ?_
      refine Holds.reg ?_
      refine OpsFrom.v (Y.move (up0 rfl rfl rfl) rfl rfl) rfl ?_
      refine OpsFrom.v (Y.assign (up0 rfl rfl rfl) rfl rfl) rfl ?_
      refine OpsFrom.nil ?_
      refine Holds.ret ?_
      exact Holds.ret1 (.inl rfl) rfl (.tmp _ _ rfl) (.same _) rfl
    · refine Holds.skip ?_
      refine Holds.seq ?_
      refine Holds.reg ?_
      refine OpsFrom.v (Y.buildA ty23 ty5 rfl (up0 rfl rfl rfl) rfl (.cons _ _ _ _ _ _ (.one (.n .u8 1)) _ _ rfl rfl rfl rfl (Spl.n (by first | decide | (simp; done))) (.nil _))) rfl ?_
      refine OpsFrom.u (Y.alloc (d := 6) ty23 rfl rfl (up0 rfl rfl rfl) rfl) rfl rfl rfl ?_
      refine OpsFrom.n (Y.stR ty23 (upN rfl rfl) rfl rfl rfl rfl rfl (by first | (with_reducible assumption) | omega | (simp only [lens, List.flatten_cons, List.flatten_nil, List.append_nil, List.length_cons, List.length_nil, Cs.len, List.length_map, List.length_set, List.length_replicate, *]; first | done | omega) | decide | (split <;> simp only [lens, List.flatten_cons, List.flatten_nil, List.append_nil, List.length_cons, List.length_nil, Cs.len, List.length_map, List.length_set, List.length_replicate, *]) | (with_reducible exact Lt.mono (by assumption) (by decide))) (by first | (with_reducible assumption) | omega | (simp only [lens, List.flatten_cons, List.flatten_nil, List.append_nil, List.length_cons, List.length_nil, Cs.len, List.length_map, List.length_set, List.length_replicate, *]; first | done | omega) | decide | (split <;> simp only [lens, List.flatten_cons, List.flatten_nil, List.append_nil, List.length_cons, List.length_nil, Cs.len, List.length_map, List.length_set, List.length_replicate, *]) | (with_reducible exact Lt.mono (by assumption) (by decide))) (by decide)) rfl rfl ?_
      refine OpsFrom.nil ?_
      refine Holds.seq ?_
      refine Holds.reg ?_
      refine OpsFrom.v (Y.buildA ty47 ty3 rfl (up0 rfl rfl rfl) rfl (.nil _)) rfl ?_
      refine OpsFrom.u (Y.alloc (d := 7) ty47 rfl rfl (up0 rfl rfl rfl) rfl) rfl rfl rfl ?_
      refine OpsFrom.n (Y.stR ty47 (upN rfl rfl) rfl rfl rfl rfl rfl (by first | (with_reducible assumption) | omega | (simp only [lens, List.flatten_cons, List.flatten_nil, List.append_nil, List.length_cons, List.length_nil, Cs.len, List.length_map, List.length_set, List.length_replicate, *]; first | done | omega) | decide | (split <;> simp only [lens, List.flatten_cons, List.flatten_nil, List.append_nil, List.length_cons, List.length_nil, Cs.len, List.length_map, List.length_set, List.length_replicate, *]) | (with_reducible exact Lt.mono (by assumption) (by decide))) (by first | (with_reducible assumption) | omega | (simp only [lens, List.flatten_cons, List.flatten_nil, List.append_nil, List.length_cons, List.length_nil, Cs.len, List.length_map, List.length_set, List.length_replicate, *]; first | done | omega) | decide | (split <;> simp only [lens, List.flatten_cons, List.flatten_nil, List.append_nil, List.length_cons, List.length_nil, Cs.len, List.length_map, List.length_set, List.length_replicate, *]) | (with_reducible exact Lt.mono (by assumption) (by decide))) (by decide)) rfl rfl ?_
      refine OpsFrom.nil ?_
      refine Holds.seq ?_
      refine Holds.seq ?_
      refine Holds.reg ?_
      refine OpsFrom.v (Y.assign (v := (.one (.n .i64 0))) (up0 rfl rfl rfl) rfl rfl) rfl ?_
      refine OpsFrom.nil ?_
      refine Holds.block ?_
      refine Holds.loop (fun (i1_ : Nat) => ⟨[(0, .one (.bs false .u8 text)), (3, .one (.p 3 0)), (4, .one (.b false)), (5, .one (.b true)), (6, .one (.p 6 0)), (7, .one (.p 7 0)), (8, .one (.n .i64 i1_))], [(3, .own (.ints .u8 half)), (6, .own (.ints .u8 ((one_it1 half i1_).1))), (7, .own (.ints .i64 ((one_it1 half i1_).2)))]⟩) (fun (i1_ : Nat) => i1_ ≤ 16) (fun (i1_ : Nat) => 16 - i1_) 0 (by first | (with_reducible assumption) | omega | (simp only [lens, one_it1_l0, one_it1_l1, List.flatten_cons, List.flatten_nil, List.append_nil, List.length_cons, List.length_nil, Cs.len, List.length_map, List.length_set, List.length_replicate, *]; first | done | omega) | decide | (split <;> simp only [lens, one_it1_l0, one_it1_l1, List.flatten_cons, List.flatten_nil, List.append_nil, List.length_cons, List.length_nil, Cs.len, List.length_map, List.length_set, List.length_replicate, *]) | (with_reducible exact Lt.mono (by assumption) (by decide))) [] ⟨⟨rfl, rfl, rfl, rfl, rfl, rfl, rfl, trivial⟩, ⟨rfl, (hEq (congrArg (fun (s : (List Nat) × (List Nat)) => s.1) (one_it1_z half)).symm), (hEq (congrArg (fun (s : (List Nat) × (List Nat)) => s.2) (one_it1_z half)).symm), trivial⟩, rfl, rfl⟩ ?_
      intro i1_ k1_
      refine Holds.seq ?_
      refine Holds.seq ?_
      refine Holds.reg ?_
      refine OpsFrom.v (Y.move (up0 rfl rfl rfl) rfl rfl) rfl ?_
      refine OpsFrom.v (Y.lss (b := 16) (up0 rfl rfl rfl) rfl rfl rfl) rfl ?_
      refine OpsFrom.nil ?_
      refine Holds.condD rfl (fun h27 => ?_) (fun h27 => ?_)
      · refine Holds.skip ?_
        refine Holds.seq ?_
        refine Holds.block ?_
        refine Holds.seq ?_
        refine Holds.reg ?_
        refine OpsFrom.v (Y.move (up0 rfl rfl rfl) rfl rfl) rfl ?_
        refine OpsFrom.v (Y.addI (a := 16) (up0 rfl rfl rfl) rfl rfl rfl (by first | (with_reducible assumption) | omega | (simp only [lens, one_it1_l0, one_it1_l1, List.flatten_cons, List.flatten_nil, List.append_nil, List.length_cons, List.length_nil, Cs.len, List.length_map, List.length_set, List.length_replicate, *]; first | done | omega) | decide | (split <;> simp only [lens, one_it1_l0, one_it1_l1, List.flatten_cons, List.flatten_nil, List.append_nil, List.length_cons, List.length_nil, Cs.len, List.length_map, List.length_set, List.length_replicate, *]) | (with_reducible exact Lt.mono (by assumption) (by decide)))) rfl ?_
        refine OpsFrom.v (Y.move (up0 rfl rfl rfl) rfl rfl) rfl ?_
        refine OpsFrom.v (Y.ia0 ty35 ty5 (up0 rfl rfl rfl) rfl rfl rfl (by first | (with_reducible assumption) | omega | (simp only [lens, one_it1_l0, one_it1_l1, List.flatten_cons, List.flatten_nil, List.append_nil, List.length_cons, List.length_nil, Cs.len, List.length_map, List.length_set, List.length_replicate, *]; first | done | omega) | decide | (split <;> simp only [lens, one_it1_l0, one_it1_l1, List.flatten_cons, List.flatten_nil, List.append_nil, List.length_cons, List.length_nil, Cs.len, List.length_map, List.length_set, List.length_replicate, *]) | (with_reducible exact Lt.mono (by assumption) (by decide)))) rfl ?_
        refine OpsFrom.v (Y.ldI ty5 rfl (up0 rfl rfl rfl) rfl rfl rfl (by first | (with_reducible assumption) | omega | (simp only [lens, one_it1_l0, one_it1_l1, List.flatten_cons, List.flatten_nil, List.append_nil, List.length_cons, List.length_nil, Cs.len, List.length_map, List.length_set, List.length_replicate, *]; first | done | omega) | decide | (split <;> simp only [lens, one_it1_l0, one_it1_l1, List.flatten_cons, List.flatten_nil, List.append_nil, List.length_cons, List.length_nil, Cs.len, List.length_map, List.length_set, List.length_replicate, *]) | (with_reducible exact Lt.mono (by assumption) (by decide)))) rfl ?_
        refine OpsFrom.v (Y.ia0 ty23 ty5 (up0 rfl rfl rfl) rfl rfl rfl (by first | (with_reducible assumption) | omega | (simp only [lens, one_it1_l0, one_it1_l1, List.flatten_cons, List.flatten_nil, List.append_nil, List.length_cons, List.length_nil, Cs.len, List.length_map, List.length_set, List.length_replicate, *]; first | done | omega) | decide | (split <;> simp only [lens, one_it1_l0, one_it1_l1, List.flatten_cons, List.flatten_nil, List.append_nil, List.length_cons, List.length_nil, Cs.len, List.length_map, List.length_set, List.length_replicate, *]) | (with_reducible exact Lt.mono (by assumption) (by decide)))) rfl ?_
        refine OpsFrom.n (Y.stI ty5 (upN rfl rfl) rfl rfl rfl rfl (by first | (with_reducible assumption) | omega | (simp only [lens, one_it1_l0, one_it1_l1, List.flatten_cons, List.flatten_nil, List.append_nil, List.length_cons, List.length_nil, Cs.len, List.length_map, List.length_set, List.length_replicate, *]; first | done | omega) | decide | (split <;> simp only [lens, one_it1_l0, one_it1_l1, List.flatten_cons, List.flatten_nil, List.append_nil, List.length_cons, List.length_nil, Cs.len, List.length_map, List.length_set, List.length_replicate, *]) | (with_reducible exact Lt.mono (by assumption) (by decide)))) rfl rfl ?_
        refine OpsFrom.nil ?_
        refine Holds.reg ?_
        refine OpsFrom.v (Y.move (up0 rfl rfl rfl) rfl rfl) rfl ?_
        refine OpsFrom.v (Y.move (up0 rfl rfl rfl) rfl rfl) rfl ?_
        refine OpsFrom.v (Y.ia0 ty35 ty5 (up0 rfl rfl rfl) rfl rfl rfl (by first | (with_reducible assumption) | omega | (simp only [lens, one_it1_l0, one_it1_l1, List.flatten_cons, List.flatten_nil, List.append_nil, List.length_cons, List.length_nil, Cs.len, List.length_map, List.length_set, List.length_replicate, *]; first | done | omega) | decide | (split <;> simp only [lens, one_it1_l0, one_it1_l1, List.flatten_cons, List.flatten_nil, List.append_nil, List.length_cons, List.length_nil, Cs.len, List.length_map, List.length_set, List.length_replicate, *]) | (with_reducible exact Lt.mono (by assumption) (by decide)))) rfl ?_
        refine OpsFrom.v (Y.ldI ty5 rfl (up0 rfl rfl rfl) rfl rfl rfl (by first | (with_reducible assumption) | omega | (simp only [lens, one_it1_l0, one_it1_l1, List.flatten_cons, List.flatten_nil, List.append_nil, List.length_cons, List.length_nil, Cs.len, List.length_map, List.length_set, List.length_replicate, *]; first | done | omega) | decide | (split <;> simp only [lens, one_it1_l0, one_it1_l1, List.flatten_cons, List.flatten_nil, List.append_nil, List.length_cons, List.length_nil, Cs.len, List.length_map, List.length_set, List.length_replicate, *]) | (with_reducible exact Lt.mono (by assumption) (by decide)))) rfl ?_
        refine OpsFrom.v (Y.convUpI ty5.u ty3.u rfl (by decide) (up0 rfl rfl rfl) rfl rfl) rfl ?_
        refine OpsFrom.v (Y.ia0 ty47 ty3 (up0 rfl rfl rfl) rfl rfl rfl (by first | (with_reducible assumption) | omega | (simp only [lens, one_it1_l0, one_it1_l1, List.flatten_cons, List.flatten_nil, List.append_nil, List.length_cons, List.length_nil, Cs.len, List.length_map, List.length_set, List.length_replicate, *]; first | done | omega) | decide | (split <;> simp only [lens, one_it1_l0, one_it1_l1, List.flatten_cons, List.flatten_nil, List.append_nil, List.length_cons, List.length_nil, Cs.len, List.length_map, List.length_set, List.length_replicate, *]) | (with_reducible exact Lt.mono (by assumption) (by decide)))) rfl ?_
        refine OpsFrom.n (Y.stI ty3 (upN rfl rfl) rfl rfl rfl rfl (by first | (with_reducible assumption) | omega | (simp only [lens, one_it1_l0, one_it1_l1, List.flatten_cons, List.flatten_nil, List.append_nil, List.length_cons, List.length_nil, Cs.len, List.length_map, List.length_set, List.length_replicate, *]; first | done | omega) | decide | (split <;> simp only [lens, one_it1_l0, one_it1_l1, List.flatten_cons, List.flatten_nil, List.append_nil, List.length_cons, List.length_nil, Cs.len, List.length_map, List.length_set, List.length_replicate, *]) | (with_reducible exact Lt.mono (by assumption) (by decide)))) rfl rfl ?_
        refine OpsFrom.nil ?_
        refine Holds.reg ?_
        refine OpsFrom.v (Y.move (up0 rfl rfl rfl) rfl rfl) rfl ?_
        refine OpsFrom.v (Y.addI (b := 1) (up0 rfl rfl rfl) rfl rfl rfl (by first | (with_reducible assumption) | omega | (simp only [lens, one_it1_l0, one_it1_l1, List.flatten_cons, List.flatten_nil, List.append_nil, List.length_cons, List.length_nil, Cs.len, List.length_map, List.length_set, List.length_replicate, *]; first | done | omega) | decide | (split <;> simp only [lens, one_it1_l0, one_it1_l1, List.flatten_cons, List.flatten_nil, List.append_nil, List.length_cons, List.length_nil, Cs.len, List.length_map, List.length_set, List.length_replicate, *]) | (with_reducible exact Lt.mono (by assumption) (by decide)))) rfl ?_
        refine OpsFrom.v (Y.assign (up0 rfl rfl rfl) rfl rfl) rfl ?_
        refine OpsFrom.nil ?_
        exact Holds.again (i1_ + 1) (by omega) (by omega) [] ⟨⟨rfl, rfl, rfl, rfl, rfl, rfl, (nEq (by omega)), trivial⟩, ⟨rfl, (hEq (by rw [one_it1_s]; unfold one_s1; first | (dsimp only; done) | rfl)), (hEq (by rw [one_it1_s]; unfold one_s1; first | (dsimp only; done) | rfl)), trivial⟩, rfl, rfl⟩
      · obtain rfl : i1_ = 16 := by omega
        refine Holds.exit ?_
        refine Holds.seq ?_
        refine Holds.seq ?_
        refine Holds.reg ?_
        refine OpsFrom.v (Y.assign (v := (.one (.n .i64 0))) (up0 rfl rfl rfl) rfl rfl) rfl ?_
        refine OpsFrom.nil ?_
        refine Holds.block ?_
        refine Holds.loop (fun (i2_ : Nat) => ⟨[(0, .one (.bs false .u8 text)), (4, .one (.b false)), (5, .one (.b true)), (6, .one (.p 6 0)), (7, .one (.p 7 0)), (9, .one (.n .i64 i2_))], [(6, .own (.ints .u8 ((one_it1 half 16).1))), (7, .own (.ints .i64 (one_it2 text half i2_)))]⟩) (fun (i2_ : Nat) => i2_ ≤ text.length) (fun (i2_ : Nat) => text.length - i2_) 0 (by first | (with_reducible assumption) | omega | (simp only [lens, one_it1_l0, one_it1_l1, one_it2_l, List.flatten_cons, List.flatten_nil, List.append_nil, List.length_cons, List.length_nil, Cs.len, List.length_map, List.length_set, List.length_replicate, *]; first | done | omega) | decide | (split <;> simp only [lens, one_it1_l0, one_it1_l1, one_it2_l, List.flatten_cons, List.flatten_nil, List.append_nil, List.length_cons, List.length_nil, Cs.len, List.length_map, List.length_set, List.length_replicate, *]) | (with_reducible exact Lt.mono (by assumption) (by decide))) [] ⟨⟨rfl, rfl, rfl, rfl, rfl, rfl, trivial⟩, ⟨rfl, (hEq (congrArg (fun (s : List Nat) => s) (one_it2_z text half)).symm), trivial⟩, rfl, rfl⟩ ?_
        intro i2_ k2_
        have hb2 := (one_2 l_half b_half b_text (by omega) i2_ (by omega)).2.1 i2_ (Nat.le_refl _)
        have ht2 := b_text i2_
        refine Holds.seq ?_
        refine Holds.seq ?_
        refine Holds.reg ?_
        refine OpsFrom.v (Y.move (up0 rfl rfl rfl) rfl rfl) rfl ?_
        refine OpsFrom.v (Y.move (up0 rfl rfl rfl) rfl rfl) rfl ?_
        refine OpsFrom.v (Y.len ty26 (up0 rfl rfl rfl) rfl rfl rfl rfl) rfl ?_
        refine OpsFrom.v (Y.lss (up0 rfl rfl rfl) rfl rfl rfl) rfl ?_
        refine OpsFrom.nil ?_
        refine Holds.condD rfl (fun h45 => ?_) (fun h45 => ?_)
        · refine Holds.skip ?_
          refine Holds.seq ?_
          refine Holds.block ?_
          refine Holds.dr mx [([48], [49, 50, 51, 52, 53, 54, 55, 56, 57]), ([49], [48, 52, 53, 54, 55, 56]), ([50], [48, 52, 53, 54, 55, 56]), ([51], [48, 52, 53, 54, 55, 56]), ([52], [48, 49, 50, 51, 53]), ([53], [48, 49, 50, 51, 52]), ([54], [48, 49, 50, 51]), ([55], [48, 49, 50, 51]), ([56], [48, 49, 50, 51]), ([57], [48]), ([58], []), ([7], [])] (by kernel_rfl) ?_
          refine CertK.vd (Y.move (up0 rfl rfl rfl) rfl rfl) rfl rfl ?_
          refine CertK.vd (Y.move (up0 rfl rfl rfl) rfl rfl) rfl rfl ?_
          refine CertK.vd (Y.ia0 ty47 ty3 (up0 rfl rfl rfl) rfl rfl rfl (by first | (with_reducible assumption) | omega | (simp only [lens, one_it1_l0, one_it1_l1, one_it2_l, List.flatten_cons, List.flatten_nil, List.append_nil, List.length_cons, List.length_nil, Cs.len, List.length_map, List.length_set, List.length_replicate, *]; first | done | omega) | decide | (split <;> simp only [lens, one_it1_l0, one_it1_l1, one_it2_l, List.flatten_cons, List.flatten_nil, List.append_nil, List.length_cons, List.length_nil, Cs.len, List.length_map, List.length_set, List.length_replicate, *]) | (with_reducible exact Lt.mono (by assumption) (by decide)))) rfl rfl ?_
          refine CertK.vd (Y.ldI ty3 rfl (up0 rfl rfl rfl) rfl rfl rfl (by first | (with_reducible assumption) | omega | (simp only [lens, one_it1_l0, one_it1_l1, one_it2_l, List.flatten_cons, List.flatten_nil, List.append_nil, List.length_cons, List.length_nil, Cs.len, List.length_map, List.length_set, List.length_replicate, *]; first | done | omega) | decide | (split <;> simp only [lens, one_it1_l0, one_it1_l1, one_it2_l, List.flatten_cons, List.flatten_nil, List.append_nil, List.length_cons, List.length_nil, Cs.len, List.length_map, List.length_set, List.length_replicate, *]) | (with_reducible exact Lt.mono (by assumption) (by decide)))) rfl rfl ?_
          refine CertK.vd (Y.move (up0 rfl rfl rfl) rfl rfl) rfl rfl ?_
          refine CertK.vd (Y.move (up0 rfl rfl rfl) rfl rfl) rfl rfl ?_
          refine CertK.vd (Y.iaBs ty26 ty5 (up0 rfl rfl rfl) rfl rfl rfl (by first | (with_reducible assumption) | omega | (simp only [lens, one_it1_l0, one_it1_l1, one_it2_l, List.flatten_cons, List.flatten_nil, List.append_nil, List.length_cons, List.length_nil, Cs.len, List.length_map, List.length_set, List.length_replicate, *]; first | done | omega) | decide | (split <;> simp only [lens, one_it1_l0, one_it1_l1, one_it2_l, List.flatten_cons, List.flatten_nil, List.append_nil, List.length_cons, List.length_nil, Cs.len, List.length_map, List.length_set, List.length_replicate, *]) | (with_reducible exact Lt.mono (by assumption) (by decide)))) rfl rfl ?_
          refine CertK.vd (Y.ldPc ty5 rfl (up0 rfl rfl rfl) rfl rfl) rfl rfl ?_
          refine CertK.vd (Y.convUpI ty5.u ty3.u rfl (by decide) (up0 rfl rfl rfl) rfl rfl) rfl rfl ?_
          refine CertK.vd (Y.addI (up0 rfl rfl rfl) rfl rfl rfl (by first | (with_reducible assumption) | omega | (simp only [lens, one_it1_l0, one_it1_l1, one_it2_l, List.flatten_cons, List.flatten_nil, List.append_nil, List.length_cons, List.length_nil, Cs.len, List.length_map, List.length_set, List.length_replicate, *]; first | done | omega) | decide | (split <;> simp only [lens, one_it1_l0, one_it1_l1, one_it2_l, List.flatten_cons, List.flatten_nil, List.append_nil, List.length_cons, List.length_nil, Cs.len, List.length_map, List.length_set, List.length_replicate, *]) | (with_reducible exact Lt.mono (by assumption) (by decide)))) rfl rfl ?_
          refine CertK.v (Y.ia0 ty47 ty3 (up0 rfl rfl rfl) rfl rfl rfl (by first | (with_reducible assumption) | omega | (simp only [lens, one_it1_l0, one_it1_l1, one_it2_l, List.flatten_cons, List.flatten_nil, List.append_nil, List.length_cons, List.length_nil, Cs.len, List.length_map, List.length_set, List.length_replicate, *]; first | done | omega) | decide | (split <;> simp only [lens, one_it1_l0, one_it1_l1, one_it2_l, List.flatten_cons, List.flatten_nil, List.append_nil, List.length_cons, List.length_nil, Cs.len, List.length_map, List.length_set, List.length_replicate, *]) | (with_reducible exact Lt.mono (by assumption) (by decide)))) rfl ?_
          refine CertK.n (Y.stI ty3 (upN rfl rfl) rfl rfl rfl rfl (by first | (with_reducible assumption) | omega | (simp only [lens, one_it1_l0, one_it1_l1, one_it2_l, List.flatten_cons, List.flatten_nil, List.append_nil, List.length_cons, List.length_nil, Cs.len, List.length_map, List.length_set, List.length_replicate, *]; first | done | omega) | decide | (split <;> simp only [lens, one_it1_l0, one_it1_l1, one_it2_l, List.flatten_cons, List.flatten_nil, List.append_nil, List.length_cons, List.length_nil, Cs.len, List.length_map, List.length_set, List.length_replicate, *]) | (with_reducible exact Lt.mono (by assumption) (by decide)))) rfl rfl rfl rfl ?_
          refine CertK.nil ?_
          refine Holds.reg ?_
          refine OpsFrom.v (Y.move (up0 rfl rfl rfl) rfl rfl) rfl ?_
          refine OpsFrom.v (Y.addI (b := 1) (up0 rfl rfl rfl) rfl rfl rfl (by first | (with_reducible assumption) | omega | (simp only [lens, one_it1_l0, one_it1_l1, one_it2_l, List.flatten_cons, List.flatten_nil, List.append_nil, List.length_cons, List.length_nil, Cs.len, List.length_map, List.length_set, List.length_replicate, *]; first | done | omega) | decide | (split <;> simp only [lens, one_it1_l0, one_it1_l1, one_it2_l, List.flatten_cons, List.flatten_nil, List.append_nil, List.length_cons, List.length_nil, Cs.len, List.length_map, List.length_set, List.length_replicate, *]) | (with_reducible exact Lt.mono (by assumption) (by decide)))) rfl ?_
          refine OpsFrom.v (Y.assign (up0 rfl rfl rfl) rfl rfl) rfl ?_
          refine OpsFrom.nil ?_
          exact Holds.again (i2_ + 1) (by omega) (by omega) [] ⟨⟨rfl, rfl, rfl, rfl, rfl, (nEq (by omega)), trivial⟩, ⟨rfl, (hEq (by rw [one_it2_s]; unfold one_s2; first | (dsimp only; done) | rfl)), trivial⟩, rfl, rfl⟩
        · obtain rfl : i2_ = text.length := by omega
          have hb2 := (one_2 l_half b_half b_text (by omega) text.length (by omega)).1 text.length
          refine Holds.exit ?_
          refine Holds.seq ?_
          refine Holds.reg ?_
          refine OpsFrom.v (Y.move (up0 rfl rfl rfl) rfl rfl) rfl ?_
          refine OpsFrom.v (Y.len ty26 (up0 rfl rfl rfl) rfl rfl rfl rfl) rfl ?_
          refine OpsFrom.v (Y.move (up0 rfl rfl rfl) rfl rfl) rfl ?_
          refine OpsFrom.v (Y.len ty26 (up0 rfl rfl rfl) rfl rfl rfl rfl) rfl ?_
          refine OpsFrom.v (Y.ia0 ty47 ty3 (up0 rfl rfl rfl) rfl rfl rfl (by first | (with_reducible assumption) | omega | (simp only [lens, one_it1_l0, one_it1_l1, one_it2_l, List.flatten_cons, List.flatten_nil, List.append_nil, List.length_cons, List.length_nil, Cs.len, List.length_map, List.length_set, List.length_replicate, *]; first | done | omega) | decide | (split <;> simp only [lens, one_it1_l0, one_it1_l1, one_it2_l, List.flatten_cons, List.flatten_nil, List.append_nil, List.length_cons, List.length_nil, Cs.len, List.length_map, List.length_set, List.length_replicate, *]) | (with_reducible exact Lt.mono (by assumption) (by decide)))) rfl ?_
          refine OpsFrom.v (Y.ldI ty3 rfl (up0 rfl rfl rfl) rfl rfl rfl (by first | (with_reducible assumption) | omega | (simp only [lens, one_it1_l0, one_it1_l1, one_it2_l, List.flatten_cons, List.flatten_nil, List.append_nil, List.length_cons, List.length_nil, Cs.len, List.length_map, List.length_set, List.length_replicate, *]; first | done | omega) | decide | (split <;> simp only [lens, one_it1_l0, one_it1_l1, one_it2_l, List.flatten_cons, List.flatten_nil, List.append_nil, List.length_cons, List.length_nil, Cs.len, List.length_map, List.length_set, List.length_replicate, *]) | (with_reducible exact Lt.mono (by assumption) (by decide)))) rfl ?_
          refine OpsFrom.v (Y.addI (b := 1) (up0 rfl rfl rfl) rfl rfl rfl (by first | (with_reducible assumption) | omega | (simp only [lens, one_it1_l0, one_it1_l1, one_it2_l, List.flatten_cons, List.flatten_nil, List.append_nil, List.length_cons, List.length_nil, Cs.len, List.length_map, List.length_set, List.length_replicate, *]; first | done | omega) | decide | (split <;> simp only [lens, one_it1_l0, one_it1_l1, one_it2_l, List.flatten_cons, List.flatten_nil, List.append_nil, List.length_cons, List.length_nil, Cs.len, List.length_map, List.length_set, List.length_replicate, *]) | (with_reducible exact Lt.mono (by assumption) (by decide)))) rfl ?_
          refine OpsFrom.v (Y.ia0 ty47 ty3 (up0 rfl rfl rfl) rfl rfl rfl (by first | (with_reducible assumption) | omega | (simp only [lens, one_it1_l0, one_it1_l1, one_it2_l, List.flatten_cons, List.flatten_nil, List.append_nil, List.length_cons, List.length_nil, Cs.len, List.length_map, List.length_set, List.length_replicate, *]; first | done | omega) | decide | (split <;> simp only [lens, one_it1_l0, one_it1_l1, one_it2_l, List.flatten_cons, List.flatten_nil, List.append_nil, List.length_cons, List.length_nil, Cs.len, List.length_map, List.length_set, List.length_replicate, *]) | (with_reducible exact Lt.mono (by assumption) (by decide)))) rfl ?_
          refine OpsFrom.n (Y.stI ty3 (upN rfl rfl) rfl rfl rfl rfl (by first | (with_reducible assumption) | omega | (simp only [lens, one_it1_l0, one_it1_l1, one_it2_l, List.flatten_cons, List.flatten_nil, List.append_nil, List.length_cons, List.length_nil, Cs.len, List.length_map, List.length_set, List.length_replicate, *]; first | done | omega) | decide | (split <;> simp only [lens, one_it1_l0, one_it1_l1, one_it2_l, List.flatten_cons, List.flatten_nil, List.append_nil, List.length_cons, List.length_nil, Cs.len, List.length_map, List.length_set, List.length_replicate, *]) | (with_reducible exact Lt.mono (by assumption) (by decide)))) rfl rfl ?_
          refine OpsFrom.nil ?_
          rw [show ((one_it2 text half text.length).set text.length (((one_it2 text half text.length).getD text.length 0) + 1)) = (one_sum text half) from rfl]
          refine Holds.seq ?_
          refine Holds.reg ?_
          refine OpsFrom.v (Y.ldAll ty23 rfl (up0 rfl rfl rfl) rfl rfl rfl (by first | (with_reducible assumption) | omega | (simp only [lens, one_it1_l0, one_it1_l1, one_it2_l, one_sum_len, List.flatten_cons, List.flatten_nil, List.append_nil, List.length_cons, List.length_nil, Cs.len, List.length_map, List.length_set, List.length_replicate, *]; first | done | omega) | decide | (split <;> simp only [lens, one_it1_l0, one_it1_l1, one_it2_l, one_sum_len, List.flatten_cons, List.flatten_nil, List.append_nil, List.length_cons, List.length_nil, Cs.len, List.length_map, List.length_set, List.length_replicate, *]) | (with_reducible exact Lt.mono (by assumption) (by decide))) (by decide)) rfl ?_
          refine OpsFrom.v (Y.move (up0 rfl rfl rfl) rfl rfl) rfl ?_
          refine OpsFrom.u (Y.bldS (d := 69) ty39 ty26 rfl (up0 rfl rfl rfl) rfl (.mix (List.replicate 1 (.nil))) rfl rfl rfl rfl (by decide) (by decide) (.cons _ _ _ _ _ _ _ _ _ rfl rfl rfl rfl (Spl.m (by first | decide | (simp; done))) (.nil _))) rfl rfl rfl ?_
          refine OpsFrom.v (Y.callV (w_ptag _ _ (one_k l_half b_half).1 (by first | (with_reducible assumption) | omega | (simp only [lens, one_it1_l0, one_it1_l1, one_it2_l, one_sum_len, ptag_len, List.flatten_cons, List.flatten_nil, List.append_nil, List.length_cons, List.length_nil, Cs.len, List.length_map, List.length_set, List.length_replicate, *]; first | done | omega) | decide | (split <;> simp only [lens, one_it1_l0, one_it1_l1, one_it2_l, one_sum_len, ptag_len, List.flatten_cons, List.flatten_nil, List.append_nil, List.length_cons, List.length_nil, Cs.len, List.length_map, List.length_set, List.length_replicate, *]) | (with_reducible exact Lt.mono (by assumption) (by decide))) (by first | (with_reducible assumption) | omega | (simp only [lens, one_it1_l0, one_it1_l1, one_it2_l, one_sum_len, ptag_len, List.flatten_cons, List.flatten_nil, List.append_nil, List.length_cons, List.length_nil, Cs.len, List.length_map, List.length_set, List.length_replicate, *]; first | done | omega) | decide | (split <;> simp only [lens, one_it1_l0, one_it1_l1, one_it2_l, one_sum_len, ptag_len, List.flatten_cons, List.flatten_nil, List.append_nil, List.length_cons, List.length_nil, Cs.len, List.length_map, List.length_set, List.length_replicate, *]) | (with_reducible exact Lt.mono (by assumption) (by decide)))) fnok32 (up0 rfl rfl rfl) rfl rfl (.cons _ _ _ _ rfl (.cons _ _ _ _ rfl .nil)) (.cons _ _ _ _ (.same _) (.cons _ _ _ _ (.sgsL rfl (.cons _ _ _ _ (.same _) .nil) rfl) .nil)) rfl rfl) rfl ?_
          refine OpsFrom.u (Y.alloc (d := 10) ty35 rfl rfl (up0 rfl rfl rfl) rfl) rfl rfl rfl ?_
          refine OpsFrom.n (Y.stR ty35 (upN rfl rfl) rfl rfl rfl rfl rfl (by first | (with_reducible assumption) | omega | (simp only [lens, one_it1_l0, one_it1_l1, one_it2_l, one_sum_len, ptag_len, List.flatten_cons, List.flatten_nil, List.append_nil, List.length_cons, List.length_nil, Cs.len, List.length_map, List.length_set, List.length_replicate, *]; first | done | omega) | decide | (split <;> simp only [lens, one_it1_l0, one_it1_l1, one_it2_l, one_sum_len, ptag_len, List.flatten_cons, List.flatten_nil, List.append_nil, List.length_cons, List.length_nil, Cs.len, List.length_map, List.length_set, List.length_replicate, *]) | (with_reducible exact Lt.mono (by assumption) (by decide))) (by first | (with_reducible assumption) | omega | (simp only [lens, one_it1_l0, one_it1_l1, one_it2_l, one_sum_len, ptag_len, List.flatten_cons, List.flatten_nil, List.append_nil, List.length_cons, List.length_nil, Cs.len, List.length_map, List.length_set, List.length_replicate, *]; first | done | omega) | decide | (split <;> simp only [lens, one_it1_l0, one_it1_l1, one_it2_l, one_sum_len, ptag_len, List.flatten_cons, List.flatten_nil, List.append_nil, List.length_cons, List.length_nil, Cs.len, List.length_map, List.length_set, List.length_replicate, *]) | (with_reducible exact Lt.mono (by assumption) (by decide))) (by decide)) rfl rfl ?_
          refine OpsFrom.nil ?_
          refine Holds.seq ?_
          refine Holds.reg ?_
          refine OpsFrom.v (Y.assign (v := (.one (.n .i64 0))) (up0 rfl rfl rfl) rfl rfl) rfl ?_
          refine OpsFrom.nil ?_
          refine Holds.seq ?_
          refine Holds.seq ?_
          refine Holds.reg ?_
          refine OpsFrom.v (Y.assign (v := (.one (.n .i64 0))) (up0 rfl rfl rfl) rfl rfl) rfl ?_
          refine OpsFrom.nil ?_
          refine Holds.block ?_
          refine Holds.loop (fun (i3_ : Nat) => ⟨[(4, .one (.b false)), (5, .one (.b true)), (7, .one (.p 7 0)), (10, .one (.p 10 0)), (11, .one (.n .i64 (one_it3 text half i3_))), (12, .one (.n .i64 i3_))], [(7, .own (.ints .i64 (one_sum text half))), (10, .own (.ints .u8 (ptag ((one_it1 half 16).1) [text])))]⟩) (fun (i3_ : Nat) => i3_ ≤ 16) (fun (i3_ : Nat) => 16 - i3_) 0 (by first | (with_reducible assumption) | omega | (simp only [lens, one_it1_l0, one_it1_l1, one_it2_l, one_sum_len, ptag_len, List.flatten_cons, List.flatten_nil, List.append_nil, List.length_cons, List.length_nil, Cs.len, List.length_map, List.length_set, List.length_replicate, *]; first | done | omega) | decide | (split <;> simp only [lens, one_it1_l0, one_it1_l1, one_it2_l, one_sum_len, ptag_len, List.flatten_cons, List.flatten_nil, List.append_nil, List.length_cons, List.length_nil, Cs.len, List.length_map, List.length_set, List.length_replicate, *]) | (with_reducible exact Lt.mono (by assumption) (by decide))) [] ⟨⟨rfl, rfl, rfl, rfl, (nEq (congrArg (fun (s : Nat) => s) (one_it3_z text half)).symm), rfl, trivial⟩, ⟨rfl, rfl, trivial⟩, rfl, rfl⟩ ?_
          intro i3_ k3_
          have hs3 := (one_sv l_half b_half b_text (by omega)).1 i3_
          have hc3 := one_b l_half b_half b_text (by omega) i3_
          refine Holds.seq ?_
          refine Holds.seq ?_
          refine Holds.reg ?_
          refine OpsFrom.v (Y.move (up0 rfl rfl rfl) rfl rfl) rfl ?_
          refine OpsFrom.v (Y.lss (b := 16) (up0 rfl rfl rfl) rfl rfl rfl) rfl ?_
          refine OpsFrom.nil ?_
          refine Holds.condD rfl (fun h72 => ?_) (fun h72 => ?_)
          · refine Holds.skip ?_
            refine Holds.seq ?_
            refine Holds.block ?_
            refine Holds.seq ?_
            refine Holds.reg ?_
            refine OpsFrom.v (Y.move (up0 rfl rfl rfl) rfl rfl) rfl ?_
            refine OpsFrom.v (Y.ia0 ty47 ty3 (up0 rfl rfl rfl) rfl rfl rfl (by first | (with_reducible assumption) | omega | (simp only [lens, one_it1_l0, one_it1_l1, one_it2_l, one_sum_len, ptag_len, List.flatten_cons, List.flatten_nil, List.append_nil, List.length_cons, List.length_nil, Cs.len, List.length_map, List.length_set, List.length_replicate, *]; first | done | omega) | decide | (split <;> simp only [lens, one_it1_l0, one_it1_l1, one_it2_l, one_sum_len, ptag_len, List.flatten_cons, List.flatten_nil, List.append_nil, List.length_cons, List.length_nil, Cs.len, List.length_map, List.length_set, List.length_replicate, *]) | (with_reducible exact Lt.mono (by assumption) (by decide)))) rfl ?_
            refine OpsFrom.v (Y.ldI ty3 rfl (up0 rfl rfl rfl) rfl rfl rfl (by first | (with_reducible assumption) | omega | (simp only [lens, one_it1_l0, one_it1_l1, one_it2_l, one_sum_len, ptag_len, List.flatten_cons, List.flatten_nil, List.append_nil, List.length_cons, List.length_nil, Cs.len, List.length_map, List.length_set, List.length_replicate, *]; first | done | omega) | decide | (split <;> simp only [lens, one_it1_l0, one_it1_l1, one_it2_l, one_sum_len, ptag_len, List.flatten_cons, List.flatten_nil, List.append_nil, List.length_cons, List.length_nil, Cs.len, List.length_map, List.length_set, List.length_replicate, *]) | (with_reducible exact Lt.mono (by assumption) (by decide)))) rfl ?_
            refine OpsFrom.v (Y.move (up0 rfl rfl rfl) rfl rfl) rfl ?_
            refine OpsFrom.v (Y.addI (up0 rfl rfl rfl) rfl rfl rfl (by first | (with_reducible assumption) | omega | (simp only [lens, one_it1_l0, one_it1_l1, one_it2_l, one_sum_len, ptag_len, List.flatten_cons, List.flatten_nil, List.append_nil, List.length_cons, List.length_nil, Cs.len, List.length_map, List.length_set, List.length_replicate, *]; first | done | omega) | decide | (split <;> simp only [lens, one_it1_l0, one_it1_l1, one_it2_l, one_sum_len, ptag_len, List.flatten_cons, List.flatten_nil, List.append_nil, List.length_cons, List.length_nil, Cs.len, List.length_map, List.length_set, List.length_replicate, *]) | (with_reducible exact Lt.mono (by assumption) (by decide)))) rfl ?_
            refine OpsFrom.v (Y.assign (up0 rfl rfl rfl) rfl rfl) rfl ?_
            refine OpsFrom.nil ?_
            refine Holds.seq ?_
            refine Holds.seq ?_
            refine Holds.reg ?_
            refine OpsFrom.v (Y.move (up0 rfl rfl rfl) rfl rfl) rfl ?_
            refine OpsFrom.v (Y.ia0 ty35 ty5 (up0 rfl rfl rfl) rfl rfl rfl (by first | (with_reducible assumption) | omega | (simp only [lens, one_it1_l0, one_it1_l1, one_it2_l, one_sum_len, ptag_len, List.flatten_cons, List.flatten_nil, List.append_nil, List.length_cons, List.length_nil, Cs.len, List.length_map, List.length_set, List.length_replicate, *]; first | done | omega) | decide | (split <;> simp only [lens, one_it1_l0, one_it1_l1, one_it2_l, one_sum_len, ptag_len, List.flatten_cons, List.flatten_nil, List.append_nil, List.length_cons, List.length_nil, Cs.len, List.length_map, List.length_set, List.length_replicate, *]) | (with_reducible exact Lt.mono (by assumption) (by decide)))) rfl ?_
            refine OpsFrom.v (Y.ldI ty5 rfl (up0 rfl rfl rfl) rfl rfl rfl (by first | (with_reducible assumption) | omega | (simp only [lens, one_it1_l0, one_it1_l1, one_it2_l, one_sum_len, ptag_len, List.flatten_cons, List.flatten_nil, List.append_nil, List.length_cons, List.length_nil, Cs.len, List.length_map, List.length_set, List.length_replicate, *]; first | done | omega) | decide | (split <;> simp only [lens, one_it1_l0, one_it1_l1, one_it2_l, one_sum_len, ptag_len, List.flatten_cons, List.flatten_nil, List.append_nil, List.length_cons, List.length_nil, Cs.len, List.length_map, List.length_set, List.length_replicate, *]) | (with_reducible exact Lt.mono (by assumption) (by decide)))) rfl ?_
            refine OpsFrom.v (Y.move (up0 rfl rfl rfl) rfl rfl) rfl ?_
            refine OpsFrom.v (Y.rem (b := 256) (up0 rfl rfl rfl) rfl rfl rfl (by decide)) rfl ?_
            refine OpsFrom.v (Y.conv ty3.u ty5.u u8s u8m (up0 rfl rfl rfl) rfl rfl) rfl ?_
            refine OpsFrom.v (Y.neq (up0 rfl rfl rfl) rfl rfl rfl) rfl ?_
            refine OpsFrom.nil ?_
            refine Holds.condDF rfl (decide_eq_false (not_not_intro (one_d l_half b_half b_text (by first | (with_reducible assumption) | omega | (simp only [lens, one_it1_l0, one_it1_l1, one_it2_l, one_sum_len, ptag_len, List.flatten_cons, List.flatten_nil, List.append_nil, List.length_cons, List.length_nil, Cs.len, List.length_map, List.length_set, List.length_replicate, *]; first | done | omega) | decide | (split <;> simp only [lens, one_it1_l0, one_it1_l1, one_it2_l, one_sum_len, ptag_len, List.flatten_cons, List.flatten_nil, List.append_nil, List.length_cons, List.length_nil, Cs.len, List.length_map, List.length_set, List.length_replicate, *]) | (with_reducible exact Lt.mono (by assumption) (by decide))) (by first | (with_reducible assumption) | omega | (simp only [lens, one_it1_l0, one_it1_l1, one_it2_l, one_sum_len, ptag_len, List.flatten_cons, List.flatten_nil, List.append_nil, List.length_cons, List.length_nil, Cs.len, List.length_map, List.length_set, List.length_replicate, *]; first | done | omega) | decide | (split <;> simp only [lens, one_it1_l0, one_it1_l1, one_it2_l, one_sum_len, ptag_len, List.flatten_cons, List.flatten_nil, List.append_nil, List.length_cons, List.length_nil, Cs.len, List.length_map, List.length_set, List.length_replicate, *]) | (with_reducible exact Lt.mono (by assumption) (by decide))) (by first | (with_reducible assumption) | omega | (simp only [lens, one_it1_l0, one_it1_l1, one_it2_l, one_sum_len, ptag_len, List.flatten_cons, List.flatten_nil, List.append_nil, List.length_cons, List.length_nil, Cs.len, List.length_map, List.length_set, List.length_replicate, *]; first | done | omega) | decide | (split <;> simp only [lens, one_it1_l0, one_it1_l1, one_it2_l, one_sum_len, ptag_len, List.flatten_cons, List.flatten_nil, List.append_nil, List.length_cons, List.length_nil, Cs.len, List.length_map, List.length_set, List.length_replicate, *]) | (with_reducible exact Lt.mono (by assumption) (by decide)))))) ?_
            refine Holds.skip ?_
            refine Holds.reg ?_
            refine OpsFrom.v (Y.move (up0 rfl rfl rfl) rfl rfl) rfl ?_
            refine OpsFrom.v (Y.quoI (b := 256) (up0 rfl rfl rfl) rfl rfl rfl (by first | (with_reducible assumption) | omega | (simp only [lens, one_it1_l0, one_it1_l1, one_it2_l, one_sum_len, ptag_len, List.flatten_cons, List.flatten_nil, List.append_nil, List.length_cons, List.length_nil, Cs.len, List.length_map, List.length_set, List.length_replicate, *]; first | done | omega) | decide | (split <;> simp only [lens, one_it1_l0, one_it1_l1, one_it2_l, one_sum_len, ptag_len, List.flatten_cons, List.flatten_nil, List.append_nil, List.length_cons, List.length_nil, Cs.len, List.length_map, List.length_set, List.length_replicate, *]) | (with_reducible exact Lt.mono (by assumption) (by decide))) (by decide)) rfl ?_
            refine OpsFrom.v (Y.assign (up0 rfl rfl rfl) rfl rfl) rfl ?_
            refine OpsFrom.nil ?_
            refine Holds.reg ?_
            refine OpsFrom.v (Y.move (up0 rfl rfl rfl) rfl rfl) rfl ?_
            refine OpsFrom.v (Y.addI (b := 1) (up0 rfl rfl rfl) rfl rfl rfl (by first | (with_reducible assumption) | omega | (simp only [lens, one_it1_l0, one_it1_l1, one_it2_l, one_sum_len, ptag_len, List.flatten_cons, List.flatten_nil, List.append_nil, List.length_cons, List.length_nil, Cs.len, List.length_map, List.length_set, List.length_replicate, *]; first | done | omega) | decide | (split <;> simp only [lens, one_it1_l0, one_it1_l1, one_it2_l, one_sum_len, ptag_len, List.flatten_cons, List.flatten_nil, List.append_nil, List.length_cons, List.length_nil, Cs.len, List.length_map, List.length_set, List.length_replicate, *]) | (with_reducible exact Lt.mono (by assumption) (by decide)))) rfl ?_
            refine OpsFrom.v (Y.assign (up0 rfl rfl rfl) rfl rfl) rfl ?_
            refine OpsFrom.nil ?_
            exact Holds.again (i3_ + 1) (by omega) (by omega) [] ⟨⟨rfl, rfl, rfl, rfl, (nEq (by rw [one_it3_s]; unfold one_s3; first | (dsimp only; done) | rfl)), (nEq (by omega)), trivial⟩, ⟨rfl, rfl, trivial⟩, rfl, rfl⟩
          · obtain rfl : i3_ = 16 := by omega
            refine Holds.exit ?_
            refine Holds.seq ?_
            refine Holds.reg ?_
            refine OpsFrom.v (Y.move (up0 rfl rfl rfl) rfl rfl) rfl ?_
            refine OpsFrom.v (Y.assign (up0 rfl rfl rfl) rfl rfl) rfl ?_
            refine OpsFrom.nil ?_
            refine Holds.ret ?_
            exact Holds.ret1 (.inl rfl) rfl (.tmp _ _ rfl) (.same _) rfl
  · by_cases a2_3 : (text.length = 0)
    · refine Holds.reg ?_
      refine OpsFrom.v (Y.move (up0 rfl rfl rfl) rfl rfl) rfl ?_
      refine OpsFrom.v (Y.len ty26 (up0 rfl rfl rfl) rfl rfl rfl rfl) rfl ?_
      refine OpsFrom.v (Y.eql (b := 0) (up0 rfl rfl rfl) rfl rfl rfl) rfl ?_
      refine OpsFrom.v (Doing.isB (c := true) (decide_eq_true a2_3) (Y.move (up0 rfl rfl rfl) rfl rfl)) rfl ?_
      refine OpsFrom.v (Doing.skip _ _ _ _ rfl rfl rfl rfl (dlt rfl (Nat.le_of_ble_eq_true rfl))) rfl ?_
      refine OpsFrom.v (Doing.skip _ _ _ _ rfl rfl rfl rfl (dlt rfl (Nat.le_of_ble_eq_true rfl))) rfl ?_
      refine OpsFrom.v (Doing.skip _ _ _ _ rfl rfl rfl rfl (dlt rfl (Nat.le_of_ble_eq_true rfl))) rfl ?_
      refine OpsFrom.v (Y.pickT (up0 rfl rfl rfl) rfl rfl rfl) rfl ?_
      refine OpsFrom.nil ?_
      exact join _ [] ⟨⟨rfl, rfl, rfl, rfl, (bEq (by simp [a2_3])), trivial⟩, ⟨rfl, trivial⟩, rfl, rfl⟩
    · refine Holds.reg ?_
      refine OpsFrom.v (Y.move (up0 rfl rfl rfl) rfl rfl) rfl ?_
      refine OpsFrom.v (Y.len ty26 (up0 rfl rfl rfl) rfl rfl rfl rfl) rfl ?_
      refine OpsFrom.v (Y.eql (b := 0) (up0 rfl rfl rfl) rfl rfl rfl) rfl ?_
      refine OpsFrom.v (Doing.isB (c := false) (decide_eq_false a2_3) (Y.move (up0 rfl rfl rfl) rfl rfl)) rfl ?_
      refine OpsFrom.v (Y.move (up1 rfl rfl rfl rfl rfl rfl) rfl rfl) rfl ?_
      refine OpsFrom.v (Y.len ty26 (up1 rfl rfl rfl rfl rfl rfl) rfl rfl rfl rfl) rfl ?_
      refine OpsFrom.v (Y.gtr (b := 15) (up1 rfl rfl rfl rfl rfl rfl) rfl rfl rfl) rfl ?_
      refine OpsFrom.v (Y.pickF (up0 rfl rfl rfl) rfl rfl rfl) rfl ?_
      refine OpsFrom.nil ?_
      exact join _ [] ⟨⟨rfl, rfl, rfl, rfl, (bEq (by simp [a2_3])), trivial⟩, ⟨rfl, trivial⟩, rfl, rfl⟩


end Go.Proofs.Ytkpelchcpiafaaa
