/-
  Walks: FieldBytes.
-/
import Derived.Test.YtnfiiclmbiiokaaXb
namespace Go.Proofs.Ytnfiiclmbiiokaa
open Go Go.Fx
set_option linter.unusedVariables false
set_option linter.unusedSimpArgs false
def fbl_s1 (a : List Nat) (i1_ : Nat) (m1_ : Bool) : Bool :=
  if m1_ = true then
    true
  else
    if ((a.getD 31 0) = 127) then
      decide ((a.getD (1 + i1_) 0) ≠ 255)
    else
      false
def fbl_it1 (a : List Nat) (i1_ : Nat) : Bool := iter (fbl_s1 a) i1_ (decide ((a.getD 31 0) < 127))
theorem fbl_it1_z (a : List Nat) : fbl_it1 a 0 = decide ((a.getD 31 0) < 127) := rfl
theorem fbl_it1_s (a : List Nat) (i1_ : Nat) : fbl_it1 a (i1_ + 1) = fbl_s1 a i1_ (fbl_it1 a i1_) := by unfold fbl_it1; exact iterS _ _ _
def fbl_s2 (a : List Nat) (i2_ : Nat) (m2_ : Bool) : Bool :=
  if m2_ = true then
    true
  else
    if (((fbytes (load a)).getD 31 0) = 127) then
      let v20_ : Bool := decide (((fbytes (load a)).getD (1 + i2_) 0) ≠ 255)
      v20_
    else
      false
def fbl_it2 (a : List Nat) (i2_ : Nat) : Bool := iter (fbl_s2 a) i2_ (decide (((fbytes (load a)).getD 31 0) < 127))
theorem fbl_it2_z (a : List Nat) : fbl_it2 a 0 = (decide (((fbytes (load a)).getD 31 0) < 127)) := rfl
theorem fbl_it2_s (a : List Nat) (i2_ : Nat) : fbl_it2 a (i2_ + 1) = fbl_s2 a i2_ (fbl_it2 a i2_) := by unfold fbl_it2; exact iterS _ _ _
theorem v255 : ∀ {xs : List Nat}, Lt 256 xs → ((∀ j, j < xs.length → xs.getD j 0 = 255) ↔ val 256 xs + 1 = 256 ^ xs.length)
  | [], _ => ⟨fun _ => rfl, fun _ j hj => absurd hj (Nat.not_lt_zero _)⟩
  | x :: xs, h => by
    have hx : x < 256 := h 0
    have ht : Lt 256 xs := fun j => h (j + 1)
    have ih := v255 ht
    have hv : val 256 xs < 256 ^ xs.length := ht.val_lt
    rw [val_cons, List.length_cons, Nat.pow_succ]
    generalize val 256 xs = v at *
    generalize 256 ^ xs.length = p at *
    constructor
    · intro hj
      have h0 : x = 255 := hj 0 (by simp)
      have h1 := ih.1 (fun j hj' => hj (j + 1) (by simpa using hj'))
      omega
    · intro e j hj
      have h0 : x = 255 := by omega
      have h1 := ih.2 (by omega)
      cases j with
      | zero => exact h0
      | succ j => exact h1 j (by simpa using hj)
theorem least_iff {b : List Nat} (hl : b.length = 32) (hb : Lt 256 b) : (b.getD 31 0 < 127 ∨ (b.getD 31 0 = 127 ∧ ((∃ j, j < 30 ∧ b.getD (1 + j) 0 ≠ 255) ∨ b.getD 0 0 < 237))) ↔ val 256 b < 57896044618658097711785492504343953926634992332820282019728792003956564819949 := by
  have e1 : val 256 b = b.getD 0 0 + 256 * (val 256 ((b.drop 1).take 30) + 256 ^ 30 * b.getD 31 0) := by
    rw [val_split 256 1 b (by omega), val_split 256 30 (b.drop 1) (by rw [List.length_drop]; omega)]
    have a1 : val 256 (b.take 1) = b.getD 0 0 := by
      have := val_take_succ (B := 256) (xs := b) (n := 0) (by omega)
      simpa [val_nil] using this
    have a2 : val 256 ((b.drop 1).drop 30) = b.getD 31 0 := by
      rw [List.drop_drop]
      have hd : b.drop (1 + 30) = [b.getD 31 0] := by
        apply Fx.ext_getD
        · rw [List.length_drop, hl]; rfl
        · intro j hj
          rw [List.length_drop, hl] at hj
          have : j = 0 := by omega
          subst this
          rw [getD_drop]
          rfl
      rw [hd]
      rfl
    rw [a1, a2, Nat.pow_one]
  have hM : ((b.drop 1).take 30).length = 30 := by rw [List.length_take, List.length_drop, hl]; rfl
  have hm := (hb.drop 1).take 30
  have h2 := v255 hm
  have h3 := hm.val_lt
  rw [hM] at h2 h3
  have h4 : (∃ j, j < 30 ∧ b.getD (1 + j) 0 ≠ 255) ↔ ¬ (∀ j, j < 30 → ((b.drop 1).take 30).getD j 0 = 255) := by
    have e : ∀ j, j < 30 → ((b.drop 1).take 30).getD j 0 = b.getD (1 + j) 0 := fun j hj => by rw [getD_take hj, getD_drop]
    constructor
    · rintro ⟨j, hj, hne⟩ hall
      exact hne ((e j hj).symm.trans (hall j hj))
    · intro hn
      apply Classical.byContradiction
      intro hx
      exact hn (fun j hj => (e j hj).trans (Classical.byContradiction fun k => hx ⟨j, hj, k⟩))
  rw [h4, h2, e1]
  have hy := hb 31
  have hx := hb 0
  generalize b.getD 31 0 = y at *
  generalize b.getD 0 0 = x at *
  generalize val 256 ((b.drop 1).take 30) = n at *
  rw [show (256 : Nat) ^ 30 = 1766847064778384329583297500742918515827483896875618958121606201292619776 from by decide +kernel] at *
  omega
theorem it1_iff (a : List Nat) : ∀ i, fbl_it1 a i = true ↔ (a.getD 31 0 < 127 ∨ (a.getD 31 0 = 127 ∧ ∃ j, j < i ∧ a.getD (1 + j) 0 ≠ 255))
  | 0 => by
    rw [fbl_it1_z, decide_eq_true_iff]
    constructor
    · exact .inl
    · rintro (h | ⟨_, j, hj, _⟩)
      · exact h
      · exact absurd hj (Nat.not_lt_zero _)
  | i + 1 => by
    have ih := it1_iff a i
    rw [fbl_it1_s]
    unfold fbl_s1
    by_cases h : fbl_it1 a i = true
    · rw [if_pos h]
      refine ⟨fun _ => ?_, fun _ => rfl⟩
      rcases ih.1 h with k | ⟨k, j, hj, k2⟩
      · exact .inl k
      · exact .inr ⟨k, j, by omega, k2⟩
    · rw [if_neg h]
      by_cases h7 : a.getD 31 0 = 127
      · rw [if_pos h7, decide_eq_true_iff]
        constructor
        · intro k; exact .inr ⟨h7, i, by omega, k⟩
        · rintro (k | ⟨k, j, hj, k2⟩)
          · omega
          · by_cases hji : j = i
            · subst hji; exact k2
            · exact absurd (ih.2 (.inr ⟨h7, j, by omega, k2⟩)) h
      · rw [if_neg h7]
        constructor
        · intro k; cases k
        · rintro (k | ⟨k, _⟩)
          · exact absurd (ih.2 (.inl k)) h
          · exact absurd k h7
theorem it2_eq (a : List Nat) : ∀ i, fbl_it2 a i = fbl_it1 (fbytes (load a)) i
  | 0 => rfl
  | i + 1 => by
    rw [fbl_it2_s, fbl_it1_s, it2_eq a i]
    unfold fbl_s1 fbl_s2
    rfl
theorem fb_low {b : List Nat} (hl : b.length = 32) (hb : Lt 256 b) : (fbl_it1 b 30 = true ∨ (b.getD 31 0 = 127 ∧ b.getD 0 0 < 237)) ↔ val 256 b < 57896044618658097711785492504343953926634992332820282019728792003956564819949 := by
  rw [← least_iff hl hb, it1_iff]
  constructor
  · rintro ((h | ⟨h, k⟩) | ⟨h, k⟩)
    · exact .inl h
    · exact .inr ⟨h, .inl k⟩
    · exact .inr ⟨h, .inr k⟩
  · rintro (h | ⟨h, k | k⟩)
    · exact .inl (.inl h)
    · exact .inl (.inr ⟨h, k⟩)
    · exact .inr ⟨h, k⟩
theorem fb_iff {a : List Nat} (hl : a.length = 32) (ha : Lt 256 a) : (decide (fbytes (load a) = a) == decide (fbl_it1 a 30 = true ∨ (a.getD 31 0 = 127 ∧ a.getD 0 0 < 237))) = true := by
  have h : (fbytes (load a) = a) ↔ (fbl_it1 a 30 = true ∨ (a.getD 31 0 = 127 ∧ a.getD 0 0 < 237)) := by
    rw [fb_low hl ha, bytes_load hl ha]
    constructor
    · intro e
      have e2 := congrArg (val 256) e
      rw [val_digs (by decide), Nat.mod_eq_of_lt (Nat.lt_trans (Nat.mod_lt _ (by decide)) (by decide))] at e2
      rw [← e2]
      exact Nat.mod_lt _ (by decide)
    · intro e
      rw [Nat.mod_eq_of_lt e, ← hl]
      exact digs_val (by decide) ha.mem
  rw [decide_eq_decide.2 h]
  exact beq_self_eq_true _
theorem fb_least {a : List Nat} (hl : a.length = 32) (ha : Lt 256 a) : decide (fbl_it2 a 30 = true ∨ ((fbytes (load a)).getD 31 0 = 127 ∧ (fbytes (load a)).getD 0 0 < 237)) = true := by
  obtain ⟨h1, h2⟩ := ld hl ha
  apply decide_eq_true
  rw [it2_eq, fb_low (fb_len h1) (fb_lt h1), fbytes_val h1, val_digs (by decide), Nat.mod_eq_of_lt (Nat.lt_trans (kv (load a)).isLt (by decide))]
  exact (kv (load a)).isLt
theorem w_fbl (a : List Nat) (l_a : a.length = 32) : VC Try.prog 4 [.row (.ints .u8 a)] (.one (.b true)) := by
  refine VC.go Try.func4 rfl Try.ntmps4 rfl rfl fun O w => ?_
  refine Holds.ltRow 0 rfl u8s u8m (fun ba => ?_)
  refine Holds.seq ?_
  refine Holds.reg ?_
  refine OpsFrom.u (Y.boxR (d := 1) (up0 rfl rfl rfl) rfl rfl rfl) rfl rfl rfl ?_
  refine OpsFrom.v (Y.assign (up0 rfl rfl rfl) rfl rfl) rfl ?_
  refine OpsFrom.nil ?_
  refine Holds.seq ?_
  refine Holds.reg ?_
  refine OpsFrom.v (Y.callV w_fawake fnok15 (up0 rfl rfl rfl) rfl rfl .nil .nil rfl rfl) rfl ?_
  refine OpsFrom.v (Y.assign (up0 rfl rfl rfl) rfl rfl) rfl ?_
  refine OpsFrom.nil ?_
  refine Holds.seq ?_
  refine Holds.reg ?_
  refine OpsFrom.v (Y.ldAll ty22 rfl (up0 rfl rfl rfl) rfl rfl rfl (by first | (with_reducible assumption) | omega | (simp only [lens, *]; first | done | omega) | decide | (split <;> simp only [lens, *]) | (with_reducible exact Lt.mono (by assumption) (by decide)) | (simp only [Cs.len]; done) | rfl) (by decide)) rfl ?_
  refine OpsFrom.v (Y.callV (w_load _ (by first | (with_reducible assumption) | omega | (simp only [lens, load_l, *]; first | done | omega) | decide | (split <;> simp only [lens, load_l, *]) | (with_reducible exact Lt.mono (by assumption) (by decide)) | (simp only [Cs.len]; done) | rfl)) fnok16 (up0 rfl rfl rfl) rfl rfl (.cons _ _ _ _ rfl .nil) (.cons _ _ _ _ (.same _) .nil) rfl rfl) rfl ?_
  refine OpsFrom.u (Y.alloc (d := 4) ty27 rfl rfl (up0 rfl rfl rfl) rfl) rfl rfl rfl ?_
  refine OpsFrom.n (Y.stR ty27 (upN rfl rfl) rfl rfl rfl rfl rfl (by first | (with_reducible assumption) | omega | (simp only [lens, load_l, *]; first | done | omega) | decide | (split <;> simp only [lens, load_l, *]) | (with_reducible exact Lt.mono (by assumption) (by decide)) | (simp only [Cs.len]; done) | rfl) (by first | (with_reducible assumption) | omega | (simp only [lens, load_l, *]; first | done | omega) | decide | (split <;> simp only [lens, load_l, *]) | (with_reducible exact Lt.mono (by assumption) (by decide)) | (simp only [Cs.len]; done) | rfl) (by decide)) rfl rfl ?_
  refine OpsFrom.nil ?_
  refine Holds.seq ?_
  refine Holds.reg ?_
  refine OpsFrom.v (Y.ldAll ty27 rfl (up0 rfl rfl rfl) rfl rfl rfl (by first | (with_reducible assumption) | omega | (simp only [lens, load_l, *]; first | done | omega) | decide | (split <;> simp only [lens, load_l, *]) | (with_reducible exact Lt.mono (by assumption) (by decide)) | (simp only [Cs.len]; done) | rfl) (by decide)) rfl ?_
  refine OpsFrom.v (Y.callV (w_fbytes _ (by first | (with_reducible assumption) | omega | (simp only [lens, load_l, fbytes_l, *]; first | done | omega) | decide | (split <;> simp only [lens, load_l, fbytes_l, *]) | (with_reducible exact Lt.mono (by assumption) (by decide)) | (simp only [Cs.len]; done) | rfl)) fnok19 (up0 rfl rfl rfl) rfl rfl (.cons _ _ _ _ rfl .nil) (.cons _ _ _ _ (.same _) .nil) rfl rfl) rfl ?_
  refine OpsFrom.u (Y.alloc (d := 5) ty22 rfl rfl (up0 rfl rfl rfl) rfl) rfl rfl rfl ?_
  refine OpsFrom.n (Y.stR ty22 (upN rfl rfl) rfl rfl rfl rfl rfl (by first | (with_reducible assumption) | omega | (simp only [lens, load_l, fbytes_l, *]; first | done | omega) | decide | (split <;> simp only [lens, load_l, fbytes_l, *]) | (with_reducible exact Lt.mono (by assumption) (by decide)) | (simp only [Cs.len]; done) | rfl) (by first | (with_reducible assumption) | omega | (simp only [lens, load_l, fbytes_l, *]; first | done | omega) | decide | (split <;> simp only [lens, load_l, fbytes_l, *]) | (with_reducible exact Lt.mono (by assumption) (by decide)) | (simp only [Cs.len]; done) | rfl) (by decide)) rfl rfl ?_
  refine OpsFrom.nil ?_
  refine Holds.seq ?_
  refine Holds.reg ?_
  refine OpsFrom.v (Y.ia0 (i := 31) ty22 ty5 (up0 rfl rfl rfl) rfl rfl rfl (by first | (with_reducible assumption) | omega | (simp only [lens, load_l, fbytes_l, *]; first | done | omega) | decide | (split <;> simp only [lens, load_l, fbytes_l, *]) | (with_reducible exact Lt.mono (by assumption) (by decide)) | (simp only [Cs.len]; done) | rfl)) rfl ?_
  refine OpsFrom.v (Y.ldI ty5 rfl (up0 rfl rfl rfl) rfl rfl rfl (by first | (with_reducible assumption) | omega | (simp only [lens, load_l, fbytes_l, *]; first | done | omega) | decide | (split <;> simp only [lens, load_l, fbytes_l, *]) | (with_reducible exact Lt.mono (by assumption) (by decide)) | (simp only [Cs.len]; done) | rfl)) rfl ?_
  refine OpsFrom.v (Y.lss (b := 127) (up0 rfl rfl rfl) rfl rfl rfl) rfl ?_
  refine OpsFrom.v (Y.assign (up0 rfl rfl rfl) rfl rfl) rfl ?_
  refine OpsFrom.nil ?_
  refine Holds.seq ?_
  refine Holds.seq ?_
  refine Holds.reg ?_
  refine OpsFrom.v (Y.assign (v := (.one (.n .i64 1))) (up0 rfl rfl rfl) rfl rfl) rfl ?_
  refine OpsFrom.nil ?_
  refine Holds.block ?_
  refine Holds.loop (fun (i1_ : Nat) => ⟨[(1, .one (.p 1 0)), (2, .one (.b false)), (3, .one (.b true)), (5, .one (.p 5 0)), (6, .one (.b (fbl_it1 a i1_))), (7, .one (.n .i64 (1 + i1_)))], [(1, .own (.ints .u8 a)), (5, .own (.ints .u8 (fbytes (load a))))]⟩) (fun (i1_ : Nat) => i1_ ≤ 30) (fun (i1_ : Nat) => 30 - i1_) 0 (by first | (with_reducible assumption) | omega | (simp only [lens, load_l, fbytes_l, *]; first | done | omega) | decide | (split <;> simp only [lens, load_l, fbytes_l, *]) | (with_reducible exact Lt.mono (by assumption) (by decide)) | (simp only [Cs.len]; done) | rfl) [] ⟨⟨rfl, rfl, rfl, rfl, (bEq (congrArg (fun (s : Bool) => s) (fbl_it1_z a)).symm), rfl, trivial⟩, ⟨rfl, rfl, trivial⟩, rfl, rfl⟩ ?_
  intro i1_ k1_
  refine Holds.seq ?_
  refine Holds.seq ?_
  refine Holds.reg ?_
  refine OpsFrom.v (Y.move (up0 rfl rfl rfl) rfl rfl) rfl ?_
  refine OpsFrom.v (Y.lss (b := 31) (up0 rfl rfl rfl) rfl rfl rfl) rfl ?_
  refine OpsFrom.nil ?_
  refine Holds.condD rfl (fun h19 => ?_) (fun h19 => ?_)
  · refine Holds.skip ?_
    refine Holds.seq ?_
    refine Holds.block ?_
    by_cases a8_1 : (fbl_it1 a i1_) = true
    · refine Holds.reg ?_
      refine OpsFrom.v (Y.move (up0 rfl rfl rfl) rfl rfl) rfl ?_
      refine OpsFrom.v (Doing.isB (c := true) a8_1 (Y.move (up0 rfl rfl rfl) rfl rfl)) rfl ?_
      refine OpsFrom.v (Doing.skip _ _ _ _ rfl rfl rfl rfl (dlt rfl (Nat.le_of_ble_eq_true rfl))) rfl ?_
      refine OpsFrom.v (Doing.skip _ _ _ _ rfl rfl rfl rfl (dlt rfl (Nat.le_of_ble_eq_true rfl))) rfl ?_
      refine OpsFrom.v (Doing.skip _ _ _ _ rfl rfl rfl rfl (dlt rfl (Nat.le_of_ble_eq_true rfl))) rfl ?_
      refine OpsFrom.v (Doing.skip _ _ _ _ rfl rfl rfl rfl (dlt rfl (Nat.le_of_ble_eq_true rfl))) rfl ?_
      refine OpsFrom.v (Doing.skipU _ _ _ _ rfl rfl rfl rfl (dlt rfl (Nat.le_of_ble_eq_true rfl))) rfl ?_
      refine OpsFrom.v (Doing.skipU _ _ _ _ rfl rfl rfl rfl (dlt rfl (Nat.le_of_ble_eq_true rfl))) rfl ?_
      refine OpsFrom.v (Doing.skipU _ _ _ _ rfl rfl rfl rfl (dlt rfl (Nat.le_of_ble_eq_true rfl))) rfl ?_
      refine OpsFrom.v (Doing.skipU _ _ _ _ rfl rfl rfl rfl (dlt rfl (Nat.le_of_ble_eq_true rfl))) rfl ?_
      refine OpsFrom.v (Doing.skip _ _ _ _ rfl rfl rfl rfl (dlt rfl (Nat.le_of_ble_eq_true rfl))) rfl ?_
      refine OpsFrom.v (Y.pickT (up0 rfl rfl rfl) rfl rfl rfl) rfl ?_
      refine OpsFrom.v (Y.assign (up0 rfl rfl rfl) rfl rfl) rfl ?_
      refine OpsFrom.nil ?_
      refine Holds.reg ?_
      refine OpsFrom.v (Y.move (up0 rfl rfl rfl) rfl rfl) rfl ?_
      refine OpsFrom.v (Y.addI (b := 1) (up0 rfl rfl rfl) rfl rfl rfl (by first | (with_reducible assumption) | omega | (simp only [lens, load_l, fbytes_l, *]; first | done | omega) | decide | (split <;> simp only [lens, load_l, fbytes_l, *]) | (with_reducible exact Lt.mono (by assumption) (by decide)) | (simp only [Cs.len]; done) | rfl)) rfl ?_
      refine OpsFrom.v (Y.assign (up0 rfl rfl rfl) rfl rfl) rfl ?_
      refine OpsFrom.nil ?_
      exact Holds.again (i1_ + 1) (by omega) (by omega) [] ⟨⟨rfl, rfl, rfl, rfl, (congrArg (fun (s : Bool) => some (.one (.b s) : AV)) ((fbl_it1_s a i1_).trans ((if_pos a8_1)))).symm, (nEq (by omega)), trivial⟩, ⟨rfl, rfl, trivial⟩, rfl, rfl⟩
    · by_cases a8_5 : ((a.getD 31 0) = 127)
      · refine Holds.reg ?_
        refine OpsFrom.v (Y.move (up0 rfl rfl rfl) rfl rfl) rfl ?_
        refine OpsFrom.v (Doing.isB (c := false) (by simpa using a8_1) (Y.move (up0 rfl rfl rfl) rfl rfl)) rfl ?_
        refine OpsFrom.v (Y.ia0 (i := 31) ty22 ty5 (up1 rfl rfl rfl rfl rfl rfl) rfl rfl rfl (by first | (with_reducible assumption) | omega | (simp only [lens, load_l, fbytes_l, *]; first | done | omega) | decide | (split <;> simp only [lens, load_l, fbytes_l, *]) | (with_reducible exact Lt.mono (by assumption) (by decide)) | (simp only [Cs.len]; done) | rfl)) rfl ?_
        refine OpsFrom.v (Y.ldI ty5 rfl (up1 rfl rfl rfl rfl rfl rfl) rfl rfl rfl (by first | (with_reducible assumption) | omega | (simp only [lens, load_l, fbytes_l, *]; first | done | omega) | decide | (split <;> simp only [lens, load_l, fbytes_l, *]) | (with_reducible exact Lt.mono (by assumption) (by decide)) | (simp only [Cs.len]; done) | rfl)) rfl ?_
        refine OpsFrom.v (Y.eql (b := 127) (up1 rfl rfl rfl rfl rfl rfl) rfl rfl rfl) rfl ?_
        refine OpsFrom.v (Doing.isB (c := true) (decide_eq_true a8_5) (Y.move (up1 rfl rfl rfl rfl rfl rfl) rfl rfl)) rfl ?_
        refine OpsFrom.v (Y.move (up1 rfl rfl rfl rfl rfl rfl) rfl rfl) rfl ?_
        refine OpsFrom.v (Y.ia0 ty22 ty5 (up1 rfl rfl rfl rfl rfl rfl) rfl rfl rfl (by first | (with_reducible assumption) | omega | (simp only [lens, load_l, fbytes_l, *]; first | done | omega) | decide | (split <;> simp only [lens, load_l, fbytes_l, *]) | (with_reducible exact Lt.mono (by assumption) (by decide)) | (simp only [Cs.len]; done) | rfl)) rfl ?_
        refine OpsFrom.v (Y.ldI ty5 rfl (up1 rfl rfl rfl rfl rfl rfl) rfl rfl rfl (by first | (with_reducible assumption) | omega | (simp only [lens, load_l, fbytes_l, *]; first | done | omega) | decide | (split <;> simp only [lens, load_l, fbytes_l, *]) | (with_reducible exact Lt.mono (by assumption) (by decide)) | (simp only [Cs.len]; done) | rfl)) rfl ?_
        refine OpsFrom.v (Y.neq (b := 255) (up1 rfl rfl rfl rfl rfl rfl) rfl rfl rfl) rfl ?_
        refine OpsFrom.v (Y.pickT (up1 rfl rfl rfl rfl rfl rfl) rfl rfl rfl) rfl ?_
        refine OpsFrom.v (Y.pickF (up0 rfl rfl rfl) rfl rfl rfl) rfl ?_
        refine OpsFrom.v (Y.assign (up0 rfl rfl rfl) rfl rfl) rfl ?_
        refine OpsFrom.nil ?_
        refine Holds.reg ?_
        refine OpsFrom.v (Y.move (up0 rfl rfl rfl) rfl rfl) rfl ?_
        refine OpsFrom.v (Y.addI (b := 1) (up0 rfl rfl rfl) rfl rfl rfl (by first | (with_reducible assumption) | omega | (simp only [lens, load_l, fbytes_l, *]; first | done | omega) | decide | (split <;> simp only [lens, load_l, fbytes_l, *]) | (with_reducible exact Lt.mono (by assumption) (by decide)) | (simp only [Cs.len]; done) | rfl)) rfl ?_
        refine OpsFrom.v (Y.assign (up0 rfl rfl rfl) rfl rfl) rfl ?_
        refine OpsFrom.nil ?_
        exact Holds.again (i1_ + 1) (by omega) (by omega) [] ⟨⟨rfl, rfl, rfl, rfl, (congrArg (fun (s : Bool) => some (.one (.b s) : AV)) ((fbl_it1_s a i1_).trans ((if_neg a8_1).trans (if_pos a8_5)))).symm, (nEq (by omega)), trivial⟩, ⟨rfl, rfl, trivial⟩, rfl, rfl⟩
      · refine Holds.reg ?_
        refine OpsFrom.v (Y.move (up0 rfl rfl rfl) rfl rfl) rfl ?_
        refine OpsFrom.v (Doing.isB (c := false) (by simpa using a8_1) (Y.move (up0 rfl rfl rfl) rfl rfl)) rfl ?_
        refine OpsFrom.v (Y.ia0 (i := 31) ty22 ty5 (up1 rfl rfl rfl rfl rfl rfl) rfl rfl rfl (by first | (with_reducible assumption) | omega | (simp only [lens, load_l, fbytes_l, *]; first | done | omega) | decide | (split <;> simp only [lens, load_l, fbytes_l, *]) | (with_reducible exact Lt.mono (by assumption) (by decide)) | (simp only [Cs.len]; done) | rfl)) rfl ?_
        refine OpsFrom.v (Y.ldI ty5 rfl (up1 rfl rfl rfl rfl rfl rfl) rfl rfl rfl (by first | (with_reducible assumption) | omega | (simp only [lens, load_l, fbytes_l, *]; first | done | omega) | decide | (split <;> simp only [lens, load_l, fbytes_l, *]) | (with_reducible exact Lt.mono (by assumption) (by decide)) | (simp only [Cs.len]; done) | rfl)) rfl ?_
        refine OpsFrom.v (Y.eql (b := 127) (up1 rfl rfl rfl rfl rfl rfl) rfl rfl rfl) rfl ?_
        refine OpsFrom.v (Doing.isB (c := false) (decide_eq_false a8_5) (Y.move (up1 rfl rfl rfl rfl rfl rfl) rfl rfl)) rfl ?_
        refine OpsFrom.v (Doing.skip _ _ _ _ rfl rfl rfl rfl (dlt rfl (Nat.le_of_ble_eq_true rfl))) rfl ?_
        refine OpsFrom.v (Doing.skip _ _ _ _ rfl rfl rfl rfl (dlt rfl (Nat.le_of_ble_eq_true rfl))) rfl ?_
        refine OpsFrom.v (Doing.skip _ _ _ _ rfl rfl rfl rfl (dlt rfl (Nat.le_of_ble_eq_true rfl))) rfl ?_
        refine OpsFrom.v (Doing.skip _ _ _ _ rfl rfl rfl rfl (dlt rfl (Nat.le_of_ble_eq_true rfl))) rfl ?_
        refine OpsFrom.v (Y.pickF (up1 rfl rfl rfl rfl rfl rfl) rfl rfl rfl) rfl ?_
        refine OpsFrom.v (Y.pickF (up0 rfl rfl rfl) rfl rfl rfl) rfl ?_
        refine OpsFrom.v (Y.assign (up0 rfl rfl rfl) rfl rfl) rfl ?_
        refine OpsFrom.nil ?_
        refine Holds.reg ?_
        refine OpsFrom.v (Y.move (up0 rfl rfl rfl) rfl rfl) rfl ?_
        refine OpsFrom.v (Y.addI (b := 1) (up0 rfl rfl rfl) rfl rfl rfl (by first | (with_reducible assumption) | omega | (simp only [lens, load_l, fbytes_l, *]; first | done | omega) | decide | (split <;> simp only [lens, load_l, fbytes_l, *]) | (with_reducible exact Lt.mono (by assumption) (by decide)) | (simp only [Cs.len]; done) | rfl)) rfl ?_
        refine OpsFrom.v (Y.assign (up0 rfl rfl rfl) rfl rfl) rfl ?_
        refine OpsFrom.nil ?_
        exact Holds.again (i1_ + 1) (by omega) (by omega) [] ⟨⟨rfl, rfl, rfl, rfl, (congrArg (fun (s : Bool) => some (.one (.b s) : AV)) ((fbl_it1_s a i1_).trans ((if_neg a8_1).trans (if_neg a8_5)))).symm, (nEq (by omega)), trivial⟩, ⟨rfl, rfl, trivial⟩, rfl, rfl⟩
  · obtain rfl : i1_ = 30 := by omega
    refine Holds.exit ?_
    refine Holds.seqJoin ⟨[(1, .one (.p 1 0)), (2, .one (.b false)), (3, .one (.b true)), (5, .one (.p 5 0)), (6, .one (.b (decide (((fbl_it1 a 30) = true) ∨ (((a.getD 31 0) = 127) ∧ ((a.getD 0 0) < 237))))))], [(1, .own (.ints .u8 a)), (5, .own (.ints .u8 (fbytes (load a))))]⟩ ?_ (fun join => ?_)
    · refine Holds.seq ?_
      refine Holds.reg ?_
      refine OpsFrom.v (Y.ia0 (i := 31) ty22 ty5 (up0 rfl rfl rfl) rfl rfl rfl (by first | (with_reducible assumption) | omega | (simp only [lens, load_l, fbytes_l, *]; first | done | omega) | decide | (split <;> simp only [lens, load_l, fbytes_l, *]) | (with_reducible exact Lt.mono (by assumption) (by decide)) | (simp only [Cs.len]; done) | rfl)) rfl ?_
      refine OpsFrom.v (Y.ldI ty5 rfl (up0 rfl rfl rfl) rfl rfl rfl (by first | (with_reducible assumption) | omega | (simp only [lens, load_l, fbytes_l, *]; first | done | omega) | decide | (split <;> simp only [lens, load_l, fbytes_l, *]) | (with_reducible exact Lt.mono (by assumption) (by decide)) | (simp only [Cs.len]; done) | rfl)) rfl ?_
      refine OpsFrom.v (Y.lss (b := 127) (up0 rfl rfl rfl) rfl rfl rfl) rfl ?_
      refine OpsFrom.v (Y.assign (up0 rfl rfl rfl) rfl rfl) rfl ?_
      refine OpsFrom.nil ?_
      refine Holds.seq ?_
      refine Holds.seq ?_
      refine Holds.reg ?_
      refine OpsFrom.v (Y.assign (v := (.one (.n .i64 1))) (up0 rfl rfl rfl) rfl rfl) rfl ?_
      refine OpsFrom.nil ?_
      refine Holds.block ?_
      refine Holds.loop (fun (i2_ : Nat) => ⟨[(1, .one (.p 1 0)), (2, .one (.b false)), (3, .one (.b true)), (5, .one (.p 5 0)), (6, .one (.b (decide (((fbl_it1 a 30) = true) ∨ (((a.getD 31 0) = 127) ∧ ((a.getD 0 0) < 237)))))), (8, .one (.b (fbl_it2 a i2_))), (9, .one (.n .i64 (1 + i2_)))], [(1, .own (.ints .u8 a)), (5, .own (.ints .u8 (fbytes (load a))))]⟩) (fun (i2_ : Nat) => i2_ ≤ 30) (fun (i2_ : Nat) => 30 - i2_) 0 (by first | (with_reducible assumption) | omega | (simp only [lens, load_l, fbytes_l, *]; first | done | omega) | decide | (split <;> simp only [lens, load_l, fbytes_l, *]) | (with_reducible exact Lt.mono (by assumption) (by decide)) | (simp only [Cs.len]; done) | rfl) [] ⟨⟨rfl, rfl, rfl, rfl, rfl, (bEq (congrArg (fun (s : Bool) => s) (fbl_it2_z a)).symm), rfl, trivial⟩, ⟨rfl, rfl, trivial⟩, rfl, rfl⟩ ?_
      intro i2_ k2_
      refine Holds.seq ?_
      refine Holds.seq ?_
      refine Holds.reg ?_
      refine OpsFrom.v (Y.move (up0 rfl rfl rfl) rfl rfl) rfl ?_
      refine OpsFrom.v (Y.lss (b := 31) (up0 rfl rfl rfl) rfl rfl rfl) rfl ?_
      refine OpsFrom.nil ?_
      refine Holds.condD rfl (fun h49 => ?_) (fun h49 => ?_)
      · refine Holds.skip ?_
        refine Holds.seq ?_
        refine Holds.block ?_
        by_cases a14_1 : (fbl_it2 a i2_) = true
        · refine Holds.reg ?_
          refine OpsFrom.v (Y.move (up0 rfl rfl rfl) rfl rfl) rfl ?_
          refine OpsFrom.v (Doing.isB (c := true) a14_1 (Y.move (up0 rfl rfl rfl) rfl rfl)) rfl ?_
          refine OpsFrom.v (Doing.skip _ _ _ _ rfl rfl rfl rfl (dlt rfl (Nat.le_of_ble_eq_true rfl))) rfl ?_
          refine OpsFrom.v (Doing.skip _ _ _ _ rfl rfl rfl rfl (dlt rfl (Nat.le_of_ble_eq_true rfl))) rfl ?_
          refine OpsFrom.v (Doing.skip _ _ _ _ rfl rfl rfl rfl (dlt rfl (Nat.le_of_ble_eq_true rfl))) rfl ?_
          refine OpsFrom.v (Doing.skip _ _ _ _ rfl rfl rfl rfl (dlt rfl (Nat.le_of_ble_eq_true rfl))) rfl ?_
          refine OpsFrom.v (Doing.skipU _ _ _ _ rfl rfl rfl rfl (dlt rfl (Nat.le_of_ble_eq_true rfl))) rfl ?_
          refine OpsFrom.v (Doing.skipU _ _ _ _ rfl rfl rfl rfl (dlt rfl (Nat.le_of_ble_eq_true rfl))) rfl ?_
          refine OpsFrom.v (Doing.skipU _ _ _ _ rfl rfl rfl rfl (dlt rfl (Nat.le_of_ble_eq_true rfl))) rfl ?_
          refine OpsFrom.v (Doing.skipU _ _ _ _ rfl rfl rfl rfl (dlt rfl (Nat.le_of_ble_eq_true rfl))) rfl ?_
          refine OpsFrom.v (Doing.skip _ _ _ _ rfl rfl rfl rfl (dlt rfl (Nat.le_of_ble_eq_true rfl))) rfl ?_
          refine OpsFrom.v (Y.pickT (up0 rfl rfl rfl) rfl rfl rfl) rfl ?_
          refine OpsFrom.v (Y.assign (up0 rfl rfl rfl) rfl rfl) rfl ?_
          refine OpsFrom.nil ?_
          refine Holds.reg ?_
          refine OpsFrom.v (Y.move (up0 rfl rfl rfl) rfl rfl) rfl ?_
          refine OpsFrom.v (Y.addI (b := 1) (up0 rfl rfl rfl) rfl rfl rfl (by first | (with_reducible assumption) | omega | (simp only [lens, load_l, fbytes_l, *]; first | done | omega) | decide | (split <;> simp only [lens, load_l, fbytes_l, *]) | (with_reducible exact Lt.mono (by assumption) (by decide)) | (simp only [Cs.len]; done) | rfl)) rfl ?_
          refine OpsFrom.v (Y.assign (up0 rfl rfl rfl) rfl rfl) rfl ?_
          refine OpsFrom.nil ?_
          exact Holds.again (i2_ + 1) (by omega) (by omega) [] ⟨⟨rfl, rfl, rfl, rfl, rfl, (congrArg (fun (s : Bool) => some (.one (.b s) : AV)) ((fbl_it2_s a i2_).trans ((if_pos a14_1)))).symm, (nEq (by omega)), trivial⟩, ⟨rfl, rfl, trivial⟩, rfl, rfl⟩
        · by_cases a14_5 : (((fbytes (load a)).getD 31 0) = 127)
          · refine Holds.reg ?_
            refine OpsFrom.v (Y.move (up0 rfl rfl rfl) rfl rfl) rfl ?_
            refine OpsFrom.v (Doing.isB (c := false) (by simpa using a14_1) (Y.move (up0 rfl rfl rfl) rfl rfl)) rfl ?_
            refine OpsFrom.v (Y.ia0 (i := 31) ty22 ty5 (up1 rfl rfl rfl rfl rfl rfl) rfl rfl rfl (by first | (with_reducible assumption) | omega | (simp only [lens, load_l, fbytes_l, *]; first | done | omega) | decide | (split <;> simp only [lens, load_l, fbytes_l, *]) | (with_reducible exact Lt.mono (by assumption) (by decide)) | (simp only [Cs.len]; done) | rfl)) rfl ?_
            refine OpsFrom.v (Y.ldI ty5 rfl (up1 rfl rfl rfl rfl rfl rfl) rfl rfl rfl (by first | (with_reducible assumption) | omega | (simp only [lens, load_l, fbytes_l, *]; first | done | omega) | decide | (split <;> simp only [lens, load_l, fbytes_l, *]) | (with_reducible exact Lt.mono (by assumption) (by decide)) | (simp only [Cs.len]; done) | rfl)) rfl ?_
            refine OpsFrom.v (Y.eql (b := 127) (up1 rfl rfl rfl rfl rfl rfl) rfl rfl rfl) rfl ?_
            refine OpsFrom.v (Doing.isB (c := true) (decide_eq_true a14_5) (Y.move (up1 rfl rfl rfl rfl rfl rfl) rfl rfl)) rfl ?_
            refine OpsFrom.v (Y.move (up1 rfl rfl rfl rfl rfl rfl) rfl rfl) rfl ?_
            refine OpsFrom.v (Y.ia0 ty22 ty5 (up1 rfl rfl rfl rfl rfl rfl) rfl rfl rfl (by first | (with_reducible assumption) | omega | (simp only [lens, load_l, fbytes_l, *]; first | done | omega) | decide | (split <;> simp only [lens, load_l, fbytes_l, *]) | (with_reducible exact Lt.mono (by assumption) (by decide)) | (simp only [Cs.len]; done) | rfl)) rfl ?_
            refine OpsFrom.v (Y.ldI ty5 rfl (up1 rfl rfl rfl rfl rfl rfl) rfl rfl rfl (by first | (with_reducible assumption) | omega | (simp only [lens, load_l, fbytes_l, *]; first | done | omega) | decide | (split <;> simp only [lens, load_l, fbytes_l, *]) | (with_reducible exact Lt.mono (by assumption) (by decide)) | (simp only [Cs.len]; done) | rfl)) rfl ?_
            refine OpsFrom.v (Y.neq (b := 255) (up1 rfl rfl rfl rfl rfl rfl) rfl rfl rfl) rfl ?_
            refine OpsFrom.v (Y.pickT (up1 rfl rfl rfl rfl rfl rfl) rfl rfl rfl) rfl ?_
            refine OpsFrom.v (Y.pickF (up0 rfl rfl rfl) rfl rfl rfl) rfl ?_
            refine OpsFrom.v (Y.assign (up0 rfl rfl rfl) rfl rfl) rfl ?_
            refine OpsFrom.nil ?_
            refine Holds.reg ?_
            refine OpsFrom.v (Y.move (up0 rfl rfl rfl) rfl rfl) rfl ?_
            refine OpsFrom.v (Y.addI (b := 1) (up0 rfl rfl rfl) rfl rfl rfl (by first | (with_reducible assumption) | omega | (simp only [lens, load_l, fbytes_l, *]; first | done | omega) | decide | (split <;> simp only [lens, load_l, fbytes_l, *]) | (with_reducible exact Lt.mono (by assumption) (by decide)) | (simp only [Cs.len]; done) | rfl)) rfl ?_
            refine OpsFrom.v (Y.assign (up0 rfl rfl rfl) rfl rfl) rfl ?_
            refine OpsFrom.nil ?_
            exact Holds.again (i2_ + 1) (by omega) (by omega) [] ⟨⟨rfl, rfl, rfl, rfl, rfl, (congrArg (fun (s : Bool) => some (.one (.b s) : AV)) ((fbl_it2_s a i2_).trans ((if_neg a14_1).trans (if_pos a14_5)))).symm, (nEq (by omega)), trivial⟩, ⟨rfl, rfl, trivial⟩, rfl, rfl⟩
          · refine Holds.reg ?_
            refine OpsFrom.v (Y.move (up0 rfl rfl rfl) rfl rfl) rfl ?_
            refine OpsFrom.v (Doing.isB (c := false) (by simpa using a14_1) (Y.move (up0 rfl rfl rfl) rfl rfl)) rfl ?_
            refine OpsFrom.v (Y.ia0 (i := 31) ty22 ty5 (up1 rfl rfl rfl rfl rfl rfl) rfl rfl rfl (by first | (with_reducible assumption) | omega | (simp only [lens, load_l, fbytes_l, *]; first | done | omega) | decide | (split <;> simp only [lens, load_l, fbytes_l, *]) | (with_reducible exact Lt.mono (by assumption) (by decide)) | (simp only [Cs.len]; done) | rfl)) rfl ?_
            refine OpsFrom.v (Y.ldI ty5 rfl (up1 rfl rfl rfl rfl rfl rfl) rfl rfl rfl (by first | (with_reducible assumption) | omega | (simp only [lens, load_l, fbytes_l, *]; first | done | omega) | decide | (split <;> simp only [lens, load_l, fbytes_l, *]) | (with_reducible exact Lt.mono (by assumption) (by decide)) | (simp only [Cs.len]; done) | rfl)) rfl ?_
            refine OpsFrom.v (Y.eql (b := 127) (up1 rfl rfl rfl rfl rfl rfl) rfl rfl rfl) rfl ?_
            refine OpsFrom.v (Doing.isB (c := false) (decide_eq_false a14_5) (Y.move (up1 rfl rfl rfl rfl rfl rfl) rfl rfl)) rfl ?_
            refine OpsFrom.v (Doing.skip _ _ _ _ rfl rfl rfl rfl (dlt rfl (Nat.le_of_ble_eq_true rfl))) rfl ?_
            refine OpsFrom.v (Doing.skip _ _ _ _ rfl rfl rfl rfl (dlt rfl (Nat.le_of_ble_eq_true rfl))) rfl ?_
            refine OpsFrom.v (Doing.skip _ _ _ _ rfl rfl rfl rfl (dlt rfl (Nat.le_of_ble_eq_true rfl))) rfl ?_
            refine OpsFrom.v (Doing.skip _ _ _ _ rfl rfl rfl rfl (dlt rfl (Nat.le_of_ble_eq_true rfl))) rfl ?_
            refine OpsFrom.v (Y.pickF (up1 rfl rfl rfl rfl rfl rfl) rfl rfl rfl) rfl ?_
            refine OpsFrom.v (Y.pickF (up0 rfl rfl rfl) rfl rfl rfl) rfl ?_
            refine OpsFrom.v (Y.assign (up0 rfl rfl rfl) rfl rfl) rfl ?_
            refine OpsFrom.nil ?_
            refine Holds.reg ?_
            refine OpsFrom.v (Y.move (up0 rfl rfl rfl) rfl rfl) rfl ?_
            refine OpsFrom.v (Y.addI (b := 1) (up0 rfl rfl rfl) rfl rfl rfl (by first | (with_reducible assumption) | omega | (simp only [lens, load_l, fbytes_l, *]; first | done | omega) | decide | (split <;> simp only [lens, load_l, fbytes_l, *]) | (with_reducible exact Lt.mono (by assumption) (by decide)) | (simp only [Cs.len]; done) | rfl)) rfl ?_
            refine OpsFrom.v (Y.assign (up0 rfl rfl rfl) rfl rfl) rfl ?_
            refine OpsFrom.nil ?_
            exact Holds.again (i2_ + 1) (by omega) (by omega) [] ⟨⟨rfl, rfl, rfl, rfl, rfl, (congrArg (fun (s : Bool) => some (.one (.b s) : AV)) ((fbl_it2_s a i2_).trans ((if_neg a14_1).trans (if_neg a14_5)))).symm, (nEq (by omega)), trivial⟩, ⟨rfl, rfl, trivial⟩, rfl, rfl⟩
      · obtain rfl : i2_ = 30 := by omega
        refine Holds.exit ?_
        refine Holds.seqJoin ⟨[(1, .one (.p 1 0)), (2, .one (.b false)), (3, .one (.b true)), (5, .one (.p 5 0)), (6, .one (.b (decide (((fbl_it1 a 30) = true) ∨ (((a.getD 31 0) = 127) ∧ ((a.getD 0 0) < 237)))))), (8, .one (.b (decide (((fbl_it2 a 30) = true) ∨ ((((fbytes (load a)).getD 31 0) = 127) ∧ (((fbytes (load a)).getD 0 0) < 237))))))], [(1, .own (.ints .u8 a)), (5, .own (.ints .u8 (fbytes (load a))))]⟩ ?_ (fun join => ?_)
        · refine Holds.seq ?_
          refine Holds.dr mx [([75], []), ([76], []), ([77], [78, 80]), ([78], [77, 80]), ([79], [80]), ([80], [77, 78, 79]), ([81], []), ([82], []), ([83], []), ([84], []), ([85], []), ([86], []), ([87], [90]), ([88], [90]), ([89], [90]), ([90], [87, 88, 89]), ([91], []), ([92], []), ([2], [])] (by kernel_rfl) ?_
          refine CertK.v (Y.move (up0 rfl rfl rfl) rfl rfl) rfl ?_
          refine CertK.v (Y.move (up0 rfl rfl rfl) rfl rfl) rfl ?_
          refine CertK.vd (Y.ldAll ty22 rfl (up1 rfl rfl rfl rfl rfl rfl) rfl rfl rfl (by first | (with_reducible assumption) | omega | (simp only [lens, load_l, fbytes_l, *]; first | done | omega) | decide | (split <;> simp only [lens, load_l, fbytes_l, *]) | (with_reducible exact Lt.mono (by assumption) (by decide)) | (simp only [Cs.len]; done) | rfl) (by decide)) rfl rfl ?_
          refine CertK.vd (Y.ldAll ty22 rfl (up1 rfl rfl rfl rfl rfl rfl) rfl rfl rfl (by first | (with_reducible assumption) | omega | (simp only [lens, load_l, fbytes_l, *]; first | done | omega) | decide | (split <;> simp only [lens, load_l, fbytes_l, *]) | (with_reducible exact Lt.mono (by assumption) (by decide)) | (simp only [Cs.len]; done) | rfl) (by decide)) rfl rfl ?_
          refine CertK.vd (Y.eqR ty22 ty5 (by kernel_rfl) (up1 rfl rfl rfl rfl rfl rfl) rfl rfl rfl (by first | (with_reducible assumption) | omega | (simp only [lens, load_l, fbytes_l, *]; first | done | omega) | decide | (split <;> simp only [lens, load_l, fbytes_l, *]) | (with_reducible exact Lt.mono (by assumption) (by decide)) | (simp only [Cs.len]; done) | rfl) (by first | (with_reducible assumption) | omega | (simp only [lens, load_l, fbytes_l, *]; first | done | omega) | decide | (split <;> simp only [lens, load_l, fbytes_l, *]) | (with_reducible exact Lt.mono (by assumption) (by decide)) | (simp only [Cs.len]; done) | rfl)) rfl rfl ?_
          refine CertK.vd (Y.move (up1 rfl rfl rfl rfl rfl rfl) rfl rfl) rfl rfl ?_
          refine CertK.v (Doing.isB (c := true) (fb_iff l_a ba) (Y.eqB ty4 (up1 rfl rfl rfl rfl rfl rfl) rfl rfl rfl)) rfl ?_
          refine CertK.v (Y.pickT (up0 rfl rfl rfl) rfl rfl rfl) rfl ?_
          refine CertK.v (Y.move (up0 rfl rfl rfl) rfl rfl) rfl ?_
          refine CertK.v (Doing.isB (c := true) (fb_least l_a ba) (Y.move (up1 rfl rfl rfl rfl rfl rfl) rfl rfl)) rfl ?_
          refine CertK.v (Y.pickT (up0 rfl rfl rfl) rfl rfl rfl) rfl ?_
          refine CertK.v (Y.move (up0 rfl rfl rfl) rfl rfl) rfl ?_
          refine CertK.vd (Y.ldAll ty22 rfl (up1 rfl rfl rfl rfl rfl rfl) rfl rfl rfl (by first | (with_reducible assumption) | omega | (simp only [lens, load_l, fbytes_l, *]; first | done | omega) | decide | (split <;> simp only [lens, load_l, fbytes_l, *]) | (with_reducible exact Lt.mono (by assumption) (by decide)) | (simp only [Cs.len]; done) | rfl) (by decide)) rfl rfl ?_
          refine CertK.vd (Y.callV (w_load _ (by first | (with_reducible assumption) | omega | (simp only [lens, load_l, fbytes_l, *]; first | done | omega) | decide | (split <;> simp only [lens, load_l, fbytes_l, *]) | (with_reducible exact Lt.mono (by assumption) (by decide)) | (simp only [Cs.len]; done) | rfl)) fnok16 (up1 rfl rfl rfl rfl rfl rfl) rfl rfl (.cons _ _ _ _ rfl .nil) (.cons _ _ _ _ (.same _) .nil) rfl rfl) rfl rfl ?_
          refine CertK.vd (Y.callV (w_fbytes _ (by first | (with_reducible assumption) | omega | (simp only [lens, load_l, fbytes_l, *]; first | done | omega) | decide | (split <;> simp only [lens, load_l, fbytes_l, *]) | (with_reducible exact Lt.mono (by assumption) (by decide)) | (simp only [Cs.len]; done) | rfl)) fnok19 (up1 rfl rfl rfl rfl rfl rfl) rfl rfl (.cons _ _ _ _ rfl .nil) (.cons _ _ _ _ (.same _) .nil) rfl rfl) rfl rfl ?_
          refine CertK.vd (Y.ldAll ty22 rfl (up1 rfl rfl rfl rfl rfl rfl) rfl rfl rfl (by first | (with_reducible assumption) | omega | (simp only [lens, load_l, fbytes_l, *]; first | done | omega) | decide | (split <;> simp only [lens, load_l, fbytes_l, *]) | (with_reducible exact Lt.mono (by assumption) (by decide)) | (simp only [Cs.len]; done) | rfl) (by decide)) rfl rfl ?_
          refine CertK.v (Doing.isB (c := true) (decide_eq_true (fb_load_fb (ld l_a ba).1)) (Y.eqR ty22 ty5 (by kernel_rfl) (up1 rfl rfl rfl rfl rfl rfl) rfl rfl rfl (by first | (with_reducible assumption) | omega | (simp only [lens, load_l, fbytes_l, *]; first | done | omega) | decide | (split <;> simp only [lens, load_l, fbytes_l, *]) | (with_reducible exact Lt.mono (by assumption) (by decide)) | (simp only [Cs.len]; done) | rfl) (by first | (with_reducible assumption) | omega | (simp only [lens, load_l, fbytes_l, *]; first | done | omega) | decide | (split <;> simp only [lens, load_l, fbytes_l, *]) | (with_reducible exact Lt.mono (by assumption) (by decide)) | (simp only [Cs.len]; done) | rfl))) rfl ?_
          refine CertK.v (Y.pickT (up0 rfl rfl rfl) rfl rfl rfl) rfl ?_
          refine CertK.v (Y.assign (up0 rfl rfl rfl) rfl rfl) rfl ?_
          refine CertK.nil ?_
          refine Holds.ret ?_
          exact Holds.ret1 (.inl rfl) rfl (.tmp _ _ rfl) (.same _) rfl
        · by_cases a15_1 : (fbl_it2 a 30) = true
          · refine Holds.reg ?_
            refine OpsFrom.v (Y.move (up0 rfl rfl rfl) rfl rfl) rfl ?_
            refine OpsFrom.v (Doing.isB (c := true) a15_1 (Y.move (up0 rfl rfl rfl) rfl rfl)) rfl ?_
            refine OpsFrom.v (Doing.skip _ _ _ _ rfl rfl rfl rfl (dlt rfl (Nat.le_of_ble_eq_true rfl))) rfl ?_
            refine OpsFrom.v (Doing.skip _ _ _ _ rfl rfl rfl rfl (dlt rfl (Nat.le_of_ble_eq_true rfl))) rfl ?_
            refine OpsFrom.v (Doing.skip _ _ _ _ rfl rfl rfl rfl (dlt rfl (Nat.le_of_ble_eq_true rfl))) rfl ?_
            refine OpsFrom.v (Doing.skip _ _ _ _ rfl rfl rfl rfl (dlt rfl (Nat.le_of_ble_eq_true rfl))) rfl ?_
            refine OpsFrom.v (Doing.skipU _ _ _ _ rfl rfl rfl rfl (dlt rfl (Nat.le_of_ble_eq_true rfl))) rfl ?_
            refine OpsFrom.v (Doing.skipU _ _ _ _ rfl rfl rfl rfl (dlt rfl (Nat.le_of_ble_eq_true rfl))) rfl ?_
            refine OpsFrom.v (Doing.skipU _ _ _ _ rfl rfl rfl rfl (dlt rfl (Nat.le_of_ble_eq_true rfl))) rfl ?_
            refine OpsFrom.v (Doing.skip _ _ _ _ rfl rfl rfl rfl (dlt rfl (Nat.le_of_ble_eq_true rfl))) rfl ?_
            refine OpsFrom.v (Y.pickT (up0 rfl rfl rfl) rfl rfl rfl) rfl ?_
            refine OpsFrom.v (Y.assign (up0 rfl rfl rfl) rfl rfl) rfl ?_
            refine OpsFrom.nil ?_
            exact join _ [] ⟨⟨rfl, rfl, rfl, rfl, rfl, (bEq ((dT (.inl a15_1)))), trivial⟩, ⟨rfl, rfl, trivial⟩, rfl, rfl⟩
          · by_cases a15_5 : (((fbytes (load a)).getD 31 0) = 127)
            · refine Holds.reg ?_
              refine OpsFrom.v (Y.move (up0 rfl rfl rfl) rfl rfl) rfl ?_
              refine OpsFrom.v (Doing.isB (c := false) (by simpa using a15_1) (Y.move (up0 rfl rfl rfl) rfl rfl)) rfl ?_
              refine OpsFrom.v (Y.ia0 (i := 31) ty22 ty5 (up1 rfl rfl rfl rfl rfl rfl) rfl rfl rfl (by first | (with_reducible assumption) | omega | (simp only [lens, load_l, fbytes_l, *]; first | done | omega) | decide | (split <;> simp only [lens, load_l, fbytes_l, *]) | (with_reducible exact Lt.mono (by assumption) (by decide)) | (simp only [Cs.len]; done) | rfl)) rfl ?_
              refine OpsFrom.v (Y.ldI ty5 rfl (up1 rfl rfl rfl rfl rfl rfl) rfl rfl rfl (by first | (with_reducible assumption) | omega | (simp only [lens, load_l, fbytes_l, *]; first | done | omega) | decide | (split <;> simp only [lens, load_l, fbytes_l, *]) | (with_reducible exact Lt.mono (by assumption) (by decide)) | (simp only [Cs.len]; done) | rfl)) rfl ?_
              refine OpsFrom.v (Y.eql (b := 127) (up1 rfl rfl rfl rfl rfl rfl) rfl rfl rfl) rfl ?_
              refine OpsFrom.v (Doing.isB (c := true) (decide_eq_true a15_5) (Y.move (up1 rfl rfl rfl rfl rfl rfl) rfl rfl)) rfl ?_
              refine OpsFrom.v (Y.ia0 (i := 0) ty22 ty5 (up1 rfl rfl rfl rfl rfl rfl) rfl rfl rfl (by first | (with_reducible assumption) | omega | (simp only [lens, load_l, fbytes_l, *]; first | done | omega) | decide | (split <;> simp only [lens, load_l, fbytes_l, *]) | (with_reducible exact Lt.mono (by assumption) (by decide)) | (simp only [Cs.len]; done) | rfl)) rfl ?_
              refine OpsFrom.v (Y.ldI ty5 rfl (up1 rfl rfl rfl rfl rfl rfl) rfl rfl rfl (by first | (with_reducible assumption) | omega | (simp only [lens, load_l, fbytes_l, *]; first | done | omega) | decide | (split <;> simp only [lens, load_l, fbytes_l, *]) | (with_reducible exact Lt.mono (by assumption) (by decide)) | (simp only [Cs.len]; done) | rfl)) rfl ?_
              refine OpsFrom.v (Y.lss (b := 237) (up1 rfl rfl rfl rfl rfl rfl) rfl rfl rfl) rfl ?_
              refine OpsFrom.v (Y.pickT (up1 rfl rfl rfl rfl rfl rfl) rfl rfl rfl) rfl ?_
              refine OpsFrom.v (Y.pickF (up0 rfl rfl rfl) rfl rfl rfl) rfl ?_
              refine OpsFrom.v (Y.assign (up0 rfl rfl rfl) rfl rfl) rfl ?_
              refine OpsFrom.nil ?_
              exact join _ [] ⟨⟨rfl, rfl, rfl, rfl, rfl, (bEq (((dAnd a15_5)).trans (dOr a15_1))), trivial⟩, ⟨rfl, rfl, trivial⟩, rfl, rfl⟩
            · refine Holds.reg ?_
              refine OpsFrom.v (Y.move (up0 rfl rfl rfl) rfl rfl) rfl ?_
              refine OpsFrom.v (Doing.isB (c := false) (by simpa using a15_1) (Y.move (up0 rfl rfl rfl) rfl rfl)) rfl ?_
              refine OpsFrom.v (Y.ia0 (i := 31) ty22 ty5 (up1 rfl rfl rfl rfl rfl rfl) rfl rfl rfl (by first | (with_reducible assumption) | omega | (simp only [lens, load_l, fbytes_l, *]; first | done | omega) | decide | (split <;> simp only [lens, load_l, fbytes_l, *]) | (with_reducible exact Lt.mono (by assumption) (by decide)) | (simp only [Cs.len]; done) | rfl)) rfl ?_
              refine OpsFrom.v (Y.ldI ty5 rfl (up1 rfl rfl rfl rfl rfl rfl) rfl rfl rfl (by first | (with_reducible assumption) | omega | (simp only [lens, load_l, fbytes_l, *]; first | done | omega) | decide | (split <;> simp only [lens, load_l, fbytes_l, *]) | (with_reducible exact Lt.mono (by assumption) (by decide)) | (simp only [Cs.len]; done) | rfl)) rfl ?_
              refine OpsFrom.v (Y.eql (b := 127) (up1 rfl rfl rfl rfl rfl rfl) rfl rfl rfl) rfl ?_
              refine OpsFrom.v (Doing.isB (c := false) (decide_eq_false a15_5) (Y.move (up1 rfl rfl rfl rfl rfl rfl) rfl rfl)) rfl ?_
              refine OpsFrom.v (Doing.skip _ _ _ _ rfl rfl rfl rfl (dlt rfl (Nat.le_of_ble_eq_true rfl))) rfl ?_
              refine OpsFrom.v (Doing.skip _ _ _ _ rfl rfl rfl rfl (dlt rfl (Nat.le_of_ble_eq_true rfl))) rfl ?_
              refine OpsFrom.v (Doing.skip _ _ _ _ rfl rfl rfl rfl (dlt rfl (Nat.le_of_ble_eq_true rfl))) rfl ?_
              refine OpsFrom.v (Y.pickF (up1 rfl rfl rfl rfl rfl rfl) rfl rfl rfl) rfl ?_
              refine OpsFrom.v (Y.pickF (up0 rfl rfl rfl) rfl rfl rfl) rfl ?_
              refine OpsFrom.v (Y.assign (up0 rfl rfl rfl) rfl rfl) rfl ?_
              refine OpsFrom.nil ?_
              exact join _ [] ⟨⟨rfl, rfl, rfl, rfl, rfl, (bEq (((dF (fun k => a15_5 k.1))).trans (dOr a15_1))), trivial⟩, ⟨rfl, rfl, trivial⟩, rfl, rfl⟩
    · by_cases a9_1 : (fbl_it1 a 30) = true
      · refine Holds.reg ?_
        refine OpsFrom.v (Y.move (up0 rfl rfl rfl) rfl rfl) rfl ?_
        refine OpsFrom.v (Doing.isB (c := true) a9_1 (Y.move (up0 rfl rfl rfl) rfl rfl)) rfl ?_
        refine OpsFrom.v (Doing.skip _ _ _ _ rfl rfl rfl rfl (dlt rfl (Nat.le_of_ble_eq_true rfl))) rfl ?_
        refine OpsFrom.v (Doing.skip _ _ _ _ rfl rfl rfl rfl (dlt rfl (Nat.le_of_ble_eq_true rfl))) rfl ?_
        refine OpsFrom.v (Doing.skip _ _ _ _ rfl rfl rfl rfl (dlt rfl (Nat.le_of_ble_eq_true rfl))) rfl ?_
        refine OpsFrom.v (Doing.skip _ _ _ _ rfl rfl rfl rfl (dlt rfl (Nat.le_of_ble_eq_true rfl))) rfl ?_
        refine OpsFrom.v (Doing.skipU _ _ _ _ rfl rfl rfl rfl (dlt rfl (Nat.le_of_ble_eq_true rfl))) rfl ?_
        refine OpsFrom.v (Doing.skipU _ _ _ _ rfl rfl rfl rfl (dlt rfl (Nat.le_of_ble_eq_true rfl))) rfl ?_
        refine OpsFrom.v (Doing.skipU _ _ _ _ rfl rfl rfl rfl (dlt rfl (Nat.le_of_ble_eq_true rfl))) rfl ?_
        refine OpsFrom.v (Doing.skip _ _ _ _ rfl rfl rfl rfl (dlt rfl (Nat.le_of_ble_eq_true rfl))) rfl ?_
        refine OpsFrom.v (Y.pickT (up0 rfl rfl rfl) rfl rfl rfl) rfl ?_
        refine OpsFrom.v (Y.assign (up0 rfl rfl rfl) rfl rfl) rfl ?_
        refine OpsFrom.nil ?_
        exact join _ [] ⟨⟨rfl, rfl, rfl, rfl, (bEq ((dT (.inl a9_1)))), trivial⟩, ⟨rfl, rfl, trivial⟩, rfl, rfl⟩
      · by_cases a9_5 : ((a.getD 31 0) = 127)
        · refine Holds.reg ?_
          refine OpsFrom.v (Y.move (up0 rfl rfl rfl) rfl rfl) rfl ?_
          refine OpsFrom.v (Doing.isB (c := false) (by simpa using a9_1) (Y.move (up0 rfl rfl rfl) rfl rfl)) rfl ?_
          refine OpsFrom.v (Y.ia0 (i := 31) ty22 ty5 (up1 rfl rfl rfl rfl rfl rfl) rfl rfl rfl (by first | (with_reducible assumption) | omega | (simp only [lens, load_l, fbytes_l, *]; first | done | omega) | decide | (split <;> simp only [lens, load_l, fbytes_l, *]) | (with_reducible exact Lt.mono (by assumption) (by decide)) | (simp only [Cs.len]; done) | rfl)) rfl ?_
          refine OpsFrom.v (Y.ldI ty5 rfl (up1 rfl rfl rfl rfl rfl rfl) rfl rfl rfl (by first | (with_reducible assumption) | omega | (simp only [lens, load_l, fbytes_l, *]; first | done | omega) | decide | (split <;> simp only [lens, load_l, fbytes_l, *]) | (with_reducible exact Lt.mono (by assumption) (by decide)) | (simp only [Cs.len]; done) | rfl)) rfl ?_
          refine OpsFrom.v (Y.eql (b := 127) (up1 rfl rfl rfl rfl rfl rfl) rfl rfl rfl) rfl ?_
          refine OpsFrom.v (Doing.isB (c := true) (decide_eq_true a9_5) (Y.move (up1 rfl rfl rfl rfl rfl rfl) rfl rfl)) rfl ?_
          refine OpsFrom.v (Y.ia0 (i := 0) ty22 ty5 (up1 rfl rfl rfl rfl rfl rfl) rfl rfl rfl (by first | (with_reducible assumption) | omega | (simp only [lens, load_l, fbytes_l, *]; first | done | omega) | decide | (split <;> simp only [lens, load_l, fbytes_l, *]) | (with_reducible exact Lt.mono (by assumption) (by decide)) | (simp only [Cs.len]; done) | rfl)) rfl ?_
          refine OpsFrom.v (Y.ldI ty5 rfl (up1 rfl rfl rfl rfl rfl rfl) rfl rfl rfl (by first | (with_reducible assumption) | omega | (simp only [lens, load_l, fbytes_l, *]; first | done | omega) | decide | (split <;> simp only [lens, load_l, fbytes_l, *]) | (with_reducible exact Lt.mono (by assumption) (by decide)) | (simp only [Cs.len]; done) | rfl)) rfl ?_
          refine OpsFrom.v (Y.lss (b := 237) (up1 rfl rfl rfl rfl rfl rfl) rfl rfl rfl) rfl ?_
          refine OpsFrom.v (Y.pickT (up1 rfl rfl rfl rfl rfl rfl) rfl rfl rfl) rfl ?_
          refine OpsFrom.v (Y.pickF (up0 rfl rfl rfl) rfl rfl rfl) rfl ?_
          refine OpsFrom.v (Y.assign (up0 rfl rfl rfl) rfl rfl) rfl ?_
          refine OpsFrom.nil ?_
          exact join _ [] ⟨⟨rfl, rfl, rfl, rfl, (bEq (((dAnd a9_5)).trans (dOr a9_1))), trivial⟩, ⟨rfl, rfl, trivial⟩, rfl, rfl⟩
        · refine Holds.reg ?_
          refine OpsFrom.v (Y.move (up0 rfl rfl rfl) rfl rfl) rfl ?_
          refine OpsFrom.v (Doing.isB (c := false) (by simpa using a9_1) (Y.move (up0 rfl rfl rfl) rfl rfl)) rfl ?_
          refine OpsFrom.v (Y.ia0 (i := 31) ty22 ty5 (up1 rfl rfl rfl rfl rfl rfl) rfl rfl rfl (by first | (with_reducible assumption) | omega | (simp only [lens, load_l, fbytes_l, *]; first | done | omega) | decide | (split <;> simp only [lens, load_l, fbytes_l, *]) | (with_reducible exact Lt.mono (by assumption) (by decide)) | (simp only [Cs.len]; done) | rfl)) rfl ?_
          refine OpsFrom.v (Y.ldI ty5 rfl (up1 rfl rfl rfl rfl rfl rfl) rfl rfl rfl (by first | (with_reducible assumption) | omega | (simp only [lens, load_l, fbytes_l, *]; first | done | omega) | decide | (split <;> simp only [lens, load_l, fbytes_l, *]) | (with_reducible exact Lt.mono (by assumption) (by decide)) | (simp only [Cs.len]; done) | rfl)) rfl ?_
          refine OpsFrom.v (Y.eql (b := 127) (up1 rfl rfl rfl rfl rfl rfl) rfl rfl rfl) rfl ?_
          refine OpsFrom.v (Doing.isB (c := false) (decide_eq_false a9_5) (Y.move (up1 rfl rfl rfl rfl rfl rfl) rfl rfl)) rfl ?_
          refine OpsFrom.v (Doing.skip _ _ _ _ rfl rfl rfl rfl (dlt rfl (Nat.le_of_ble_eq_true rfl))) rfl ?_
          refine OpsFrom.v (Doing.skip _ _ _ _ rfl rfl rfl rfl (dlt rfl (Nat.le_of_ble_eq_true rfl))) rfl ?_
          refine OpsFrom.v (Doing.skip _ _ _ _ rfl rfl rfl rfl (dlt rfl (Nat.le_of_ble_eq_true rfl))) rfl ?_
          refine OpsFrom.v (Y.pickF (up1 rfl rfl rfl rfl rfl rfl) rfl rfl rfl) rfl ?_
          refine OpsFrom.v (Y.pickF (up0 rfl rfl rfl) rfl rfl rfl) rfl ?_
          refine OpsFrom.v (Y.assign (up0 rfl rfl rfl) rfl rfl) rfl ?_
          refine OpsFrom.nil ?_
          exact join _ [] ⟨⟨rfl, rfl, rfl, rfl, (bEq (((dF (fun k => a9_5 k.1))).trans (dOr a9_1))), trivial⟩, ⟨rfl, rfl, trivial⟩, rfl, rfl⟩


end Go.Proofs.Ytnfiiclmbiiokaa
