/-
  Walks: opening segments: the document.
-/
import Derived.Test.YtkpelchcpiafaaaTd
import Derived.Test.YtkpelchcpiafaaaTc
namespace Go.Proofs.Ytkpelchcpiafaaa
open Go Go.Fx
set_option linter.unusedVariables false
set_option linter.unusedSimpArgs false
theorem ropened_le (key nonce s beside : List Nat) : (ropened key nonce s beside).1.length ≤ s.length := by
  unfold ropened
  split
  · exact Nat.zero_le _
  · split
    · exact Nat.zero_le _
    · dsimp only; rw [stream_len, List.length_take, List.length_drop]; omega
def rslast (m : List Nat × Nat × List Nat) : Prop := (if 528 < m.1.length then 528 else m.1.length) = m.1.length
instance (m) : Decidable (rslast m) := by unfold rslast; exact inferInstance
def rsbad (key beside : List Nat) (m : List Nat × Nat × List Nat) : Prop := ((ropened key (rnonce m.2.1 (decide ((if 528 < m.1.length then 528 else m.1.length) = m.1.length))) ((m.1.drop 0).take ((if 528 < m.1.length then 528 else m.1.length) - 0)) beside).2 ≠ 0) ∨ (((if 528 < m.1.length then 528 else m.1.length) = m.1.length) ∧ ((0 < m.2.1) ∧ ((ropened key (rnonce m.2.1 (decide ((if 528 < m.1.length then 528 else m.1.length) = m.1.length))) ((m.1.drop 0).take ((if 528 < m.1.length then 528 else m.1.length) - 0)) beside).1.length = 0)))
instance (key beside m) : Decidable (rsbad key beside m) := by unfold rsbad; exact inferInstance
def rsopen_s1 (key : List Nat) (beside : List Nat) (b : List Nat) (i1_ : Nat) (m1_ : (List Nat) × Nat × (List Nat)) : (List Nat) × Nat × (List Nat) :=
  let v9_ : Nat := if 528 < m1_.1.length then 528 else m1_.1.length
  let v10_ : List Nat := (rnonce m1_.2.1 (decide (v9_ = m1_.1.length)))
  let v11_ : List Nat := (ropened key v10_ ((m1_.1.drop 0).take (v9_ - 0)) beside).1
  let v13_ : List Nat := (m1_.1.drop v9_).take (m1_.1.length - v9_)
  (v13_, (m1_.2.1 + 1) % 18446744073709551616, m1_.2.2 ++ v11_)
def rsopen_it1 (key : List Nat) (beside : List Nat) (b : List Nat) (i1_ : Nat) : (List Nat) × Nat × (List Nat) := iter (rsopen_s1 key beside b) i1_ (b, 0, [])
theorem rsopen_it1_z (key : List Nat) (beside : List Nat) (b : List Nat) : rsopen_it1 key beside b 0 = (b, 0, []) := rfl
theorem rsopen_it1_s (key : List Nat) (beside : List Nat) (b : List Nat) (i1_ : Nat) : rsopen_it1 key beside b (i1_ + 1) = rsopen_s1 key beside b i1_ (rsopen_it1 key beside b i1_) := by unfold rsopen_it1; exact iterS _ _ _
theorem rsopen_f0 (key beside : List Nat) {b : List Nat} (hb : b.length ≤ 4194304) : ∀ i, 528 * i ≤ b.length → (rsopen_it1 key beside b i).1 = b.drop (528 * i) ∧ (rsopen_it1 key beside b i).2.1 = i ∧ (rsopen_it1 key beside b i).2.2.length ≤ 528 * i
  | 0, _ => ⟨rfl, rfl, Nat.le_refl _⟩
  | i + 1, h => by
    obtain ⟨h1, h2, h3⟩ := rsopen_f0 key beside hb i (by omega)
    have h4 := ropened_le key (rnonce (rsopen_it1 key beside b i).2.1 (decide ((if 528 < (rsopen_it1 key beside b i).1.length then 528 else (rsopen_it1 key beside b i).1.length) = (rsopen_it1 key beside b i).1.length))) (((rsopen_it1 key beside b i).1.drop 0).take ((if 528 < (rsopen_it1 key beside b i).1.length then 528 else (rsopen_it1 key beside b i).1.length) - 0)) beside
    rw [rsopen_it1_s]
    unfold rsopen_s1
    dsimp only
    rw [h1, h2, List.length_drop, show (if 528 < b.length - 528 * i then 528 else b.length - 528 * i) = 528 by split <;> omega] at *
    simp only [List.length_take, List.length_drop] at h4
    refine ⟨?_, by omega, by rw [List.length_append]; omega⟩
    rw [List.take_of_length_le (by simp only [List.length_drop]; omega)]
    rw [List.drop_drop]
    exact congrArg (fun n => b.drop n) (by omega)
theorem rsopen_N (key beside : List Nat) (b : List Nat) {i : Nat} (h : i ≤ ff (fun i => decide (rsbad key beside (rsopen_it1 key beside b i) ∨ rslast (rsopen_it1 key beside b i))) ((b.length - 1) / 528)) : 528 * i ≤ b.length := by
  have := ff_le (fun i => decide (rsbad key beside (rsopen_it1 key beside b i) ∨ rslast (rsopen_it1 key beside b i))) ((b.length - 1) / 528)
  omega
theorem rsopen_f (key beside : List Nat) {b : List Nat} (hb : b.length ≤ 4194304) (i : Nat) (h : i ≤ ff (fun i => decide (rsbad key beside (rsopen_it1 key beside b i) ∨ rslast (rsopen_it1 key beside b i))) ((b.length - 1) / 528)) : (rsopen_it1 key beside b i).1 = b.drop (528 * i) ∧ (rsopen_it1 key beside b i).2.1 = i ∧ (rsopen_it1 key beside b i).2.2.length ≤ 528 * i ∧ 528 * i ≤ b.length :=
  have h2 := rsopen_N key beside b h
  have h1 := rsopen_f0 key beside hb i h2
  ⟨h1.1, h1.2.1, h1.2.2, h2⟩
theorem rsopen_end (key beside : List Nat) {b : List Nat} (hb : b.length ≤ 4194304) : rslast (rsopen_it1 key beside b ((b.length - 1) / 528)) := by
  unfold rslast
  rw [(rsopen_f0 key beside hb _ (by omega)).1, List.length_drop]
  split <;> omega
theorem rsopen_stop {key beside b : List Nat} (hb : b.length ≤ 4194304) {i : Nat} (hi : i ≤ ff (fun i => decide (rsbad key beside (rsopen_it1 key beside b i) ∨ rslast (rsopen_it1 key beside b i))) ((b.length - 1) / 528)) (h : rsbad key beside (rsopen_it1 key beside b i) ∨ rslast (rsopen_it1 key beside b i)) : i = ff (fun i => decide (rsbad key beside (rsopen_it1 key beside b i) ∨ rslast (rsopen_it1 key beside b i))) ((b.length - 1) / 528) := by
  by_cases q : i < ff (fun i => decide (rsbad key beside (rsopen_it1 key beside b i) ∨ rslast (rsopen_it1 key beside b i))) ((b.length - 1) / 528)
  · have := ff_lt q
    exact absurd h (of_decide_eq_false this)
  · omega
theorem rsopen_iff {key beside b : List Nat} (hb : b.length ≤ 4194304) {i : Nat} (hi : i ≤ ff (fun i => decide (rsbad key beside (rsopen_it1 key beside b i) ∨ rslast (rsopen_it1 key beside b i))) ((b.length - 1) / 528)) (h57 : ¬ rsbad key beside (rsopen_it1 key beside b i)) : ¬ ((if 528 < (rsopen_it1 key beside b i).1.length then 528 else (rsopen_it1 key beside b i).1.length) = (rsopen_it1 key beside b i).1.length) ↔ i < ff (fun i => decide (rsbad key beside (rsopen_it1 key beside b i) ∨ rslast (rsopen_it1 key beside b i))) ((b.length - 1) / 528) := by
  constructor
  · intro h
    by_cases q : i = ff (fun i => decide (rsbad key beside (rsopen_it1 key beside b i) ∨ rslast (rsopen_it1 key beside b i))) ((b.length - 1) / 528)
    · exfalso
      have := of_decide_eq_true (ff_at (p := fun i => decide (rsbad key beside (rsopen_it1 key beside b i) ∨ rslast (rsopen_it1 key beside b i))) (n := (b.length - 1) / 528) (decide_eq_true (.inr (rsopen_end key beside hb))))
      rw [← q] at this
      rcases this with k | k
      · exact h57 k
      · exact h k
    · omega
  · intro h k
    exact of_decide_eq_false (ff_lt h) (.inr k)
def rsopen (key : List Nat) (beside : List Nat) (b : List Nat) : (List Nat) × Nat :=
  if (((ropened key (rnonce (rsopen_it1 key beside b (ff (fun i => decide (rsbad key beside (rsopen_it1 key beside b i) ∨ rslast (rsopen_it1 key beside b i))) ((b.length - 1) / 528))).2.1 (decide ((if 528 < (rsopen_it1 key beside b (ff (fun i => decide (rsbad key beside (rsopen_it1 key beside b i) ∨ rslast (rsopen_it1 key beside b i))) ((b.length - 1) / 528))).1.length then 528 else (rsopen_it1 key beside b (ff (fun i => decide (rsbad key beside (rsopen_it1 key beside b i) ∨ rslast (rsopen_it1 key beside b i))) ((b.length - 1) / 528))).1.length) = (rsopen_it1 key beside b (ff (fun i => decide (rsbad key beside (rsopen_it1 key beside b i) ∨ rslast (rsopen_it1 key beside b i))) ((b.length - 1) / 528))).1.length))) (((rsopen_it1 key beside b (ff (fun i => decide (rsbad key beside (rsopen_it1 key beside b i) ∨ rslast (rsopen_it1 key beside b i))) ((b.length - 1) / 528))).1.drop 0).take ((if 528 < (rsopen_it1 key beside b (ff (fun i => decide (rsbad key beside (rsopen_it1 key beside b i) ∨ rslast (rsopen_it1 key beside b i))) ((b.length - 1) / 528))).1.length then 528 else (rsopen_it1 key beside b (ff (fun i => decide (rsbad key beside (rsopen_it1 key beside b i) ∨ rslast (rsopen_it1 key beside b i))) ((b.length - 1) / 528))).1.length) - 0)) beside).2) ≠ 0) ∨ (((if 528 < (rsopen_it1 key beside b (ff (fun i => decide (rsbad key beside (rsopen_it1 key beside b i) ∨ rslast (rsopen_it1 key beside b i))) ((b.length - 1) / 528))).1.length then 528 else (rsopen_it1 key beside b (ff (fun i => decide (rsbad key beside (rsopen_it1 key beside b i) ∨ rslast (rsopen_it1 key beside b i))) ((b.length - 1) / 528))).1.length) = (rsopen_it1 key beside b (ff (fun i => decide (rsbad key beside (rsopen_it1 key beside b i) ∨ rslast (rsopen_it1 key beside b i))) ((b.length - 1) / 528))).1.length) ∧ ((0 < (rsopen_it1 key beside b (ff (fun i => decide (rsbad key beside (rsopen_it1 key beside b i) ∨ rslast (rsopen_it1 key beside b i))) ((b.length - 1) / 528))).2.1) ∧ (((ropened key (rnonce (rsopen_it1 key beside b (ff (fun i => decide (rsbad key beside (rsopen_it1 key beside b i) ∨ rslast (rsopen_it1 key beside b i))) ((b.length - 1) / 528))).2.1 (decide ((if 528 < (rsopen_it1 key beside b (ff (fun i => decide (rsbad key beside (rsopen_it1 key beside b i) ∨ rslast (rsopen_it1 key beside b i))) ((b.length - 1) / 528))).1.length then 528 else (rsopen_it1 key beside b (ff (fun i => decide (rsbad key beside (rsopen_it1 key beside b i) ∨ rslast (rsopen_it1 key beside b i))) ((b.length - 1) / 528))).1.length) = (rsopen_it1 key beside b (ff (fun i => decide (rsbad key beside (rsopen_it1 key beside b i) ∨ rslast (rsopen_it1 key beside b i))) ((b.length - 1) / 528))).1.length))) (((rsopen_it1 key beside b (ff (fun i => decide (rsbad key beside (rsopen_it1 key beside b i) ∨ rslast (rsopen_it1 key beside b i))) ((b.length - 1) / 528))).1.drop 0).take ((if 528 < (rsopen_it1 key beside b (ff (fun i => decide (rsbad key beside (rsopen_it1 key beside b i) ∨ rslast (rsopen_it1 key beside b i))) ((b.length - 1) / 528))).1.length then 528 else (rsopen_it1 key beside b (ff (fun i => decide (rsbad key beside (rsopen_it1 key beside b i) ∨ rslast (rsopen_it1 key beside b i))) ((b.length - 1) / 528))).1.length) - 0)) beside).1).length = 0))) then
    ([], 180)
  else
    ((rsopen_it1 key beside b (ff (fun i => decide (rsbad key beside (rsopen_it1 key beside b i) ∨ rslast (rsopen_it1 key beside b i))) ((b.length - 1) / 528))).2.2 ++ ((ropened key (rnonce (rsopen_it1 key beside b (ff (fun i => decide (rsbad key beside (rsopen_it1 key beside b i) ∨ rslast (rsopen_it1 key beside b i))) ((b.length - 1) / 528))).2.1 (decide ((if 528 < (rsopen_it1 key beside b (ff (fun i => decide (rsbad key beside (rsopen_it1 key beside b i) ∨ rslast (rsopen_it1 key beside b i))) ((b.length - 1) / 528))).1.length then 528 else (rsopen_it1 key beside b (ff (fun i => decide (rsbad key beside (rsopen_it1 key beside b i) ∨ rslast (rsopen_it1 key beside b i))) ((b.length - 1) / 528))).1.length) = (rsopen_it1 key beside b (ff (fun i => decide (rsbad key beside (rsopen_it1 key beside b i) ∨ rslast (rsopen_it1 key beside b i))) ((b.length - 1) / 528))).1.length))) (((rsopen_it1 key beside b (ff (fun i => decide (rsbad key beside (rsopen_it1 key beside b i) ∨ rslast (rsopen_it1 key beside b i))) ((b.length - 1) / 528))).1.drop 0).take ((if 528 < (rsopen_it1 key beside b (ff (fun i => decide (rsbad key beside (rsopen_it1 key beside b i) ∨ rslast (rsopen_it1 key beside b i))) ((b.length - 1) / 528))).1.length then 528 else (rsopen_it1 key beside b (ff (fun i => decide (rsbad key beside (rsopen_it1 key beside b i) ∨ rslast (rsopen_it1 key beside b i))) ((b.length - 1) / 528))).1.length) - 0)) beside).1), 0)
theorem w_rsopen (key : List Nat) (beside : List Nat) (b : List Nat) (l_key : key.length = 32) (h_beside : beside.length < 1073741824) (h_b : b.length ≤ 4194304) : VC Try.prog 45 [.row (.ints .u8 key), .one (.bs false .u8 beside), .one (.bs false .u8 b)] (.two (.one (.bs false .u8 ((rsopen key beside b).1))) (.one (.n .i64 ((rsopen key beside b).2)))) := by
  refine VC.go Try.func45 rfl Try.ntmps45 rfl rfl fun O w => ?_
  refine Holds.seq ?_
  refine Holds.reg ?_
  refine OpsFrom.u (Y.boxR (d := 3) (up0 rfl rfl rfl) rfl rfl rfl) rfl rfl rfl ?_
  refine OpsFrom.v (Y.assign (up0 rfl rfl rfl) rfl rfl) rfl ?_
  refine OpsFrom.v (Y.assign (v := (.one (.n .i64 0))) (up0 rfl rfl rfl) rfl rfl) rfl ?_
  refine OpsFrom.nil ?_
  refine Holds.seq ?_
  refine Holds.reg ?_
  refine OpsFrom.v (Y.assign (up0 rfl rfl rfl) rfl rfl) rfl ?_
  refine OpsFrom.nil ?_
  refine Holds.seq ?_
  refine Holds.reg ?_
  refine OpsFrom.v (Y.assign (v := (.one (.n .u64 0))) (up0 rfl rfl rfl) rfl rfl) rfl ?_
  refine OpsFrom.nil ?_
  refine Holds.block ?_
  refine Holds.grow 8 8 (.ints .u8 []) rfl rfl rfl ?_
  refine Holds.loop (fun (i1_ : Nat) => ⟨[(1, .one (.bs false .u8 beside)), (2, .one (.bs false .u8 ((rsopen_it1 key beside b i1_).1))), (3, .one (.p 3 0)), (6, .one (.nil)), (7, .one (.n .i64 0)), (8, .one (.sg 8 0 (((rsopen_it1 key beside b i1_).2.2).length))), (9, .one (.n .u64 ((rsopen_it1 key beside b i1_).2.1)))], [(3, .own (.ints .u8 key)), (8, .own (.ints .u8 ((rsopen_it1 key beside b i1_).2.2)))]⟩) (fun (i1_ : Nat) => i1_ ≤ (ff (fun i => decide (rsbad key beside (rsopen_it1 key beside b i) ∨ rslast (rsopen_it1 key beside b i))) ((b.length - 1) / 528))) (fun (i1_ : Nat) => (ff (fun i => decide (rsbad key beside (rsopen_it1 key beside b i) ∨ rslast (rsopen_it1 key beside b i))) ((b.length - 1) / 528)) - i1_) 0 (by first | (with_reducible assumption) | omega | (simp only [lens, List.flatten_cons, List.flatten_nil, List.append_nil, List.length_cons, List.length_nil, Cs.len, List.length_map, List.length_set, List.length_replicate, *]; first | done | omega) | decide | (split <;> simp only [lens, List.flatten_cons, List.flatten_nil, List.append_nil, List.length_cons, List.length_nil, Cs.len, List.length_map, List.length_set, List.length_replicate, *]) | (with_reducible exact Lt.mono (by assumption) (by decide)) | (simp only [Cs.len]; done) | rfl) [] ⟨⟨rfl, (bsEq (congrArg (fun (s : (List Nat) × Nat × (List Nat)) => s.1) (rsopen_it1_z key beside b)).symm), rfl, rfl, rfl, rfl, (nEq (congrArg (fun (s : (List Nat) × Nat × (List Nat)) => s.2.1) (rsopen_it1_z key beside b)).symm), trivial⟩, ⟨rfl, (hEq (congrArg (fun (s : (List Nat) × Nat × (List Nat)) => s.2.2) (rsopen_it1_z key beside b)).symm), trivial⟩, rfl, rfl⟩ ?_
  intro i1_ k1_
  have hf := rsopen_f key beside h_b i1_ k1_
  have hfl : (rsopen_it1 key beside b i1_).1.length + 528 * i1_ ≤ b.length := by rw [hf.1, List.length_drop]; omega
  have hif : (if 528 < (rsopen_it1 key beside b i1_).1.length then 528 else (rsopen_it1 key beside b i1_).1.length) ≤ (rsopen_it1 key beside b i1_).1.length := by split <;> omega
  have hol := ropened_le key (rnonce (rsopen_it1 key beside b i1_).2.1 (decide ((if 528 < (rsopen_it1 key beside b i1_).1.length then 528 else (rsopen_it1 key beside b i1_).1.length) = (rsopen_it1 key beside b i1_).1.length))) (((rsopen_it1 key beside b i1_).1.drop 0).take ((if 528 < (rsopen_it1 key beside b i1_).1.length then 528 else (rsopen_it1 key beside b i1_).1.length) - 0)) beside
  simp only [List.length_take, List.length_drop] at hol
  refine Holds.seq ?_
  refine Holds.block ?_
  refine Holds.seq ?_
  refine Holds.reg ?_
  refine OpsFrom.v (Y.move (up0 rfl rfl rfl) rfl rfl) rfl ?_
  refine OpsFrom.v (Y.len ty26 (up0 rfl rfl rfl) rfl rfl rfl rfl) rfl ?_
  refine OpsFrom.v (Y.assign (up0 rfl rfl rfl) rfl rfl) rfl ?_
  refine OpsFrom.nil ?_
  refine Holds.seqJoin ⟨[(1, .one (.bs false .u8 beside)), (2, .one (.bs false .u8 ((rsopen_it1 key beside b i1_).1))), (3, .one (.p 3 0)), (6, .one (.nil)), (7, .one (.n .i64 0)), (8, .one (.sg 8 0 ((rsopen_it1 key beside b i1_).2.2.length))), (9, .one (.n .u64 ((rsopen_it1 key beside b i1_).2.1))), (16, .one (.bs false .u8 ((rsopen_it1 key beside b i1_).1))), (17, .one (.n .i64 ((rsopen_it1 key beside b i1_).1.length))), (10, .one (.n .i64 (if 528 < (rsopen_it1 key beside b i1_).1.length then 528 else (rsopen_it1 key beside b i1_).1.length))), (18, .one (.n .i64 ((rsopen_it1 key beside b i1_).1.length))), (19, .one (.b (decide (528 < (rsopen_it1 key beside b i1_).1.length))))], [(3, .own (.ints .u8 key)), (8, .own (.ints .u8 ((rsopen_it1 key beside b i1_).2.2)))]⟩ ?_ (fun join => ?_)
  · refine Holds.seq ?_
    refine Holds.reg ?_
    refine OpsFrom.v (Y.move (up0 rfl rfl rfl) rfl rfl) rfl ?_
    refine OpsFrom.v (Y.move (up0 rfl rfl rfl) rfl rfl) rfl ?_
    refine OpsFrom.v (Y.len ty26 (up0 rfl rfl rfl) rfl rfl rfl rfl) rfl ?_
    refine OpsFrom.v (Y.eql (up0 rfl rfl rfl) rfl rfl rfl) rfl ?_
    refine OpsFrom.v (Y.assign (up0 rfl rfl rfl) rfl rfl) rfl ?_
    refine OpsFrom.nil ?_
    refine Holds.seq ?_
    refine Holds.dr mx [([25], [26, 27, 28, 29, 30, 31, 32]), ([26], [25, 27, 29, 30, 31, 32]), ([27], [25, 26, 29, 30, 31, 32]), ([28], [25, 29, 30, 31, 32]), ([29], [25, 26, 27, 28, 30, 32]), ([30], [25, 26, 27, 28, 29, 32]), ([31], [25, 26, 27, 28, 32]), ([32], [25, 26, 27, 28, 29, 30, 31]), ([33], []), ([24], []), ([34], [35]), ([35], [34, 12]), ([12], [35]), ([13], [])] (by kernel_rfl) ?_
    refine CertK.vd (Y.ldAll ty23 rfl (up0 rfl rfl rfl) rfl rfl rfl (by first | (with_reducible assumption) | omega | (simp only [lens, rnonce_len, List.flatten_cons, List.flatten_nil, List.append_nil, List.length_cons, List.length_nil, Cs.len, List.length_map, List.length_set, List.length_replicate, *]; first | done | omega) | decide | (split <;> simp only [lens, rnonce_len, List.flatten_cons, List.flatten_nil, List.append_nil, List.length_cons, List.length_nil, Cs.len, List.length_map, List.length_set, List.length_replicate, *]) | (with_reducible exact Lt.mono (by assumption) (by decide)) | (simp only [Cs.len]; done) | rfl) (by decide)) rfl rfl ?_
    refine CertK.vd (Y.move (up0 rfl rfl rfl) rfl rfl) rfl rfl ?_
    refine CertK.vd (Y.move (up0 rfl rfl rfl) rfl rfl) rfl rfl ?_
    refine CertK.vd (Y.callV (w_rnonce _ _ ) fnok47 (up0 rfl rfl rfl) rfl rfl (.cons _ _ _ _ rfl (.cons _ _ _ _ rfl .nil)) (.cons _ _ _ _ (.same _) (.cons _ _ _ _ (.same _) .nil)) rfl rfl) rfl rfl ?_
    refine CertK.vd (Y.move (up0 rfl rfl rfl) rfl rfl) rfl rfl ?_
    refine CertK.vd (Y.move (up0 rfl rfl rfl) rfl rfl) rfl rfl ?_
    refine CertK.vd (Y.slBs ty26 ty5 (up0 rfl rfl rfl) rfl rfl bnd0 (bnd1 rfl) (by first | (with_reducible assumption) | omega | (simp only [lens, rnonce_len, List.flatten_cons, List.flatten_nil, List.append_nil, List.length_cons, List.length_nil, Cs.len, List.length_map, List.length_set, List.length_replicate, *]; first | done | omega) | decide | (split <;> simp only [lens, rnonce_len, List.flatten_cons, List.flatten_nil, List.append_nil, List.length_cons, List.length_nil, Cs.len, List.length_map, List.length_set, List.length_replicate, *]) | (with_reducible exact Lt.mono (by assumption) (by decide)) | (simp only [Cs.len]; done) | rfl) (by first | (with_reducible assumption) | omega | (simp only [lens, rnonce_len, List.flatten_cons, List.flatten_nil, List.append_nil, List.length_cons, List.length_nil, Cs.len, List.length_map, List.length_set, List.length_replicate, *]; first | done | omega) | decide | (split <;> simp only [lens, rnonce_len, List.flatten_cons, List.flatten_nil, List.append_nil, List.length_cons, List.length_nil, Cs.len, List.length_map, List.length_set, List.length_replicate, *]) | (with_reducible exact Lt.mono (by assumption) (by decide)) | (simp only [Cs.len]; done) | rfl)) rfl rfl ?_
    refine CertK.vd (Y.move (up0 rfl rfl rfl) rfl rfl) rfl rfl ?_
    refine CertK.v (Y.callW (w_ropened _ _ _ _ (by first | (with_reducible assumption) | omega | (simp only [lens, rnonce_len, List.flatten_cons, List.flatten_nil, List.append_nil, List.length_cons, List.length_nil, Cs.len, List.length_map, List.length_set, List.length_replicate, *]; first | done | omega) | decide | (split <;> simp only [lens, rnonce_len, List.flatten_cons, List.flatten_nil, List.append_nil, List.length_cons, List.length_nil, Cs.len, List.length_map, List.length_set, List.length_replicate, *]) | (with_reducible exact Lt.mono (by assumption) (by decide)) | (simp only [Cs.len]; done) | rfl) (by first | (with_reducible assumption) | omega | (simp only [lens, rnonce_len, List.flatten_cons, List.flatten_nil, List.append_nil, List.length_cons, List.length_nil, Cs.len, List.length_map, List.length_set, List.length_replicate, *]; first | done | omega) | decide | (split <;> simp only [lens, rnonce_len, List.flatten_cons, List.flatten_nil, List.append_nil, List.length_cons, List.length_nil, Cs.len, List.length_map, List.length_set, List.length_replicate, *]) | (with_reducible exact Lt.mono (by assumption) (by decide)) | (simp only [Cs.len]; done) | rfl) (by first | (with_reducible assumption) | omega | (simp only [lens, rnonce_len, List.flatten_cons, List.flatten_nil, List.append_nil, List.length_cons, List.length_nil, Cs.len, List.length_map, List.length_set, List.length_replicate, *]; first | done | omega) | decide | (split <;> simp only [lens, rnonce_len, List.flatten_cons, List.flatten_nil, List.append_nil, List.length_cons, List.length_nil, Cs.len, List.length_map, List.length_set, List.length_replicate, *]) | (with_reducible exact Lt.mono (by assumption) (by decide)) | (simp only [Cs.len]; done) | rfl) (by first | (with_reducible assumption) | omega | (simp only [lens, rnonce_len, List.flatten_cons, List.flatten_nil, List.append_nil, List.length_cons, List.length_nil, Cs.len, List.length_map, List.length_set, List.length_replicate, *]; first | done | omega) | decide | (split <;> simp only [lens, rnonce_len, List.flatten_cons, List.flatten_nil, List.append_nil, List.length_cons, List.length_nil, Cs.len, List.length_map, List.length_set, List.length_replicate, *]) | (with_reducible exact Lt.mono (by assumption) (by decide)) | (simp only [Cs.len]; done) | rfl)) fnok42 (up0 rfl rfl rfl) rfl rfl (.cons _ _ _ _ rfl (.cons _ _ _ _ rfl (.cons _ _ _ _ rfl (.cons _ _ _ _ rfl .nil)))) (.cons _ _ _ _ (.same _) (.cons _ _ _ _ (.same _) (.cons _ _ _ _ (.same _) (.cons _ _ _ _ (.same _) .nil)))) rfl rfl) rfl ?_
    refine CertK.v (Y.move (up0 rfl rfl rfl) rfl rfl) rfl ?_
    refine CertK.vd (Y.ext0 (up0 rfl rfl rfl) rfl rfl) rfl rfl ?_
    refine CertK.vd (Y.ext1 (up0 rfl rfl rfl) rfl rfl) rfl rfl ?_
    refine CertK.vd (Y.assign (up0 rfl rfl rfl) rfl rfl) rfl rfl ?_
    refine CertK.v (Y.assign (up0 rfl rfl rfl) rfl rfl) rfl ?_
    refine CertK.nil ?_
    refine Holds.seq ?_
    refine Holds.seqJoin ⟨[(1, .one (.bs false .u8 beside)), (2, .one (.bs false .u8 ((rsopen_it1 key beside b i1_).1))), (3, .one (.p 3 0)), (6, .one (.nil)), (7, .one (.n .i64 0)), (8, .one (.sg 8 0 ((rsopen_it1 key beside b i1_).2.2.length))), (9, .one (.n .u64 ((rsopen_it1 key beside b i1_).2.1))), (16, .one (.bs false .u8 ((rsopen_it1 key beside b i1_).1))), (17, .one (.n .i64 ((rsopen_it1 key beside b i1_).1.length))), (10, .one (.n .i64 (if 528 < (rsopen_it1 key beside b i1_).1.length then 528 else (rsopen_it1 key beside b i1_).1.length))), (18, .one (.n .i64 ((rsopen_it1 key beside b i1_).1.length))), (19, .one (.b (decide (528 < (rsopen_it1 key beside b i1_).1.length)))), (20, .one (.n .i64 (if 528 < (rsopen_it1 key beside b i1_).1.length then 528 else (rsopen_it1 key beside b i1_).1.length))), (21, .one (.bs false .u8 ((rsopen_it1 key beside b i1_).1))), (22, .one (.n .i64 ((rsopen_it1 key beside b i1_).1.length))), (23, .one (.b (decide ((if 528 < (rsopen_it1 key beside b i1_).1.length then 528 else (rsopen_it1 key beside b i1_).1.length) = (rsopen_it1 key beside b i1_).1.length)))), (11, .one (.b (decide ((if 528 < (rsopen_it1 key beside b i1_).1.length then 528 else (rsopen_it1 key beside b i1_).1.length) = (rsopen_it1 key beside b i1_).1.length)))), (25, .row (.ints .u8 key)), (26, .one (.n .u64 ((rsopen_it1 key beside b i1_).2.1))), (27, .one (.b (decide ((if 528 < (rsopen_it1 key beside b i1_).1.length then 528 else (rsopen_it1 key beside b i1_).1.length) = (rsopen_it1 key beside b i1_).1.length)))), (28, .row (.ints .u8 (rnonce (rsopen_it1 key beside b i1_).2.1 (decide ((if 528 < (rsopen_it1 key beside b i1_).1.length then 528 else (rsopen_it1 key beside b i1_).1.length) = (rsopen_it1 key beside b i1_).1.length))))), (29, .one (.bs false .u8 ((rsopen_it1 key beside b i1_).1))), (30, .one (.n .i64 (if 528 < (rsopen_it1 key beside b i1_).1.length then 528 else (rsopen_it1 key beside b i1_).1.length))), (31, .one (.bs false .u8 (((rsopen_it1 key beside b i1_).1.drop 0).take ((if 528 < (rsopen_it1 key beside b i1_).1.length then 528 else (rsopen_it1 key beside b i1_).1.length) - 0)))), (32, .one (.bs false .u8 beside)), (33, .two (.one (.bs false .u8 ((ropened key (rnonce (rsopen_it1 key beside b i1_).2.1 (decide ((if 528 < (rsopen_it1 key beside b i1_).1.length then 528 else (rsopen_it1 key beside b i1_).1.length) = (rsopen_it1 key beside b i1_).1.length))) (((rsopen_it1 key beside b i1_).1.drop 0).take ((if 528 < (rsopen_it1 key beside b i1_).1.length then 528 else (rsopen_it1 key beside b i1_).1.length) - 0)) beside).1))) (.one (.n .i64 ((ropened key (rnonce (rsopen_it1 key beside b i1_).2.1 (decide ((if 528 < (rsopen_it1 key beside b i1_).1.length then 528 else (rsopen_it1 key beside b i1_).1.length) = (rsopen_it1 key beside b i1_).1.length))) (((rsopen_it1 key beside b i1_).1.drop 0).take ((if 528 < (rsopen_it1 key beside b i1_).1.length then 528 else (rsopen_it1 key beside b i1_).1.length) - 0)) beside).2)))), (24, .two (.one (.bs false .u8 ((ropened key (rnonce (rsopen_it1 key beside b i1_).2.1 (decide ((if 528 < (rsopen_it1 key beside b i1_).1.length then 528 else (rsopen_it1 key beside b i1_).1.length) = (rsopen_it1 key beside b i1_).1.length))) (((rsopen_it1 key beside b i1_).1.drop 0).take ((if 528 < (rsopen_it1 key beside b i1_).1.length then 528 else (rsopen_it1 key beside b i1_).1.length) - 0)) beside).1))) (.one (.n .i64 ((ropened key (rnonce (rsopen_it1 key beside b i1_).2.1 (decide ((if 528 < (rsopen_it1 key beside b i1_).1.length then 528 else (rsopen_it1 key beside b i1_).1.length) = (rsopen_it1 key beside b i1_).1.length))) (((rsopen_it1 key beside b i1_).1.drop 0).take ((if 528 < (rsopen_it1 key beside b i1_).1.length then 528 else (rsopen_it1 key beside b i1_).1.length) - 0)) beside).2)))), (34, .one (.bs false .u8 ((ropened key (rnonce (rsopen_it1 key beside b i1_).2.1 (decide ((if 528 < (rsopen_it1 key beside b i1_).1.length then 528 else (rsopen_it1 key beside b i1_).1.length) = (rsopen_it1 key beside b i1_).1.length))) (((rsopen_it1 key beside b i1_).1.drop 0).take ((if 528 < (rsopen_it1 key beside b i1_).1.length then 528 else (rsopen_it1 key beside b i1_).1.length) - 0)) beside).1))), (35, .one (.n .i64 ((ropened key (rnonce (rsopen_it1 key beside b i1_).2.1 (decide ((if 528 < (rsopen_it1 key beside b i1_).1.length then 528 else (rsopen_it1 key beside b i1_).1.length) = (rsopen_it1 key beside b i1_).1.length))) (((rsopen_it1 key beside b i1_).1.drop 0).take ((if 528 < (rsopen_it1 key beside b i1_).1.length then 528 else (rsopen_it1 key beside b i1_).1.length) - 0)) beside).2))), (12, .one (.bs false .u8 ((ropened key (rnonce (rsopen_it1 key beside b i1_).2.1 (decide ((if 528 < (rsopen_it1 key beside b i1_).1.length then 528 else (rsopen_it1 key beside b i1_).1.length) = (rsopen_it1 key beside b i1_).1.length))) (((rsopen_it1 key beside b i1_).1.drop 0).take ((if 528 < (rsopen_it1 key beside b i1_).1.length then 528 else (rsopen_it1 key beside b i1_).1.length) - 0)) beside).1))), (13, .one (.n .i64 ((ropened key (rnonce (rsopen_it1 key beside b i1_).2.1 (decide ((if 528 < (rsopen_it1 key beside b i1_).1.length then 528 else (rsopen_it1 key beside b i1_).1.length) = (rsopen_it1 key beside b i1_).1.length))) (((rsopen_it1 key beside b i1_).1.drop 0).take ((if 528 < (rsopen_it1 key beside b i1_).1.length then 528 else (rsopen_it1 key beside b i1_).1.length) - 0)) beside).2))), (36, .one (.n .i64 ((ropened key (rnonce (rsopen_it1 key beside b i1_).2.1 (decide ((if 528 < (rsopen_it1 key beside b i1_).1.length then 528 else (rsopen_it1 key beside b i1_).1.length) = (rsopen_it1 key beside b i1_).1.length))) (((rsopen_it1 key beside b i1_).1.drop 0).take ((if 528 < (rsopen_it1 key beside b i1_).1.length then 528 else (rsopen_it1 key beside b i1_).1.length) - 0)) beside).2))), (37, .one (.b (decide (((ropened key (rnonce (rsopen_it1 key beside b i1_).2.1 (decide ((if 528 < (rsopen_it1 key beside b i1_).1.length then 528 else (rsopen_it1 key beside b i1_).1.length) = (rsopen_it1 key beside b i1_).1.length))) (((rsopen_it1 key beside b i1_).1.drop 0).take ((if 528 < (rsopen_it1 key beside b i1_).1.length then 528 else (rsopen_it1 key beside b i1_).1.length) - 0)) beside).2) ≠ 0)))), (38, .one (.b (decide ((((ropened key (rnonce (rsopen_it1 key beside b i1_).2.1 (decide ((if 528 < (rsopen_it1 key beside b i1_).1.length then 528 else (rsopen_it1 key beside b i1_).1.length) = (rsopen_it1 key beside b i1_).1.length))) (((rsopen_it1 key beside b i1_).1.drop 0).take ((if 528 < (rsopen_it1 key beside b i1_).1.length then 528 else (rsopen_it1 key beside b i1_).1.length) - 0)) beside).2) ≠ 0) ∨ (((if 528 < (rsopen_it1 key beside b i1_).1.length then 528 else (rsopen_it1 key beside b i1_).1.length) = (rsopen_it1 key beside b i1_).1.length) ∧ ((0 < (rsopen_it1 key beside b i1_).2.1) ∧ ((((ropened key (rnonce (rsopen_it1 key beside b i1_).2.1 (decide ((if 528 < (rsopen_it1 key beside b i1_).1.length then 528 else (rsopen_it1 key beside b i1_).1.length) = (rsopen_it1 key beside b i1_).1.length))) (((rsopen_it1 key beside b i1_).1.drop 0).take ((if 528 < (rsopen_it1 key beside b i1_).1.length then 528 else (rsopen_it1 key beside b i1_).1.length) - 0)) beside).1).length = 0) ∧ (false = true)))))))), (49, .one (.b (decide ((((ropened key (rnonce (rsopen_it1 key beside b i1_).2.1 (decide ((if 528 < (rsopen_it1 key beside b i1_).1.length then 528 else (rsopen_it1 key beside b i1_).1.length) = (rsopen_it1 key beside b i1_).1.length))) (((rsopen_it1 key beside b i1_).1.drop 0).take ((if 528 < (rsopen_it1 key beside b i1_).1.length then 528 else (rsopen_it1 key beside b i1_).1.length) - 0)) beside).2) ≠ 0) ∨ (((if 528 < (rsopen_it1 key beside b i1_).1.length then 528 else (rsopen_it1 key beside b i1_).1.length) = (rsopen_it1 key beside b i1_).1.length) ∧ ((0 < (rsopen_it1 key beside b i1_).2.1) ∧ (((ropened key (rnonce (rsopen_it1 key beside b i1_).2.1 (decide ((if 528 < (rsopen_it1 key beside b i1_).1.length then 528 else (rsopen_it1 key beside b i1_).1.length) = (rsopen_it1 key beside b i1_).1.length))) (((rsopen_it1 key beside b i1_).1.drop 0).take ((if 528 < (rsopen_it1 key beside b i1_).1.length then 528 else (rsopen_it1 key beside b i1_).1.length) - 0)) beside).1).length = 0))))))), (50, .one (.b (decide ((((ropened key (rnonce (rsopen_it1 key beside b i1_).2.1 (decide ((if 528 < (rsopen_it1 key beside b i1_).1.length then 528 else (rsopen_it1 key beside b i1_).1.length) = (rsopen_it1 key beside b i1_).1.length))) (((rsopen_it1 key beside b i1_).1.drop 0).take ((if 528 < (rsopen_it1 key beside b i1_).1.length then 528 else (rsopen_it1 key beside b i1_).1.length) - 0)) beside).2) ≠ 0) ∨ (((if 528 < (rsopen_it1 key beside b i1_).1.length then 528 else (rsopen_it1 key beside b i1_).1.length) = (rsopen_it1 key beside b i1_).1.length) ∧ ((0 < (rsopen_it1 key beside b i1_).2.1) ∧ (((ropened key (rnonce (rsopen_it1 key beside b i1_).2.1 (decide ((if 528 < (rsopen_it1 key beside b i1_).1.length then 528 else (rsopen_it1 key beside b i1_).1.length) = (rsopen_it1 key beside b i1_).1.length))) (((rsopen_it1 key beside b i1_).1.drop 0).take ((if 528 < (rsopen_it1 key beside b i1_).1.length then 528 else (rsopen_it1 key beside b i1_).1.length) - 0)) beside).1).length = 0))))))), (57, .one (.b (decide ((((ropened key (rnonce (rsopen_it1 key beside b i1_).2.1 (decide ((if 528 < (rsopen_it1 key beside b i1_).1.length then 528 else (rsopen_it1 key beside b i1_).1.length) = (rsopen_it1 key beside b i1_).1.length))) (((rsopen_it1 key beside b i1_).1.drop 0).take ((if 528 < (rsopen_it1 key beside b i1_).1.length then 528 else (rsopen_it1 key beside b i1_).1.length) - 0)) beside).2) ≠ 0) ∨ (((if 528 < (rsopen_it1 key beside b i1_).1.length then 528 else (rsopen_it1 key beside b i1_).1.length) = (rsopen_it1 key beside b i1_).1.length) ∧ ((0 < (rsopen_it1 key beside b i1_).2.1) ∧ (((ropened key (rnonce (rsopen_it1 key beside b i1_).2.1 (decide ((if 528 < (rsopen_it1 key beside b i1_).1.length then 528 else (rsopen_it1 key beside b i1_).1.length) = (rsopen_it1 key beside b i1_).1.length))) (((rsopen_it1 key beside b i1_).1.drop 0).take ((if 528 < (rsopen_it1 key beside b i1_).1.length then 528 else (rsopen_it1 key beside b i1_).1.length) - 0)) beside).1).length = 0)))))))], [(3, .own (.ints .u8 key)), (8, .own (.ints .u8 ((rsopen_it1 key beside b i1_).2.2)))]⟩ ?_ (fun join => ?_)
    · refine Holds.condD rfl (fun h57 => ?_) (fun h57 => ?_)
      · obtain rfl : i1_ = ff (fun i => decide (rsbad key beside (rsopen_it1 key beside b i) ∨ rslast (rsopen_it1 key beside b i))) ((b.length - 1) / 528) := rsopen_stop h_b k1_ (.inl h57)
        refine Holds.seq ?_
        refine Holds.reg ?_
        refine OpsFrom.v (Y.assign (up0 rfl rfl rfl) rfl rfl) rfl ?_
        refine OpsFrom.v (Y.assign (v := (.one (.n .i64 180))) (up0 rfl rfl rfl) rfl rfl) rfl ?_
        refine OpsFrom.nil ?_
        refine Holds.ret ?_
        exact Holds.ret2 (.inl rfl) rfl (.tmp _ _ rfl) (.tmp _ _ rfl) (View.cg (congrArg (fun z => (.two (.one (.bs false .u8 z.1)) (.one (.n .i64 z.2)) : AV)) (show (rsopen key beside b) = _ from (by unfold rsopen; exact (if_pos h57)))) (.two _ _ _ _ (.nilB _ _) (.same _))) rfl
      · refine Holds.skip ?_
        refine Holds.seq ?_
        refine Holds.reg ?_
        refine OpsFrom.v (Y.move (up0 rfl rfl rfl) rfl rfl) rfl ?_
        refine OpsFrom.v (Y.move (up0 rfl rfl rfl) rfl rfl) rfl ?_
        refine OpsFrom.u (Y.app (d := 60) ty26 ty5 rfl ty26 (by decide) (up0 rfl rfl rfl) rfl rfl rfl (.all rfl (by first | (with_reducible assumption) | omega | (simp only [lens, rnonce_len, List.flatten_cons, List.flatten_nil, List.append_nil, List.length_cons, List.length_nil, Cs.len, List.length_map, List.length_set, List.length_replicate, *]; first | done | omega) | decide | (split <;> simp only [lens, rnonce_len, List.flatten_cons, List.flatten_nil, List.append_nil, List.length_cons, List.length_nil, Cs.len, List.length_map, List.length_set, List.length_replicate, *]) | (with_reducible exact Lt.mono (by assumption) (by decide)) | (simp only [Cs.len]; done) | rfl)) rfl (.bs _ _ _) App.i (by simp only [Cs.len]; omega) rfl (by first | (simp; done) | (rintro ⟨_, _, _, h⟩; cases h))) rfl rfl rfl ?_
        refine OpsFrom.v (Y.assign (up0 rfl rfl rfl) rfl rfl) rfl ?_
        refine OpsFrom.nil ?_
        refine Holds.seq ?_
        refine Holds.reg ?_
        refine OpsFrom.v (Y.move (up0 rfl rfl rfl) rfl rfl) rfl ?_
        refine OpsFrom.v (Y.move (up0 rfl rfl rfl) rfl rfl) rfl ?_
        refine OpsFrom.v (Y.slBs ty26 ty5 (up0 rfl rfl rfl) rfl rfl (bnd1 rfl) bnd0 (by first | (with_reducible assumption) | omega | (simp only [lens, rnonce_len, List.flatten_cons, List.flatten_nil, List.append_nil, List.length_cons, List.length_nil, Cs.len, List.length_map, List.length_set, List.length_replicate, *]; first | done | omega) | decide | (split <;> simp only [lens, rnonce_len, List.flatten_cons, List.flatten_nil, List.append_nil, List.length_cons, List.length_nil, Cs.len, List.length_map, List.length_set, List.length_replicate, *]) | (with_reducible exact Lt.mono (by assumption) (by decide)) | (simp only [Cs.len]; done) | rfl) (by first | (with_reducible assumption) | omega | (simp only [lens, rnonce_len, List.flatten_cons, List.flatten_nil, List.append_nil, List.length_cons, List.length_nil, Cs.len, List.length_map, List.length_set, List.length_replicate, *]; first | done | omega) | decide | (split <;> simp only [lens, rnonce_len, List.flatten_cons, List.flatten_nil, List.append_nil, List.length_cons, List.length_nil, Cs.len, List.length_map, List.length_set, List.length_replicate, *]) | (with_reducible exact Lt.mono (by assumption) (by decide)) | (simp only [Cs.len]; done) | rfl)) rfl ?_
        refine OpsFrom.v (Y.assign (up0 rfl rfl rfl) rfl rfl) rfl ?_
        refine OpsFrom.nil ?_
        refine Holds.seq ?_
        refine Holds.reg ?_
        refine OpsFrom.v (Y.move (up0 rfl rfl rfl) rfl rfl) rfl ?_
        refine OpsFrom.nil ?_
        refine Holds.condD rfl (fun h64 => ?_) (fun h64 => ?_)
        · obtain rfl : i1_ = ff (fun i => decide (rsbad key beside (rsopen_it1 key beside b i) ∨ rslast (rsopen_it1 key beside b i))) ((b.length - 1) / 528) := rsopen_stop h_b k1_ (.inr (by simpa [rslast] using h64))
          refine Holds.seq ?_
          refine Holds.reg ?_
          refine OpsFrom.v (Y.move (up0 rfl rfl rfl) rfl rfl) rfl ?_
          refine OpsFrom.v (Y.assign (up0 rfl rfl rfl) rfl rfl) rfl ?_
          refine OpsFrom.v (Y.assign (v := (.one (.n .i64 0))) (up0 rfl rfl rfl) rfl rfl) rfl ?_
          refine OpsFrom.nil ?_
          refine Holds.ret ?_
          exact Holds.ret2 (.inl rfl) rfl (.tmp _ _ rfl) (.tmp _ _ rfl) (View.cg (congrArg (fun z => (.two (.one (.bs false .u8 z.1)) (.one (.n .i64 z.2)) : AV)) (show (rsopen key beside b) = _ from (by unfold rsopen; exact (if_neg h57)))) (.two _ _ _ _ (.all rfl (by first | (with_reducible assumption) | omega | (simp only [lens, rnonce_len, List.flatten_cons, List.flatten_nil, List.append_nil, List.length_cons, List.length_nil, Cs.len, List.length_map, List.length_set, List.length_replicate, *]; first | done | omega) | decide | (split <;> simp only [lens, rnonce_len, List.flatten_cons, List.flatten_nil, List.append_nil, List.length_cons, List.length_nil, Cs.len, List.length_map, List.length_set, List.length_replicate, *]) | (with_reducible exact Lt.mono (by assumption) (by decide)) | (simp only [Cs.len]; done) | rfl)) (.same _))) rfl
        · have h1c := (rsopen_iff h_b k1_ h57).1 h64
          refine Holds.skip ?_
          refine Holds.reg ?_
          refine OpsFrom.v (Y.move (up0 rfl rfl rfl) rfl rfl) rfl ?_
          refine OpsFrom.v (Y.add (b := 1) u64s u64m (up0 rfl rfl rfl) rfl rfl rfl) rfl ?_
          refine OpsFrom.v (Y.assign (up0 rfl rfl rfl) rfl rfl) rfl ?_
          refine OpsFrom.nil ?_
          exact Holds.again (i1_ + 1) (by omega) (by omega) [(8, 60)] ⟨⟨rfl, (bsEq (by rw [rsopen_it1_s]; unfold rsopen_s1; first | (dsimp only; done) | rfl)), rfl, rfl, rfl, (sgEq (congrArg List.length (by rw [rsopen_it1_s]; unfold rsopen_s1; first | (dsimp only; done) | rfl)) rfl), (nEq (by rw [rsopen_it1_s]; unfold rsopen_s1; first | (dsimp only; done) | rfl)), trivial⟩, ⟨rfl, (hEq (by rw [rsopen_it1_s]; unfold rsopen_s1; first | (dsimp only; done) | rfl)), trivial⟩, rfl, rfl⟩
    · by_cases a9_2 : (((ropened key (rnonce (rsopen_it1 key beside b i1_).2.1 (decide ((if 528 < (rsopen_it1 key beside b i1_).1.length then 528 else (rsopen_it1 key beside b i1_).1.length) = (rsopen_it1 key beside b i1_).1.length))) (((rsopen_it1 key beside b i1_).1.drop 0).take ((if 528 < (rsopen_it1 key beside b i1_).1.length then 528 else (rsopen_it1 key beside b i1_).1.length) - 0)) beside).2) ≠ 0)
      · refine Holds.reg ?_
        refine OpsFrom.v (Y.move (up0 rfl rfl rfl) rfl rfl) rfl ?_
        refine OpsFrom.v (Y.neq (b := 0) (up0 rfl rfl rfl) rfl rfl rfl) rfl ?_
        refine OpsFrom.v (Doing.isB (c := true) (decide_eq_true a9_2) (Y.move (up0 rfl rfl rfl) rfl rfl)) rfl ?_
        refine OpsFrom.v (Doing.skip _ _ _ _ rfl rfl rfl rfl (dlt rfl (Nat.le_of_ble_eq_true rfl))) rfl ?_
        refine OpsFrom.v (Doing.skip _ _ _ _ rfl rfl rfl rfl (dlt rfl (Nat.le_of_ble_eq_true rfl))) rfl ?_
        refine OpsFrom.v (Doing.skipU _ _ _ _ rfl rfl rfl rfl (dlt rfl (Nat.le_of_ble_eq_true rfl))) rfl ?_
        refine OpsFrom.v (Doing.skipU _ _ _ _ rfl rfl rfl rfl (dlt rfl (Nat.le_of_ble_eq_true rfl))) rfl ?_
        refine OpsFrom.v (Doing.skip _ _ _ _ rfl rfl rfl rfl (dlt rfl (Nat.le_of_ble_eq_true rfl))) rfl ?_
        refine OpsFrom.v (Doing.skip _ _ _ _ rfl rfl rfl rfl (dlt rfl (Nat.le_of_ble_eq_true rfl))) rfl ?_
        refine OpsFrom.v (Doing.skipU _ _ _ _ rfl rfl rfl rfl (dlt rfl (Nat.le_of_ble_eq_true rfl))) rfl ?_
        refine OpsFrom.v (Doing.skipU _ _ _ _ rfl rfl rfl rfl (dlt rfl (Nat.le_of_ble_eq_true rfl))) rfl ?_
        refine OpsFrom.v (Doing.skipU _ _ _ _ rfl rfl rfl rfl (dlt rfl (Nat.le_of_ble_eq_true rfl))) rfl ?_
        refine OpsFrom.v (Doing.skip _ _ _ _ rfl rfl rfl rfl (dlt rfl (Nat.le_of_ble_eq_true rfl))) rfl ?_
        refine OpsFrom.v (Y.pickT (up0 rfl rfl rfl) rfl rfl rfl) rfl ?_
        refine OpsFrom.v (Y.move (up0 rfl rfl rfl) rfl rfl) rfl ?_
        refine OpsFrom.v (Doing.skip _ _ _ _ rfl rfl rfl rfl (dlt rfl (Nat.le_of_ble_eq_true rfl))) rfl ?_
        refine OpsFrom.v (Doing.skip _ _ _ _ rfl rfl rfl rfl (dlt rfl (Nat.le_of_ble_eq_true rfl))) rfl ?_
        refine OpsFrom.v (Doing.skip _ _ _ _ rfl rfl rfl rfl (dlt rfl (Nat.le_of_ble_eq_true rfl))) rfl ?_
        refine OpsFrom.v (Doing.skip _ _ _ _ rfl rfl rfl rfl (dlt rfl (Nat.le_of_ble_eq_true rfl))) rfl ?_
        refine OpsFrom.v (Doing.skip _ _ _ _ rfl rfl rfl rfl (dlt rfl (Nat.le_of_ble_eq_true rfl))) rfl ?_
        refine OpsFrom.v (Doing.skip _ _ _ _ rfl rfl rfl rfl (dlt rfl (Nat.le_of_ble_eq_true rfl))) rfl ?_
        refine OpsFrom.v (Y.pickT (up0 rfl rfl rfl) rfl rfl rfl) rfl ?_
        refine OpsFrom.nil ?_
        exact join _ [] ⟨⟨rfl, rfl, rfl, rfl, rfl, rfl, rfl, rfl, rfl, rfl, rfl, rfl, rfl, rfl, rfl, rfl, rfl, rfl, rfl, rfl, rfl, rfl, rfl, rfl, rfl, rfl, rfl, rfl, rfl, rfl, rfl, rfl, rfl, (bEq ((dT (.inl a9_2)))), (bEq ((dT (.inl a9_2)))), (bEq ((dT (.inl a9_2)))), (bEq ((dT (.inl a9_2)))), trivial⟩, ⟨rfl, rfl, trivial⟩, rfl, rfl⟩
      · by_cases a9_4 : ((if 528 < (rsopen_it1 key beside b i1_).1.length then 528 else (rsopen_it1 key beside b i1_).1.length) = (rsopen_it1 key beside b i1_).1.length)
        · by_cases a9_8 : (0 < (rsopen_it1 key beside b i1_).2.1)
          · by_cases a9_14 : (((ropened key (rnonce (rsopen_it1 key beside b i1_).2.1 (decide ((if 528 < (rsopen_it1 key beside b i1_).1.length then 528 else (rsopen_it1 key beside b i1_).1.length) = (rsopen_it1 key beside b i1_).1.length))) (((rsopen_it1 key beside b i1_).1.drop 0).take ((if 528 < (rsopen_it1 key beside b i1_).1.length then 528 else (rsopen_it1 key beside b i1_).1.length) - 0)) beside).1).length = 0)
            · refine Holds.reg ?_
              refine OpsFrom.v (Y.move (up0 rfl rfl rfl) rfl rfl) rfl ?_
              refine OpsFrom.v (Y.neq (b := 0) (up0 rfl rfl rfl) rfl rfl rfl) rfl ?_
              refine OpsFrom.v (Doing.isB (c := false) (decide_eq_false a9_2) (Y.move (up0 rfl rfl rfl) rfl rfl)) rfl ?_
              refine OpsFrom.v (Y.move (up1 rfl rfl rfl rfl rfl rfl) rfl rfl) rfl ?_
              refine OpsFrom.v (Doing.isB (c := true) (decide_eq_true a9_4) (Y.move (up1 rfl rfl rfl rfl rfl rfl) rfl rfl)) rfl ?_
              refine OpsFrom.v (Y.move (up1 rfl rfl rfl rfl rfl rfl) rfl rfl) rfl ?_
              refine OpsFrom.v (Y.gtr (b := 0) (up1 rfl rfl rfl rfl rfl rfl) rfl rfl rfl) rfl ?_
              refine OpsFrom.v (Y.pickT (up1 rfl rfl rfl rfl rfl rfl) rfl rfl rfl) rfl ?_
              refine OpsFrom.v (Doing.isB (c := true) (decide_eq_true a9_8) (Y.move (up1 rfl rfl rfl rfl rfl rfl) rfl rfl)) rfl ?_
              refine OpsFrom.v (Y.move (up1 rfl rfl rfl rfl rfl rfl) rfl rfl) rfl ?_
              refine OpsFrom.v (Y.len ty26 (up1 rfl rfl rfl rfl rfl rfl) rfl rfl rfl rfl) rfl ?_
              refine OpsFrom.v (Y.eql (b := 0) (up1 rfl rfl rfl rfl rfl rfl) rfl rfl rfl) rfl ?_
              refine OpsFrom.v (Y.pickT (up1 rfl rfl rfl rfl rfl rfl) rfl rfl rfl) rfl ?_
              refine OpsFrom.v (Y.pickF (up0 rfl rfl rfl) rfl rfl rfl) rfl ?_
              refine OpsFrom.v (Doing.isB (c := true) (decide_eq_true a9_14) (Y.move (up0 rfl rfl rfl) rfl rfl)) rfl ?_
              refine OpsFrom.v (Doing.skip _ _ _ _ rfl rfl rfl rfl (dlt rfl (Nat.le_of_ble_eq_true rfl))) rfl ?_
              refine OpsFrom.v (Doing.skip _ _ _ _ rfl rfl rfl rfl (dlt rfl (Nat.le_of_ble_eq_true rfl))) rfl ?_
              refine OpsFrom.v (Doing.skip _ _ _ _ rfl rfl rfl rfl (dlt rfl (Nat.le_of_ble_eq_true rfl))) rfl ?_
              refine OpsFrom.v (Doing.skip _ _ _ _ rfl rfl rfl rfl (dlt rfl (Nat.le_of_ble_eq_true rfl))) rfl ?_
              refine OpsFrom.v (Doing.skip _ _ _ _ rfl rfl rfl rfl (dlt rfl (Nat.le_of_ble_eq_true rfl))) rfl ?_
              refine OpsFrom.v (Doing.skip _ _ _ _ rfl rfl rfl rfl (dlt rfl (Nat.le_of_ble_eq_true rfl))) rfl ?_
              refine OpsFrom.v (Y.pickT (up0 rfl rfl rfl) rfl rfl rfl) rfl ?_
              refine OpsFrom.nil ?_
              exact join _ [] ⟨⟨rfl, rfl, rfl, rfl, rfl, rfl, rfl, rfl, rfl, rfl, rfl, rfl, rfl, rfl, rfl, rfl, rfl, rfl, rfl, rfl, rfl, rfl, rfl, rfl, rfl, rfl, rfl, rfl, rfl, rfl, rfl, rfl, rfl, (bEq (((((dAndB a9_14)).trans (dAnd a9_8)).trans (dAnd a9_4)).trans (dOr a9_2))), (bEq ((((dAnd a9_8)).trans (dAnd a9_4)).trans (dOr a9_2))), (bEq (((((dT a9_14)).trans (dAnd a9_8)).trans (dAnd a9_4)).trans (dOr a9_2))), (bEq (((((dT a9_14)).trans (dAnd a9_8)).trans (dAnd a9_4)).trans (dOr a9_2))), trivial⟩, ⟨rfl, rfl, trivial⟩, rfl, rfl⟩
            · refine Holds.reg ?_
              refine OpsFrom.v (Y.move (up0 rfl rfl rfl) rfl rfl) rfl ?_
              refine OpsFrom.v (Y.neq (b := 0) (up0 rfl rfl rfl) rfl rfl rfl) rfl ?_
              refine OpsFrom.v (Doing.isB (c := false) (decide_eq_false a9_2) (Y.move (up0 rfl rfl rfl) rfl rfl)) rfl ?_
              refine OpsFrom.v (Y.move (up1 rfl rfl rfl rfl rfl rfl) rfl rfl) rfl ?_
              refine OpsFrom.v (Doing.isB (c := true) (decide_eq_true a9_4) (Y.move (up1 rfl rfl rfl rfl rfl rfl) rfl rfl)) rfl ?_
              refine OpsFrom.v (Y.move (up1 rfl rfl rfl rfl rfl rfl) rfl rfl) rfl ?_
              refine OpsFrom.v (Y.gtr (b := 0) (up1 rfl rfl rfl rfl rfl rfl) rfl rfl rfl) rfl ?_
              refine OpsFrom.v (Y.pickT (up1 rfl rfl rfl rfl rfl rfl) rfl rfl rfl) rfl ?_
              refine OpsFrom.v (Doing.isB (c := true) (decide_eq_true a9_8) (Y.move (up1 rfl rfl rfl rfl rfl rfl) rfl rfl)) rfl ?_
              refine OpsFrom.v (Y.move (up1 rfl rfl rfl rfl rfl rfl) rfl rfl) rfl ?_
              refine OpsFrom.v (Y.len ty26 (up1 rfl rfl rfl rfl rfl rfl) rfl rfl rfl rfl) rfl ?_
              refine OpsFrom.v (Y.eql (b := 0) (up1 rfl rfl rfl rfl rfl rfl) rfl rfl rfl) rfl ?_
              refine OpsFrom.v (Y.pickT (up1 rfl rfl rfl rfl rfl rfl) rfl rfl rfl) rfl ?_
              refine OpsFrom.v (Y.pickF (up0 rfl rfl rfl) rfl rfl rfl) rfl ?_
              refine OpsFrom.v (Doing.isB (c := false) (decide_eq_false a9_14) (Y.move (up0 rfl rfl rfl) rfl rfl)) rfl ?_
              refine OpsFrom.v (Y.move (up1 rfl rfl rfl rfl rfl rfl) rfl rfl) rfl ?_
              refine OpsFrom.v (Y.len ty26 (up1 rfl rfl rfl rfl rfl rfl) rfl rfl rfl rfl) rfl ?_
              refine OpsFrom.v (Y.move (up1 rfl rfl rfl rfl rfl rfl) rfl rfl) rfl ?_
              refine OpsFrom.v (Y.len ty26 (up1 rfl rfl rfl rfl rfl rfl) rfl rfl rfl rfl) rfl ?_
              refine OpsFrom.v (Y.addI (up1 rfl rfl rfl rfl rfl rfl) rfl rfl rfl (by first | (with_reducible assumption) | omega | (simp only [lens, rnonce_len, List.flatten_cons, List.flatten_nil, List.append_nil, List.length_cons, List.length_nil, Cs.len, List.length_map, List.length_set, List.length_replicate, *]; first | done | omega) | decide | (split <;> simp only [lens, rnonce_len, List.flatten_cons, List.flatten_nil, List.append_nil, List.length_cons, List.length_nil, Cs.len, List.length_map, List.length_set, List.length_replicate, *]) | (with_reducible exact Lt.mono (by assumption) (by decide)) | (simp only [Cs.len]; done) | rfl)) rfl ?_
              refine OpsFrom.v (Doing.isB (c := false) (decide_eq_false (by first | (with_reducible assumption) | omega | (simp only [lens, rnonce_len, List.flatten_cons, List.flatten_nil, List.append_nil, List.length_cons, List.length_nil, Cs.len, List.length_map, List.length_set, List.length_replicate, *]; first | done | omega) | decide | (split <;> simp only [lens, rnonce_len, List.flatten_cons, List.flatten_nil, List.append_nil, List.length_cons, List.length_nil, Cs.len, List.length_map, List.length_set, List.length_replicate, *]) | (with_reducible exact Lt.mono (by assumption) (by decide)) | (simp only [Cs.len]; done) | rfl)) (Y.gtr (b := 4194304) (up1 rfl rfl rfl rfl rfl rfl) rfl rfl rfl)) rfl ?_
              refine OpsFrom.v (Y.pickF (up0 rfl rfl rfl) rfl rfl rfl) rfl ?_
              refine OpsFrom.nil ?_
              exact join _ [] ⟨⟨rfl, rfl, rfl, rfl, rfl, rfl, rfl, rfl, rfl, rfl, rfl, rfl, rfl, rfl, rfl, rfl, rfl, rfl, rfl, rfl, rfl, rfl, rfl, rfl, rfl, rfl, rfl, rfl, rfl, rfl, rfl, rfl, rfl, (bEq (((((dF (fun k => a9_14 k.1))).trans (dAnd a9_8)).trans (dAnd a9_4)).trans (dOr a9_2))), (bEq ((((dAnd a9_8)).trans (dAnd a9_4)).trans (dOr a9_2))), (bEq (((((dF a9_14)).trans (dAnd a9_8)).trans (dAnd a9_4)).trans (dOr a9_2))), (bEq (((((dF a9_14)).trans (dAnd a9_8)).trans (dAnd a9_4)).trans (dOr a9_2))), trivial⟩, ⟨rfl, rfl, trivial⟩, rfl, rfl⟩
          · refine Holds.reg ?_
            refine OpsFrom.v (Y.move (up0 rfl rfl rfl) rfl rfl) rfl ?_
            refine OpsFrom.v (Y.neq (b := 0) (up0 rfl rfl rfl) rfl rfl rfl) rfl ?_
            refine OpsFrom.v (Doing.isB (c := false) (decide_eq_false a9_2) (Y.move (up0 rfl rfl rfl) rfl rfl)) rfl ?_
            refine OpsFrom.v (Y.move (up1 rfl rfl rfl rfl rfl rfl) rfl rfl) rfl ?_
            refine OpsFrom.v (Doing.isB (c := true) (decide_eq_true a9_4) (Y.move (up1 rfl rfl rfl rfl rfl rfl) rfl rfl)) rfl ?_
            refine OpsFrom.v (Y.move (up1 rfl rfl rfl rfl rfl rfl) rfl rfl) rfl ?_
            refine OpsFrom.v (Y.gtr (b := 0) (up1 rfl rfl rfl rfl rfl rfl) rfl rfl rfl) rfl ?_
            refine OpsFrom.v (Y.pickT (up1 rfl rfl rfl rfl rfl rfl) rfl rfl rfl) rfl ?_
            refine OpsFrom.v (Doing.isB (c := false) (decide_eq_false a9_8) (Y.move (up1 rfl rfl rfl rfl rfl rfl) rfl rfl)) rfl ?_
            refine OpsFrom.v (Doing.skip _ _ _ _ rfl rfl rfl rfl (dlt rfl (Nat.le_of_ble_eq_true rfl))) rfl ?_
            refine OpsFrom.v (Doing.skip _ _ _ _ rfl rfl rfl rfl (dlt rfl (Nat.le_of_ble_eq_true rfl))) rfl ?_
            refine OpsFrom.v (Doing.skip _ _ _ _ rfl rfl rfl rfl (dlt rfl (Nat.le_of_ble_eq_true rfl))) rfl ?_
            refine OpsFrom.v (Y.pickF (up1 rfl rfl rfl rfl rfl rfl) rfl rfl rfl) rfl ?_
            refine OpsFrom.v (Y.pickF (up0 rfl rfl rfl) rfl rfl rfl) rfl ?_
            refine OpsFrom.v (Y.move (up0 rfl rfl rfl) rfl rfl) rfl ?_
            refine OpsFrom.v (Y.move (up1 rfl rfl rfl rfl rfl rfl) rfl rfl) rfl ?_
            refine OpsFrom.v (Y.len ty26 (up1 rfl rfl rfl rfl rfl rfl) rfl rfl rfl rfl) rfl ?_
            refine OpsFrom.v (Y.move (up1 rfl rfl rfl rfl rfl rfl) rfl rfl) rfl ?_
            refine OpsFrom.v (Y.len ty26 (up1 rfl rfl rfl rfl rfl rfl) rfl rfl rfl rfl) rfl ?_
            refine OpsFrom.v (Y.addI (up1 rfl rfl rfl rfl rfl rfl) rfl rfl rfl (by first | (with_reducible assumption) | omega | (simp only [lens, rnonce_len, List.flatten_cons, List.flatten_nil, List.append_nil, List.length_cons, List.length_nil, Cs.len, List.length_map, List.length_set, List.length_replicate, *]; first | done | omega) | decide | (split <;> simp only [lens, rnonce_len, List.flatten_cons, List.flatten_nil, List.append_nil, List.length_cons, List.length_nil, Cs.len, List.length_map, List.length_set, List.length_replicate, *]) | (with_reducible exact Lt.mono (by assumption) (by decide)) | (simp only [Cs.len]; done) | rfl)) rfl ?_
            refine OpsFrom.v (Doing.isB (c := false) (decide_eq_false (by first | (with_reducible assumption) | omega | (simp only [lens, rnonce_len, List.flatten_cons, List.flatten_nil, List.append_nil, List.length_cons, List.length_nil, Cs.len, List.length_map, List.length_set, List.length_replicate, *]; first | done | omega) | decide | (split <;> simp only [lens, rnonce_len, List.flatten_cons, List.flatten_nil, List.append_nil, List.length_cons, List.length_nil, Cs.len, List.length_map, List.length_set, List.length_replicate, *]) | (with_reducible exact Lt.mono (by assumption) (by decide)) | (simp only [Cs.len]; done) | rfl)) (Y.gtr (b := 4194304) (up1 rfl rfl rfl rfl rfl rfl) rfl rfl rfl)) rfl ?_
            refine OpsFrom.v (Y.pickF (up0 rfl rfl rfl) rfl rfl rfl) rfl ?_
            refine OpsFrom.nil ?_
            exact join _ [] ⟨⟨rfl, rfl, rfl, rfl, rfl, rfl, rfl, rfl, rfl, rfl, rfl, rfl, rfl, rfl, rfl, rfl, rfl, rfl, rfl, rfl, rfl, rfl, rfl, rfl, rfl, rfl, rfl, rfl, rfl, rfl, rfl, rfl, rfl, (bEq ((((dF (fun k => a9_8 k.1))).trans (dAnd a9_4)).trans (dOr a9_2))), (bEq ((((dF (fun k => a9_8 k.1))).trans (dAnd a9_4)).trans (dOr a9_2))), (bEq ((((dF (fun k => a9_8 k.1))).trans (dAnd a9_4)).trans (dOr a9_2))), (bEq ((((dF (fun k => a9_8 k.1))).trans (dAnd a9_4)).trans (dOr a9_2))), trivial⟩, ⟨rfl, rfl, trivial⟩, rfl, rfl⟩
        · refine Holds.reg ?_
          refine OpsFrom.v (Y.move (up0 rfl rfl rfl) rfl rfl) rfl ?_
          refine OpsFrom.v (Y.neq (b := 0) (up0 rfl rfl rfl) rfl rfl rfl) rfl ?_
          refine OpsFrom.v (Doing.isB (c := false) (decide_eq_false a9_2) (Y.move (up0 rfl rfl rfl) rfl rfl)) rfl ?_
          refine OpsFrom.v (Y.move (up1 rfl rfl rfl rfl rfl rfl) rfl rfl) rfl ?_
          refine OpsFrom.v (Doing.isB (c := false) (decide_eq_false a9_4) (Y.move (up1 rfl rfl rfl rfl rfl rfl) rfl rfl)) rfl ?_
          refine OpsFrom.v (Doing.skip _ _ _ _ rfl rfl rfl rfl (dlt rfl (Nat.le_of_ble_eq_true rfl))) rfl ?_
          refine OpsFrom.v (Doing.skip _ _ _ _ rfl rfl rfl rfl (dlt rfl (Nat.le_of_ble_eq_true rfl))) rfl ?_
          refine OpsFrom.v (Y.pickF (up1 rfl rfl rfl rfl rfl rfl) rfl rfl rfl) rfl ?_
          refine OpsFrom.v (Y.move (up1 rfl rfl rfl rfl rfl rfl) rfl rfl) rfl ?_
          refine OpsFrom.v (Doing.skip _ _ _ _ rfl rfl rfl rfl (dlt rfl (Nat.le_of_ble_eq_true rfl))) rfl ?_
          refine OpsFrom.v (Doing.skip _ _ _ _ rfl rfl rfl rfl (dlt rfl (Nat.le_of_ble_eq_true rfl))) rfl ?_
          refine OpsFrom.v (Doing.skip _ _ _ _ rfl rfl rfl rfl (dlt rfl (Nat.le_of_ble_eq_true rfl))) rfl ?_
          refine OpsFrom.v (Y.pickF (up1 rfl rfl rfl rfl rfl rfl) rfl rfl rfl) rfl ?_
          refine OpsFrom.v (Y.pickF (up0 rfl rfl rfl) rfl rfl rfl) rfl ?_
          refine OpsFrom.v (Y.move (up0 rfl rfl rfl) rfl rfl) rfl ?_
          refine OpsFrom.v (Y.move (up1 rfl rfl rfl rfl rfl rfl) rfl rfl) rfl ?_
          refine OpsFrom.v (Y.len ty26 (up1 rfl rfl rfl rfl rfl rfl) rfl rfl rfl rfl) rfl ?_
          refine OpsFrom.v (Y.move (up1 rfl rfl rfl rfl rfl rfl) rfl rfl) rfl ?_
          refine OpsFrom.v (Y.len ty26 (up1 rfl rfl rfl rfl rfl rfl) rfl rfl rfl rfl) rfl ?_
          refine OpsFrom.v (Y.addI (up1 rfl rfl rfl rfl rfl rfl) rfl rfl rfl (by first | (with_reducible assumption) | omega | (simp only [lens, rnonce_len, List.flatten_cons, List.flatten_nil, List.append_nil, List.length_cons, List.length_nil, Cs.len, List.length_map, List.length_set, List.length_replicate, *]; first | done | omega) | decide | (split <;> simp only [lens, rnonce_len, List.flatten_cons, List.flatten_nil, List.append_nil, List.length_cons, List.length_nil, Cs.len, List.length_map, List.length_set, List.length_replicate, *]) | (with_reducible exact Lt.mono (by assumption) (by decide)) | (simp only [Cs.len]; done) | rfl)) rfl ?_
          refine OpsFrom.v (Doing.isB (c := false) (decide_eq_false (by first | (with_reducible assumption) | omega | (simp only [lens, rnonce_len, List.flatten_cons, List.flatten_nil, List.append_nil, List.length_cons, List.length_nil, Cs.len, List.length_map, List.length_set, List.length_replicate, *]; first | done | omega) | decide | (split <;> simp only [lens, rnonce_len, List.flatten_cons, List.flatten_nil, List.append_nil, List.length_cons, List.length_nil, Cs.len, List.length_map, List.length_set, List.length_replicate, *]) | (with_reducible exact Lt.mono (by assumption) (by decide)) | (simp only [Cs.len]; done) | rfl)) (Y.gtr (b := 4194304) (up1 rfl rfl rfl rfl rfl rfl) rfl rfl rfl)) rfl ?_
          refine OpsFrom.v (Y.pickF (up0 rfl rfl rfl) rfl rfl rfl) rfl ?_
          refine OpsFrom.nil ?_
          exact join _ [] ⟨⟨rfl, rfl, rfl, rfl, rfl, rfl, rfl, rfl, rfl, rfl, rfl, rfl, rfl, rfl, rfl, rfl, rfl, rfl, rfl, rfl, rfl, rfl, rfl, rfl, rfl, rfl, rfl, rfl, rfl, rfl, rfl, rfl, rfl, (bEq (((dF (fun k => a9_4 k.1))).trans (dOr a9_2))), (bEq (((dF (fun k => a9_4 k.1))).trans (dOr a9_2))), (bEq (((dF (fun k => a9_4 k.1))).trans (dOr a9_2))), (bEq (((dF (fun k => a9_4 k.1))).trans (dOr a9_2))), trivial⟩, ⟨rfl, rfl, trivial⟩, rfl, rfl⟩
  · refine Holds.seq ?_
    refine Holds.reg ?_
    refine OpsFrom.v (Y.move (up0 rfl rfl rfl) rfl rfl) rfl ?_
    refine OpsFrom.v (Y.gtr (b := 528) (up0 rfl rfl rfl) rfl rfl rfl) rfl ?_
    refine OpsFrom.nil ?_
    refine Holds.condD rfl (fun h19 => ?_) (fun h19 => ?_)
    · refine Holds.reg ?_
      refine OpsFrom.v (Y.assign (v := (.one (.n .i64 528))) (up0 rfl rfl rfl) rfl rfl) rfl ?_
      refine OpsFrom.nil ?_
      exact join _ [] ⟨⟨rfl, rfl, rfl, rfl, rfl, rfl, rfl, rfl, rfl, (nEq (if_pos h19).symm), rfl, rfl, trivial⟩, ⟨rfl, rfl, trivial⟩, rfl, rfl⟩
    · refine Holds.skip ?_
      exact join _ [] ⟨⟨rfl, rfl, rfl, rfl, rfl, rfl, rfl, rfl, rfl, (nEq (if_neg h19).symm), rfl, rfl, trivial⟩, ⟨rfl, rfl, trivial⟩, rfl, rfl⟩


end Go.Proofs.Ytkpelchcpiafaaa
