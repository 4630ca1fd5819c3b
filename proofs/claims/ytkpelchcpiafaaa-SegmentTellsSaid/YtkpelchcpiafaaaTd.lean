/-
  Walks: opening segments.
-/
import Derived.Test.YtkpelchcpiafaaaTa
namespace Go.Proofs.Ytkpelchcpiafaaa
open Go Go.Fx
set_option linter.unusedVariables false
set_option linter.unusedSimpArgs false
/-- The first place that answers true, n at the most. -/
def ffr (p : Nat → Bool) : Nat → Nat → Nat
  | 0, i => i
  | k + 1, i => if p i = true then i else ffr p k (i + 1)
def ff (p : Nat → Bool) (n : Nat) : Nat := ffr p n 0
theorem ffr_spec (p : Nat → Bool) : ∀ k i, i ≤ ffr p k i ∧ ffr p k i ≤ i + k ∧ (∀ j, i ≤ j → j < ffr p k i → p j = false) ∧ (ffr p k i < i + k → p (ffr p k i) = true)
  | 0, i => ⟨Nat.le_refl _, Nat.le_refl _, fun j h1 h2 => absurd h2 (by unfold ffr; omega), fun h => absurd h (by unfold ffr; omega)⟩
  | k + 1, i => by
    unfold ffr
    by_cases h : p i = true
    · rw [if_pos h]
      exact ⟨Nat.le_refl _, by omega, fun j h1 h2 => by omega, fun _ => h⟩
    · rw [if_neg h]
      obtain ⟨h1, h2, h3, h4⟩ := ffr_spec p k (i + 1)
      refine ⟨by omega, by omega, fun j h5 h6 => ?_, fun h5 => h4 (by omega)⟩
      by_cases h7 : j = i
      · subst h7; simpa using h
      · exact h3 j (by omega) h6
theorem ff_le (p : Nat → Bool) (n : Nat) : ff p n ≤ n := by have := (ffr_spec p n 0).2.1; unfold ff; omega
theorem ff_lt {p : Nat → Bool} {n j : Nat} (h : j < ff p n) : p j = false := (ffr_spec p n 0).2.2.1 j (Nat.zero_le _) h
theorem ff_at {p : Nat → Bool} {n : Nat} (hn : p n = true) : p (ff p n) = true := by
  have h := ffr_spec p n 0
  by_cases q : ffr p n 0 < 0 + n
  · exact h.2.2.2 q
  · have : ff p n = n := by unfold ff; omega
    rw [this]; exact hn
def slast (m : List Nat × Nat × List Nat) : Prop := Min.min m.1.length 528 = m.1.length
instance (m) : Decidable (slast m) := by unfold slast; exact inferInstance
def sbad (key beside : List Nat) (m : List Nat × Nat × List Nat) : Prop := ((opened key (nonce m.2.1 (decide (Min.min m.1.length 528 = m.1.length))) ((m.1.drop 0).take (Min.min m.1.length 528 - 0)) beside).2 ≠ 0) ∨ ((Min.min m.1.length 528 = m.1.length) ∧ ((0 < m.2.1) ∧ ((opened key (nonce m.2.1 (decide (Min.min m.1.length 528 = m.1.length))) ((m.1.drop 0).take (Min.min m.1.length 528 - 0)) beside).1.length = 0)))
instance (key beside m) : Decidable (sbad key beside m) := by unfold sbad; exact inferInstance
def sopen_s1 (key : List Nat) (beside : List Nat) (b : List Nat) (i1_ : Nat) (m1_ : (List Nat) × Nat × (List Nat)) : (List Nat) × Nat × (List Nat) :=
  let v60_ : Bool := decide ((Min.min m1_.1.length 528) = m1_.1.length)
  let v61_ : List Nat := (m1_.1.drop 0).take ((Min.min m1_.1.length 528) - 0)
  let v62_ : List Nat := (opened key (nonce m1_.2.1 v60_) v61_ beside).1
  let v64_ : List Nat := (m1_.1.drop (Min.min m1_.1.length 528)).take (m1_.1.length - (Min.min m1_.1.length 528))
  (v64_, (m1_.2.1 + 1) % 18446744073709551616, m1_.2.2 ++ v62_)
def sopen_it1 (key : List Nat) (beside : List Nat) (b : List Nat) (i1_ : Nat) : (List Nat) × Nat × (List Nat) := iter (sopen_s1 key beside b) i1_ (b, 0, [])
theorem sopen_it1_z (key : List Nat) (beside : List Nat) (b : List Nat) : sopen_it1 key beside b 0 = (b, 0, []) := rfl
theorem sopen_it1_s (key : List Nat) (beside : List Nat) (b : List Nat) (i1_ : Nat) : sopen_it1 key beside b (i1_ + 1) = sopen_s1 key beside b i1_ (sopen_it1 key beside b i1_) := by unfold sopen_it1; exact iterS _ _ _
theorem sopen_f0 (key beside : List Nat) {b : List Nat} (hb : b.length ≤ 4194304) : ∀ i, 528 * i ≤ b.length → (sopen_it1 key beside b i).1 = b.drop (528 * i) ∧ (sopen_it1 key beside b i).2.1 = i ∧ (sopen_it1 key beside b i).2.2.length ≤ 528 * i
  | 0, _ => ⟨rfl, rfl, Nat.le_refl _⟩
  | i + 1, h => by
    obtain ⟨h1, h2, h3⟩ := sopen_f0 key beside hb i (by omega)
    have h4 := opened_le key (nonce (sopen_it1 key beside b i).2.1 (decide (Min.min (sopen_it1 key beside b i).1.length 528 = (sopen_it1 key beside b i).1.length))) (((sopen_it1 key beside b i).1.drop 0).take (Min.min (sopen_it1 key beside b i).1.length 528 - 0)) beside
    rw [sopen_it1_s]
    unfold sopen_s1
    dsimp only
    rw [h1, h2, List.length_drop] at *
    simp only [List.length_take, List.length_drop] at h4
    refine ⟨?_, by omega, by rw [List.length_append]; omega⟩
    rw [show Min.min (b.length - 528 * i) 528 = 528 by omega, List.take_of_length_le (by simp only [List.length_drop]; omega)]
    rw [List.drop_drop]
    exact congrArg (fun n => b.drop n) (by omega)
theorem sopen_N (key beside : List Nat) (b : List Nat) {i : Nat} (h : i ≤ ff (fun i => decide (sbad key beside (sopen_it1 key beside b i) ∨ slast (sopen_it1 key beside b i))) ((b.length - 1) / 528)) : 528 * i ≤ b.length := by
  have := ff_le (fun i => decide (sbad key beside (sopen_it1 key beside b i) ∨ slast (sopen_it1 key beside b i))) ((b.length - 1) / 528)
  omega
theorem sopen_f (key beside : List Nat) {b : List Nat} (hb : b.length ≤ 4194304) (i : Nat) (h : i ≤ ff (fun i => decide (sbad key beside (sopen_it1 key beside b i) ∨ slast (sopen_it1 key beside b i))) ((b.length - 1) / 528)) : (sopen_it1 key beside b i).1 = b.drop (528 * i) ∧ (sopen_it1 key beside b i).2.1 = i ∧ (sopen_it1 key beside b i).2.2.length ≤ 528 * i ∧ 528 * i ≤ b.length :=
  have h2 := sopen_N key beside b h
  have h1 := sopen_f0 key beside hb i h2
  ⟨h1.1, h1.2.1, h1.2.2, h2⟩
theorem sopen_end (key beside : List Nat) {b : List Nat} (hb : b.length ≤ 4194304) : slast (sopen_it1 key beside b ((b.length - 1) / 528)) := by
  unfold slast
  rw [(sopen_f0 key beside hb _ (by omega)).1, List.length_drop]
  omega
theorem sopen_stop {key beside b : List Nat} (hb : b.length ≤ 4194304) {i : Nat} (hi : i ≤ ff (fun i => decide (sbad key beside (sopen_it1 key beside b i) ∨ slast (sopen_it1 key beside b i))) ((b.length - 1) / 528)) (h : sbad key beside (sopen_it1 key beside b i) ∨ slast (sopen_it1 key beside b i)) : i = ff (fun i => decide (sbad key beside (sopen_it1 key beside b i) ∨ slast (sopen_it1 key beside b i))) ((b.length - 1) / 528) := by
  by_cases q : i < ff (fun i => decide (sbad key beside (sopen_it1 key beside b i) ∨ slast (sopen_it1 key beside b i))) ((b.length - 1) / 528)
  · have := ff_lt q
    exact absurd h (of_decide_eq_false this)
  · omega
theorem sopen_iff {key beside b : List Nat} (hb : b.length ≤ 4194304) {i : Nat} (hi : i ≤ ff (fun i => decide (sbad key beside (sopen_it1 key beside b i) ∨ slast (sopen_it1 key beside b i))) ((b.length - 1) / 528)) (h57 : ¬ sbad key beside (sopen_it1 key beside b i)) : ((!decide (Min.min (sopen_it1 key beside b i).1.length 528 = (sopen_it1 key beside b i).1.length)) = true) ↔ i < ff (fun i => decide (sbad key beside (sopen_it1 key beside b i) ∨ slast (sopen_it1 key beside b i))) ((b.length - 1) / 528) := by
  constructor
  · intro h
    by_cases q : i = ff (fun i => decide (sbad key beside (sopen_it1 key beside b i) ∨ slast (sopen_it1 key beside b i))) ((b.length - 1) / 528)
    · exfalso
      have := of_decide_eq_true (ff_at (p := fun i => decide (sbad key beside (sopen_it1 key beside b i) ∨ slast (sopen_it1 key beside b i))) (n := (b.length - 1) / 528) (decide_eq_true (.inr (sopen_end key beside hb))))
      rw [← q] at this
      rcases this with k | k
      · exact h57 k
      · unfold slast at k
        rw [decide_eq_true k] at h
        cases h
    · omega
  · intro h
    have := of_decide_eq_false (ff_lt h)
    have k : ¬ (Min.min (sopen_it1 key beside b i).1.length 528 = (sopen_it1 key beside b i).1.length) := fun k => this (.inr k)
    rw [decide_eq_false k]
    rfl
def sopen (key : List Nat) (beside : List Nat) (b : List Nat) : (List Nat) × Nat :=
  if (((opened key (nonce (sopen_it1 key beside b (ff (fun i => decide (sbad key beside (sopen_it1 key beside b i) ∨ slast (sopen_it1 key beside b i))) ((b.length - 1) / 528))).2.1 (decide ((Min.min (sopen_it1 key beside b (ff (fun i => decide (sbad key beside (sopen_it1 key beside b i) ∨ slast (sopen_it1 key beside b i))) ((b.length - 1) / 528))).1.length 528) = (sopen_it1 key beside b (ff (fun i => decide (sbad key beside (sopen_it1 key beside b i) ∨ slast (sopen_it1 key beside b i))) ((b.length - 1) / 528))).1.length))) (((sopen_it1 key beside b (ff (fun i => decide (sbad key beside (sopen_it1 key beside b i) ∨ slast (sopen_it1 key beside b i))) ((b.length - 1) / 528))).1.drop 0).take ((Min.min (sopen_it1 key beside b (ff (fun i => decide (sbad key beside (sopen_it1 key beside b i) ∨ slast (sopen_it1 key beside b i))) ((b.length - 1) / 528))).1.length 528) - 0)) beside).2) ≠ 0) ∨ (((Min.min (sopen_it1 key beside b (ff (fun i => decide (sbad key beside (sopen_it1 key beside b i) ∨ slast (sopen_it1 key beside b i))) ((b.length - 1) / 528))).1.length 528) = (sopen_it1 key beside b (ff (fun i => decide (sbad key beside (sopen_it1 key beside b i) ∨ slast (sopen_it1 key beside b i))) ((b.length - 1) / 528))).1.length) ∧ ((0 < (sopen_it1 key beside b (ff (fun i => decide (sbad key beside (sopen_it1 key beside b i) ∨ slast (sopen_it1 key beside b i))) ((b.length - 1) / 528))).2.1) ∧ (((opened key (nonce (sopen_it1 key beside b (ff (fun i => decide (sbad key beside (sopen_it1 key beside b i) ∨ slast (sopen_it1 key beside b i))) ((b.length - 1) / 528))).2.1 (decide ((Min.min (sopen_it1 key beside b (ff (fun i => decide (sbad key beside (sopen_it1 key beside b i) ∨ slast (sopen_it1 key beside b i))) ((b.length - 1) / 528))).1.length 528) = (sopen_it1 key beside b (ff (fun i => decide (sbad key beside (sopen_it1 key beside b i) ∨ slast (sopen_it1 key beside b i))) ((b.length - 1) / 528))).1.length))) (((sopen_it1 key beside b (ff (fun i => decide (sbad key beside (sopen_it1 key beside b i) ∨ slast (sopen_it1 key beside b i))) ((b.length - 1) / 528))).1.drop 0).take ((Min.min (sopen_it1 key beside b (ff (fun i => decide (sbad key beside (sopen_it1 key beside b i) ∨ slast (sopen_it1 key beside b i))) ((b.length - 1) / 528))).1.length 528) - 0)) beside).1).length = 0))) then
    ([], 180)
  else
    ((sopen_it1 key beside b (ff (fun i => decide (sbad key beside (sopen_it1 key beside b i) ∨ slast (sopen_it1 key beside b i))) ((b.length - 1) / 528))).2.2 ++ ((opened key (nonce (sopen_it1 key beside b (ff (fun i => decide (sbad key beside (sopen_it1 key beside b i) ∨ slast (sopen_it1 key beside b i))) ((b.length - 1) / 528))).2.1 (decide ((Min.min (sopen_it1 key beside b (ff (fun i => decide (sbad key beside (sopen_it1 key beside b i) ∨ slast (sopen_it1 key beside b i))) ((b.length - 1) / 528))).1.length 528) = (sopen_it1 key beside b (ff (fun i => decide (sbad key beside (sopen_it1 key beside b i) ∨ slast (sopen_it1 key beside b i))) ((b.length - 1) / 528))).1.length))) (((sopen_it1 key beside b (ff (fun i => decide (sbad key beside (sopen_it1 key beside b i) ∨ slast (sopen_it1 key beside b i))) ((b.length - 1) / 528))).1.drop 0).take ((Min.min (sopen_it1 key beside b (ff (fun i => decide (sbad key beside (sopen_it1 key beside b i) ∨ slast (sopen_it1 key beside b i))) ((b.length - 1) / 528))).1.length 528) - 0)) beside).1), 0)
theorem w_sopen (key : List Nat) (beside : List Nat) (b : List Nat) (l_key : key.length = 32) (h_beside : beside.length < 1073741824) (h_b : b.length ≤ 4194304) : VC Try.prog 44 [.row (.ints .u8 key), .one (.bs false .u8 beside), .one (.bs false .u8 b)] (.two (.one (.bs false .u8 ((sopen key beside b).1))) (.one (.n .i64 ((sopen key beside b).2)))) := by
  refine VC.go Try.func44 rfl Try.ntmps44 rfl rfl fun O w => ?_
  refine Holds.seq ?_
  refine Holds.reg ?_
  refine OpsFrom.u (Y.boxR (d := 3) (up0 rfl rfl rfl) rfl rfl rfl) rfl rfl rfl ?_
  refine OpsFrom.v (Y.assign (up0 rfl rfl rfl) rfl rfl) rfl ?_
  refine OpsFrom.v (Y.assign (v := (.one (.n .i64 0))) (up0 rfl rfl rfl) rfl rfl) rfl ?_
  refine OpsFrom.nil ?_
  refine Holds.scopeL 0 (fun (i1_ : Nat) => ⟨[(1, .one (.bs false .u8 beside)), (2, .one (.bs false .u8 ((sopen_it1 key beside b i1_).1))), (3, .one (.p 3 0)), (6, .one (.nil)), (7, .one (.n .i64 0)), (8, .one (.sg 8 0 (((sopen_it1 key beside b i1_).2.2).length))), (9, .one (.n .u64 ((sopen_it1 key beside b i1_).2.1)))], [(3, .own (.ints .u8 key)), (8, .own (.ints .u8 ((sopen_it1 key beside b i1_).2.2)))]⟩) (fun (i1_ : Nat) => i1_ ≤ (ff (fun i => decide (sbad key beside (sopen_it1 key beside b i) ∨ slast (sopen_it1 key beside b i))) ((b.length - 1) / 528))) (fun (i1_ : Nat) => (ff (fun i => decide (sbad key beside (sopen_it1 key beside b i) ∨ slast (sopen_it1 key beside b i))) ((b.length - 1) / 528)) - i1_) rfl (fun i1_ k1_ => ?_) (fun again => ?_)
  · have hf := sopen_f key beside h_b i1_ k1_
    have hfl : (sopen_it1 key beside b i1_).1.length + 528 * i1_ ≤ b.length := by rw [hf.1, List.length_drop]; omega
    have hol := opened_le key (nonce (sopen_it1 key beside b i1_).2.1 (decide (Min.min (sopen_it1 key beside b i1_).1.length 528 = (sopen_it1 key beside b i1_).1.length))) (((sopen_it1 key beside b i1_).1.drop 0).take (Min.min (sopen_it1 key beside b i1_).1.length 528 - 0)) beside
    simp only [List.length_take, List.length_drop] at hol
    refine Holds.seq ?_
    refine Holds.reg ?_
    refine OpsFrom.v (Y.move (up0 rfl rfl rfl) rfl rfl) rfl ?_
    refine OpsFrom.v (Y.len ty26 (up0 rfl rfl rfl) rfl rfl rfl rfl) rfl ?_
    refine OpsFrom.v (Y.min (up0 rfl rfl rfl) rfl rfl rfl) rfl ?_
    refine OpsFrom.v (Y.assign (up0 rfl rfl rfl) rfl rfl) rfl ?_
    refine OpsFrom.nil ?_
    refine Holds.seq ?_
    refine Holds.reg ?_
    refine OpsFrom.v (Y.move (up0 rfl rfl rfl) rfl rfl) rfl ?_
    refine OpsFrom.v (Y.move (up0 rfl rfl rfl) rfl rfl) rfl ?_
    refine OpsFrom.v (Y.len ty26 (up0 rfl rfl rfl) rfl rfl rfl rfl) rfl ?_
    refine OpsFrom.v (Y.eql (up0 rfl rfl rfl) rfl rfl rfl) rfl ?_
    refine OpsFrom.v (Y.assign (up0 rfl rfl rfl) rfl rfl) rfl ?_
    refine OpsFrom.nil ?_
    refine Holds.seq ?_
    refine Holds.dr mx [([22], [23, 24, 25, 26, 27, 28, 29]), ([23], [22, 24, 26, 27, 28, 29]), ([24], [22, 23, 26, 27, 28, 29]), ([25], [22, 26, 27, 28, 29]), ([26], [22, 23, 24, 25, 27, 29]), ([27], [22, 23, 24, 25, 26, 29]), ([28], [22, 23, 24, 25, 29]), ([29], [22, 23, 24, 25, 26, 27, 28]), ([30], []), ([21], []), ([31], [32]), ([32], [31, 12]), ([12], [32]), ([13], [])] (by kernel_rfl) ?_
    refine CertK.vd (Y.ldAll ty23 rfl (up0 rfl rfl rfl) rfl rfl rfl (by first | (with_reducible assumption) | omega | (simp only [lens, nonce_len, List.flatten_cons, List.flatten_nil, List.append_nil, List.length_cons, List.length_nil, Cs.len, List.length_map, List.length_set, List.length_replicate, *]; first | done | omega) | decide | (split <;> simp only [lens, nonce_len, List.flatten_cons, List.flatten_nil, List.append_nil, List.length_cons, List.length_nil, Cs.len, List.length_map, List.length_set, List.length_replicate, *]) | (with_reducible exact Lt.mono (by assumption) (by decide)) | (simp only [Cs.len]; done) | rfl) (by decide)) rfl rfl ?_
    refine CertK.vd (Y.move (up0 rfl rfl rfl) rfl rfl) rfl rfl ?_
    refine CertK.vd (Y.move (up0 rfl rfl rfl) rfl rfl) rfl rfl ?_
    refine CertK.vd (Y.callV (w_nonce _ _ ) fnok35 (up0 rfl rfl rfl) rfl rfl (.cons _ _ _ _ rfl (.cons _ _ _ _ rfl .nil)) (.cons _ _ _ _ (.same _) (.cons _ _ _ _ (.same _) .nil)) rfl rfl) rfl rfl ?_
    refine CertK.vd (Y.move (up0 rfl rfl rfl) rfl rfl) rfl rfl ?_
    refine CertK.vd (Y.move (up0 rfl rfl rfl) rfl rfl) rfl rfl ?_
    refine CertK.vd (Y.slBs ty26 ty5 (up0 rfl rfl rfl) rfl rfl bnd0 (bnd1 rfl) (by first | (with_reducible assumption) | omega | (simp only [lens, nonce_len, List.flatten_cons, List.flatten_nil, List.append_nil, List.length_cons, List.length_nil, Cs.len, List.length_map, List.length_set, List.length_replicate, *]; first | done | omega) | decide | (split <;> simp only [lens, nonce_len, List.flatten_cons, List.flatten_nil, List.append_nil, List.length_cons, List.length_nil, Cs.len, List.length_map, List.length_set, List.length_replicate, *]) | (with_reducible exact Lt.mono (by assumption) (by decide)) | (simp only [Cs.len]; done) | rfl) (by first | (with_reducible assumption) | omega | (simp only [lens, nonce_len, List.flatten_cons, List.flatten_nil, List.append_nil, List.length_cons, List.length_nil, Cs.len, List.length_map, List.length_set, List.length_replicate, *]; first | done | omega) | decide | (split <;> simp only [lens, nonce_len, List.flatten_cons, List.flatten_nil, List.append_nil, List.length_cons, List.length_nil, Cs.len, List.length_map, List.length_set, List.length_replicate, *]) | (with_reducible exact Lt.mono (by assumption) (by decide)) | (simp only [Cs.len]; done) | rfl)) rfl rfl ?_
    refine CertK.vd (Y.move (up0 rfl rfl rfl) rfl rfl) rfl rfl ?_
    refine CertK.v (Y.callW (w_opened _ _ _ _ (by first | (with_reducible assumption) | omega | (simp only [lens, nonce_len, List.flatten_cons, List.flatten_nil, List.append_nil, List.length_cons, List.length_nil, Cs.len, List.length_map, List.length_set, List.length_replicate, *]; first | done | omega) | decide | (split <;> simp only [lens, nonce_len, List.flatten_cons, List.flatten_nil, List.append_nil, List.length_cons, List.length_nil, Cs.len, List.length_map, List.length_set, List.length_replicate, *]) | (with_reducible exact Lt.mono (by assumption) (by decide)) | (simp only [Cs.len]; done) | rfl) (by first | (with_reducible assumption) | omega | (simp only [lens, nonce_len, List.flatten_cons, List.flatten_nil, List.append_nil, List.length_cons, List.length_nil, Cs.len, List.length_map, List.length_set, List.length_replicate, *]; first | done | omega) | decide | (split <;> simp only [lens, nonce_len, List.flatten_cons, List.flatten_nil, List.append_nil, List.length_cons, List.length_nil, Cs.len, List.length_map, List.length_set, List.length_replicate, *]) | (with_reducible exact Lt.mono (by assumption) (by decide)) | (simp only [Cs.len]; done) | rfl) (by first | (with_reducible assumption) | omega | (simp only [lens, nonce_len, List.flatten_cons, List.flatten_nil, List.append_nil, List.length_cons, List.length_nil, Cs.len, List.length_map, List.length_set, List.length_replicate, *]; first | done | omega) | decide | (split <;> simp only [lens, nonce_len, List.flatten_cons, List.flatten_nil, List.append_nil, List.length_cons, List.length_nil, Cs.len, List.length_map, List.length_set, List.length_replicate, *]) | (with_reducible exact Lt.mono (by assumption) (by decide)) | (simp only [Cs.len]; done) | rfl) (by first | (with_reducible assumption) | omega | (simp only [lens, nonce_len, List.flatten_cons, List.flatten_nil, List.append_nil, List.length_cons, List.length_nil, Cs.len, List.length_map, List.length_set, List.length_replicate, *]; first | done | omega) | decide | (split <;> simp only [lens, nonce_len, List.flatten_cons, List.flatten_nil, List.append_nil, List.length_cons, List.length_nil, Cs.len, List.length_map, List.length_set, List.length_replicate, *]) | (with_reducible exact Lt.mono (by assumption) (by decide)) | (simp only [Cs.len]; done) | rfl)) fnok41 (up0 rfl rfl rfl) rfl rfl (.cons _ _ _ _ rfl (.cons _ _ _ _ rfl (.cons _ _ _ _ rfl (.cons _ _ _ _ rfl .nil)))) (.cons _ _ _ _ (.same _) (.cons _ _ _ _ (.same _) (.cons _ _ _ _ (.same _) (.cons _ _ _ _ (.same _) .nil)))) rfl rfl) rfl ?_
    refine CertK.v (Y.move (up0 rfl rfl rfl) rfl rfl) rfl ?_
    refine CertK.vd (Y.ext0 (up0 rfl rfl rfl) rfl rfl) rfl rfl ?_
    refine CertK.vd (Y.ext1 (up0 rfl rfl rfl) rfl rfl) rfl rfl ?_
    refine CertK.vd (Y.assign (up0 rfl rfl rfl) rfl rfl) rfl rfl ?_
    refine CertK.v (Y.assign (up0 rfl rfl rfl) rfl rfl) rfl ?_
    refine CertK.nil ?_
    refine Holds.seq ?_
    refine Holds.dr mx [([33], [34, 36, 37, 38]), ([34], [33, 36, 37, 38]), ([35, 8], [36, 37, 38]), ([36], [33, 34, 35, 8, 37]), ([37], [33, 34, 35, 8, 36]), ([38], [33, 34, 35, 8]), ([8], [36, 37, 38]), ([2], [])] (by kernel_rfl) ?_
    refine CertK.vd (Y.move (up0 rfl rfl rfl) rfl rfl) rfl rfl ?_
    refine CertK.vd (Y.move (up0 rfl rfl rfl) rfl rfl) rfl rfl ?_
    refine CertK.u (Y.app (d := 35) ty26 ty5 rfl ty26 (by decide) (up0 rfl rfl rfl) rfl rfl rfl (.all rfl (by first | (with_reducible assumption) | omega | (simp only [lens, nonce_len, List.flatten_cons, List.flatten_nil, List.append_nil, List.length_cons, List.length_nil, Cs.len, List.length_map, List.length_set, List.length_replicate, *]; first | done | omega) | decide | (split <;> simp only [lens, nonce_len, List.flatten_cons, List.flatten_nil, List.append_nil, List.length_cons, List.length_nil, Cs.len, List.length_map, List.length_set, List.length_replicate, *]) | (with_reducible exact Lt.mono (by assumption) (by decide)) | (simp only [Cs.len]; done) | rfl)) rfl (.bs _ _ _) App.i (by simp only [Cs.len]; omega) rfl (by first | (simp; done) | (rintro ⟨_, _, _, h⟩; cases h))) rfl rfl rfl rfl rfl ?_
    refine CertK.vd (Y.move (up0 rfl rfl rfl) rfl rfl) rfl rfl ?_
    refine CertK.vd (Y.move (up0 rfl rfl rfl) rfl rfl) rfl rfl ?_
    refine CertK.vd (Y.slBs ty26 ty5 (up0 rfl rfl rfl) rfl rfl (bnd1 rfl) bnd0 (by first | (with_reducible assumption) | omega | (simp only [lens, nonce_len, List.flatten_cons, List.flatten_nil, List.append_nil, List.length_cons, List.length_nil, Cs.len, List.length_map, List.length_set, List.length_replicate, *]; first | done | omega) | decide | (split <;> simp only [lens, nonce_len, List.flatten_cons, List.flatten_nil, List.append_nil, List.length_cons, List.length_nil, Cs.len, List.length_map, List.length_set, List.length_replicate, *]) | (with_reducible exact Lt.mono (by assumption) (by decide)) | (simp only [Cs.len]; done) | rfl) (by first | (with_reducible assumption) | omega | (simp only [lens, nonce_len, List.flatten_cons, List.flatten_nil, List.append_nil, List.length_cons, List.length_nil, Cs.len, List.length_map, List.length_set, List.length_replicate, *]; first | done | omega) | decide | (split <;> simp only [lens, nonce_len, List.flatten_cons, List.flatten_nil, List.append_nil, List.length_cons, List.length_nil, Cs.len, List.length_map, List.length_set, List.length_replicate, *]) | (with_reducible exact Lt.mono (by assumption) (by decide)) | (simp only [Cs.len]; done) | rfl)) rfl rfl ?_
    refine CertK.vd (Y.assign (up0 rfl rfl rfl) rfl rfl) rfl rfl ?_
    refine CertK.v (Y.assign (up0 rfl rfl rfl) rfl rfl) rfl ?_
    refine CertK.nil ?_
    refine Holds.seq ?_
    refine Holds.seqJoin ⟨[(1, .one (.bs false .u8 beside)), (2, .one (.bs false .u8 (((sopen_it1 key beside b i1_).1.drop (Min.min (sopen_it1 key beside b i1_).1.length 528)).take ((sopen_it1 key beside b i1_).1.length - (Min.min (sopen_it1 key beside b i1_).1.length 528))))), (3, .one (.p 3 0)), (6, .one (.nil)), (7, .one (.n .i64 0)), (8, .one (.sg 35 0 (((sopen_it1 key beside b i1_).2.2 ++ ((opened key (nonce (sopen_it1 key beside b i1_).2.1 (decide ((Min.min (sopen_it1 key beside b i1_).1.length 528) = (sopen_it1 key beside b i1_).1.length))) (((sopen_it1 key beside b i1_).1.drop 0).take ((Min.min (sopen_it1 key beside b i1_).1.length 528) - 0)) beside).1)).length))), (9, .one (.n .u64 ((sopen_it1 key beside b i1_).2.1))), (14, .one (.bs false .u8 ((sopen_it1 key beside b i1_).1))), (15, .one (.n .i64 ((sopen_it1 key beside b i1_).1.length))), (16, .one (.n .i64 (Min.min (sopen_it1 key beside b i1_).1.length 528))), (10, .one (.n .i64 (Min.min (sopen_it1 key beside b i1_).1.length 528))), (17, .one (.n .i64 (Min.min (sopen_it1 key beside b i1_).1.length 528))), (18, .one (.bs false .u8 ((sopen_it1 key beside b i1_).1))), (19, .one (.n .i64 ((sopen_it1 key beside b i1_).1.length))), (20, .one (.b (decide ((Min.min (sopen_it1 key beside b i1_).1.length 528) = (sopen_it1 key beside b i1_).1.length)))), (11, .one (.b (decide ((Min.min (sopen_it1 key beside b i1_).1.length 528) = (sopen_it1 key beside b i1_).1.length)))), (22, .row (.ints .u8 key)), (23, .one (.n .u64 ((sopen_it1 key beside b i1_).2.1))), (24, .one (.b (decide ((Min.min (sopen_it1 key beside b i1_).1.length 528) = (sopen_it1 key beside b i1_).1.length)))), (25, .row (.ints .u8 (nonce (sopen_it1 key beside b i1_).2.1 (decide ((Min.min (sopen_it1 key beside b i1_).1.length 528) = (sopen_it1 key beside b i1_).1.length))))), (26, .one (.bs false .u8 ((sopen_it1 key beside b i1_).1))), (27, .one (.n .i64 (Min.min (sopen_it1 key beside b i1_).1.length 528))), (28, .one (.bs false .u8 (((sopen_it1 key beside b i1_).1.drop 0).take ((Min.min (sopen_it1 key beside b i1_).1.length 528) - 0)))), (29, .one (.bs false .u8 beside)), (30, .two (.one (.bs false .u8 ((opened key (nonce (sopen_it1 key beside b i1_).2.1 (decide ((Min.min (sopen_it1 key beside b i1_).1.length 528) = (sopen_it1 key beside b i1_).1.length))) (((sopen_it1 key beside b i1_).1.drop 0).take ((Min.min (sopen_it1 key beside b i1_).1.length 528) - 0)) beside).1))) (.one (.n .i64 ((opened key (nonce (sopen_it1 key beside b i1_).2.1 (decide ((Min.min (sopen_it1 key beside b i1_).1.length 528) = (sopen_it1 key beside b i1_).1.length))) (((sopen_it1 key beside b i1_).1.drop 0).take ((Min.min (sopen_it1 key beside b i1_).1.length 528) - 0)) beside).2)))), (21, .two (.one (.bs false .u8 ((opened key (nonce (sopen_it1 key beside b i1_).2.1 (decide ((Min.min (sopen_it1 key beside b i1_).1.length 528) = (sopen_it1 key beside b i1_).1.length))) (((sopen_it1 key beside b i1_).1.drop 0).take ((Min.min (sopen_it1 key beside b i1_).1.length 528) - 0)) beside).1))) (.one (.n .i64 ((opened key (nonce (sopen_it1 key beside b i1_).2.1 (decide ((Min.min (sopen_it1 key beside b i1_).1.length 528) = (sopen_it1 key beside b i1_).1.length))) (((sopen_it1 key beside b i1_).1.drop 0).take ((Min.min (sopen_it1 key beside b i1_).1.length 528) - 0)) beside).2)))), (31, .one (.bs false .u8 ((opened key (nonce (sopen_it1 key beside b i1_).2.1 (decide ((Min.min (sopen_it1 key beside b i1_).1.length 528) = (sopen_it1 key beside b i1_).1.length))) (((sopen_it1 key beside b i1_).1.drop 0).take ((Min.min (sopen_it1 key beside b i1_).1.length 528) - 0)) beside).1))), (32, .one (.n .i64 ((opened key (nonce (sopen_it1 key beside b i1_).2.1 (decide ((Min.min (sopen_it1 key beside b i1_).1.length 528) = (sopen_it1 key beside b i1_).1.length))) (((sopen_it1 key beside b i1_).1.drop 0).take ((Min.min (sopen_it1 key beside b i1_).1.length 528) - 0)) beside).2))), (12, .one (.bs false .u8 ((opened key (nonce (sopen_it1 key beside b i1_).2.1 (decide ((Min.min (sopen_it1 key beside b i1_).1.length 528) = (sopen_it1 key beside b i1_).1.length))) (((sopen_it1 key beside b i1_).1.drop 0).take ((Min.min (sopen_it1 key beside b i1_).1.length 528) - 0)) beside).1))), (13, .one (.n .i64 ((opened key (nonce (sopen_it1 key beside b i1_).2.1 (decide ((Min.min (sopen_it1 key beside b i1_).1.length 528) = (sopen_it1 key beside b i1_).1.length))) (((sopen_it1 key beside b i1_).1.drop 0).take ((Min.min (sopen_it1 key beside b i1_).1.length 528) - 0)) beside).2))), (33, .one (.sg 8 0 ((sopen_it1 key beside b i1_).2.2.length))), (34, .one (.bs false .u8 ((opened key (nonce (sopen_it1 key beside b i1_).2.1 (decide ((Min.min (sopen_it1 key beside b i1_).1.length 528) = (sopen_it1 key beside b i1_).1.length))) (((sopen_it1 key beside b i1_).1.drop 0).take ((Min.min (sopen_it1 key beside b i1_).1.length 528) - 0)) beside).1))), (35, .one (.sg 35 0 (((sopen_it1 key beside b i1_).2.2 ++ ((opened key (nonce (sopen_it1 key beside b i1_).2.1 (decide ((Min.min (sopen_it1 key beside b i1_).1.length 528) = (sopen_it1 key beside b i1_).1.length))) (((sopen_it1 key beside b i1_).1.drop 0).take ((Min.min (sopen_it1 key beside b i1_).1.length 528) - 0)) beside).1)).length))), (36, .one (.bs false .u8 ((sopen_it1 key beside b i1_).1))), (37, .one (.n .i64 (Min.min (sopen_it1 key beside b i1_).1.length 528))), (38, .one (.bs false .u8 (((sopen_it1 key beside b i1_).1.drop (Min.min (sopen_it1 key beside b i1_).1.length 528)).take ((sopen_it1 key beside b i1_).1.length - (Min.min (sopen_it1 key beside b i1_).1.length 528))))), (39, .one (.n .i64 ((opened key (nonce (sopen_it1 key beside b i1_).2.1 (decide ((Min.min (sopen_it1 key beside b i1_).1.length 528) = (sopen_it1 key beside b i1_).1.length))) (((sopen_it1 key beside b i1_).1.drop 0).take ((Min.min (sopen_it1 key beside b i1_).1.length 528) - 0)) beside).2))), (40, .one (.b (decide (((opened key (nonce (sopen_it1 key beside b i1_).2.1 (decide ((Min.min (sopen_it1 key beside b i1_).1.length 528) = (sopen_it1 key beside b i1_).1.length))) (((sopen_it1 key beside b i1_).1.drop 0).take ((Min.min (sopen_it1 key beside b i1_).1.length 528) - 0)) beside).2) ≠ 0)))), (41, .one (.b (decide ((((opened key (nonce (sopen_it1 key beside b i1_).2.1 (decide ((Min.min (sopen_it1 key beside b i1_).1.length 528) = (sopen_it1 key beside b i1_).1.length))) (((sopen_it1 key beside b i1_).1.drop 0).take ((Min.min (sopen_it1 key beside b i1_).1.length 528) - 0)) beside).2) ≠ 0) ∨ (((Min.min (sopen_it1 key beside b i1_).1.length 528) = (sopen_it1 key beside b i1_).1.length) ∧ ((0 < (sopen_it1 key beside b i1_).2.1) ∧ ((((opened key (nonce (sopen_it1 key beside b i1_).2.1 (decide ((Min.min (sopen_it1 key beside b i1_).1.length 528) = (sopen_it1 key beside b i1_).1.length))) (((sopen_it1 key beside b i1_).1.drop 0).take ((Min.min (sopen_it1 key beside b i1_).1.length 528) - 0)) beside).1).length = 0) ∧ (false = true)))))))), (52, .one (.b (decide ((((opened key (nonce (sopen_it1 key beside b i1_).2.1 (decide ((Min.min (sopen_it1 key beside b i1_).1.length 528) = (sopen_it1 key beside b i1_).1.length))) (((sopen_it1 key beside b i1_).1.drop 0).take ((Min.min (sopen_it1 key beside b i1_).1.length 528) - 0)) beside).2) ≠ 0) ∨ (((Min.min (sopen_it1 key beside b i1_).1.length 528) = (sopen_it1 key beside b i1_).1.length) ∧ ((0 < (sopen_it1 key beside b i1_).2.1) ∧ (((opened key (nonce (sopen_it1 key beside b i1_).2.1 (decide ((Min.min (sopen_it1 key beside b i1_).1.length 528) = (sopen_it1 key beside b i1_).1.length))) (((sopen_it1 key beside b i1_).1.drop 0).take ((Min.min (sopen_it1 key beside b i1_).1.length 528) - 0)) beside).1).length = 0))))))), (53, .one (.b (decide ((((opened key (nonce (sopen_it1 key beside b i1_).2.1 (decide ((Min.min (sopen_it1 key beside b i1_).1.length 528) = (sopen_it1 key beside b i1_).1.length))) (((sopen_it1 key beside b i1_).1.drop 0).take ((Min.min (sopen_it1 key beside b i1_).1.length 528) - 0)) beside).2) ≠ 0) ∨ (((Min.min (sopen_it1 key beside b i1_).1.length 528) = (sopen_it1 key beside b i1_).1.length) ∧ ((0 < (sopen_it1 key beside b i1_).2.1) ∧ (((opened key (nonce (sopen_it1 key beside b i1_).2.1 (decide ((Min.min (sopen_it1 key beside b i1_).1.length 528) = (sopen_it1 key beside b i1_).1.length))) (((sopen_it1 key beside b i1_).1.drop 0).take ((Min.min (sopen_it1 key beside b i1_).1.length 528) - 0)) beside).1).length = 0))))))), (57, .one (.b (decide ((((opened key (nonce (sopen_it1 key beside b i1_).2.1 (decide ((Min.min (sopen_it1 key beside b i1_).1.length 528) = (sopen_it1 key beside b i1_).1.length))) (((sopen_it1 key beside b i1_).1.drop 0).take ((Min.min (sopen_it1 key beside b i1_).1.length 528) - 0)) beside).2) ≠ 0) ∨ (((Min.min (sopen_it1 key beside b i1_).1.length 528) = (sopen_it1 key beside b i1_).1.length) ∧ ((0 < (sopen_it1 key beside b i1_).2.1) ∧ (((opened key (nonce (sopen_it1 key beside b i1_).2.1 (decide ((Min.min (sopen_it1 key beside b i1_).1.length 528) = (sopen_it1 key beside b i1_).1.length))) (((sopen_it1 key beside b i1_).1.drop 0).take ((Min.min (sopen_it1 key beside b i1_).1.length 528) - 0)) beside).1).length = 0)))))))], [(3, .own (.ints .u8 key)), (35, .own (.ints .u8 ((sopen_it1 key beside b i1_).2.2 ++ ((opened key (nonce (sopen_it1 key beside b i1_).2.1 (decide ((Min.min (sopen_it1 key beside b i1_).1.length 528) = (sopen_it1 key beside b i1_).1.length))) (((sopen_it1 key beside b i1_).1.drop 0).take ((Min.min (sopen_it1 key beside b i1_).1.length 528) - 0)) beside).1)))), (8, .dead)]⟩ ?_ (fun join => ?_)
    · refine Holds.condD rfl (fun h57 => ?_) (fun h57 => ?_)
      · obtain rfl : i1_ = ff (fun i => decide (sbad key beside (sopen_it1 key beside b i) ∨ slast (sopen_it1 key beside b i))) ((b.length - 1) / 528) := sopen_stop h_b k1_ (.inl h57)
        refine Holds.seq ?_
        refine Holds.reg ?_
        refine OpsFrom.v (Y.assign (up0 rfl rfl rfl) rfl rfl) rfl ?_
        refine OpsFrom.v (Y.assign (v := (.one (.n .i64 180))) (up0 rfl rfl rfl) rfl rfl) rfl ?_
        refine OpsFrom.nil ?_
        refine Holds.ret ?_
        exact Holds.ret2 (.inl rfl) rfl (.tmp _ _ rfl) (.tmp _ _ rfl) (View.cg (congrArg (fun z => (.two (.one (.bs false .u8 z.1)) (.one (.n .i64 z.2)) : AV)) (show (sopen key beside b) = _ from (by unfold sopen; exact (if_pos h57)))) (.two _ _ _ _ (.nilB _ _) (.same _))) rfl
      · refine Holds.skip ?_
        refine Holds.seq ?_
        refine Holds.reg ?_
        refine OpsFrom.v (Y.move (up0 rfl rfl rfl) rfl rfl) rfl ?_
        refine OpsFrom.v (Y.add (b := 1) u64s u64m (up0 rfl rfl rfl) rfl rfl rfl) rfl ?_
        refine OpsFrom.v (Y.assign (up0 rfl rfl rfl) rfl rfl) rfl ?_
        refine OpsFrom.nil ?_
        refine Holds.seq ?_
        refine Holds.seq ?_
        refine Holds.reg ?_
        refine OpsFrom.v (Y.move (up0 rfl rfl rfl) rfl rfl) rfl ?_
        refine OpsFrom.v (Y.not (up0 rfl rfl rfl) rfl rfl) rfl ?_
        refine OpsFrom.nil ?_
        refine Holds.cond _ rfl (fun h61 => ?_) (fun h61 => ?_)
        · have h1c := (sopen_iff h_b k1_ h57).1 h61
          refine Holds.goto ?_
          exact Holds.jump (Q := fun _ _ _ => True) (i1_ + 1) (by omega) (by omega) [(8, 35)] ⟨⟨rfl, (bsEq (by rw [sopen_it1_s]; unfold sopen_s1; first | (dsimp only; done) | rfl)), rfl, rfl, rfl, (sgEq (congrArg List.length (by rw [sopen_it1_s]; unfold sopen_s1; first | (dsimp only; done) | rfl)) rfl), (nEq (by rw [sopen_it1_s]; unfold sopen_s1; first | (dsimp only; done) | rfl)), trivial⟩, ⟨rfl, (hEq (by rw [sopen_it1_s]; unfold sopen_s1; first | (dsimp only; done) | rfl)), trivial⟩, rfl, rfl⟩
        · obtain rfl : i1_ = ff (fun i => decide (sbad key beside (sopen_it1 key beside b i) ∨ slast (sopen_it1 key beside b i))) ((b.length - 1) / 528) := sopen_stop h_b k1_ (.inr (by simpa [slast] using h61))
          refine Holds.skip ?_
          refine Holds.seq ?_
          refine Holds.reg ?_
          refine OpsFrom.v (Y.move (up0 rfl rfl rfl) rfl rfl) rfl ?_
          refine OpsFrom.v (Y.assign (up0 rfl rfl rfl) rfl rfl) rfl ?_
          refine OpsFrom.v (Y.assign (v := (.one (.n .i64 0))) (up0 rfl rfl rfl) rfl rfl) rfl ?_
          refine OpsFrom.nil ?_
          refine Holds.ret ?_
          exact Holds.ret2 (.inl rfl) rfl (.tmp _ _ rfl) (.tmp _ _ rfl) (View.cg (congrArg (fun z => (.two (.one (.bs false .u8 z.1)) (.one (.n .i64 z.2)) : AV)) (show (sopen key beside b) = _ from (by unfold sopen; exact (if_neg h57)))) (.two _ _ _ _ (.all rfl (by first | (with_reducible assumption) | omega | (simp only [lens, nonce_len, List.flatten_cons, List.flatten_nil, List.append_nil, List.length_cons, List.length_nil, Cs.len, List.length_map, List.length_set, List.length_replicate, *]; first | done | omega) | decide | (split <;> simp only [lens, nonce_len, List.flatten_cons, List.flatten_nil, List.append_nil, List.length_cons, List.length_nil, Cs.len, List.length_map, List.length_set, List.length_replicate, *]) | (with_reducible exact Lt.mono (by assumption) (by decide)) | (simp only [Cs.len]; done) | rfl)) (.same _))) rfl
    · by_cases a7_2 : (((opened key (nonce (sopen_it1 key beside b i1_).2.1 (decide ((Min.min (sopen_it1 key beside b i1_).1.length 528) = (sopen_it1 key beside b i1_).1.length))) (((sopen_it1 key beside b i1_).1.drop 0).take ((Min.min (sopen_it1 key beside b i1_).1.length 528) - 0)) beside).2) ≠ 0)
      · refine Holds.reg ?_
        refine OpsFrom.v (Y.move (up0 rfl rfl rfl) rfl rfl) rfl ?_
        refine OpsFrom.v (Y.neq (b := 0) (up0 rfl rfl rfl) rfl rfl rfl) rfl ?_
        refine OpsFrom.v (Doing.isB (c := true) (decide_eq_true a7_2) (Y.move (up0 rfl rfl rfl) rfl rfl)) rfl ?_
        refine OpsFrom.v (Doing.skip _ _ _ _ rfl rfl rfl rfl (dlt rfl (Nat.le_of_ble_eq_true rfl))) rfl ?_
        refine OpsFrom.v (Doing.skip _ _ _ _ rfl rfl rfl rfl (dlt rfl (Nat.le_of_ble_eq_true rfl))) rfl ?_
        refine OpsFrom.v (Doing.skipU _ _ _ _ rfl rfl rfl rfl (dlt rfl (Nat.le_of_ble_eq_true rfl))) rfl ?_
        refine OpsFrom.v (Doing.skipU _ _ _ _ rfl rfl rfl rfl (dlt rfl (Nat.le_of_ble_eq_true rfl))) rfl ?_
        refine OpsFrom.v (Doing.skip _ _ _ _ rfl rfl rfl rfl (dlt rfl (Nat.le_of_ble_eq_true rfl))) rfl ?_
        refine OpsFrom.v (Doing.skip _ _ _ _ rfl rfl rfl rfl (dlt rfl (Nat.le_of_ble_eq_true rfl))) rfl ?_
        refine OpsFrom.v (Doing.skipU _ _ _ _ rfl rfl rfl rfl (dlt rfl (Nat.le_of_ble_eq_true rfl))) rfl ?_
        refine OpsFrom.v (Doing.skipU _ _ _ _ rfl rfl rfl rfl (dlt rfl (Nat.le_of_ble_eq_true rfl))) rfl ?_
        refine OpsFrom.v (Doing.skipU _ _ _ _ rfl rfl rfl rfl (dlt rfl (Nat.le_of_ble_eq_true rfl))) rfl ?_
        refine OpsFrom.v (Doing.skip _ _ _ _ rfl rfl rfl rfl (dlt rfl (Nat.le_of_ble_eq_true rfl))) rfl ?_
        refine OpsFrom.v (Y.pickT (up0 rfl rfl rfl) rfl rfl rfl) rfl ?_
        refine OpsFrom.v (Y.move (up0 rfl rfl rfl) rfl rfl) rfl ?_
        refine OpsFrom.v (Doing.skip _ _ _ _ rfl rfl rfl rfl (dlt rfl (Nat.le_of_ble_eq_true rfl))) rfl ?_
        refine OpsFrom.v (Doing.skip _ _ _ _ rfl rfl rfl rfl (dlt rfl (Nat.le_of_ble_eq_true rfl))) rfl ?_
        refine OpsFrom.v (Doing.skip _ _ _ _ rfl rfl rfl rfl (dlt rfl (Nat.le_of_ble_eq_true rfl))) rfl ?_
        refine OpsFrom.v (Y.pickT (up0 rfl rfl rfl) rfl rfl rfl) rfl ?_
        refine OpsFrom.nil ?_
        exact join _ [] ⟨⟨rfl, rfl, rfl, rfl, rfl, rfl, rfl, rfl, rfl, rfl, rfl, rfl, rfl, rfl, rfl, rfl, rfl, rfl, rfl, rfl, rfl, rfl, rfl, rfl, rfl, rfl, rfl, rfl, rfl, rfl, rfl, rfl, rfl, rfl, rfl, rfl, rfl, rfl, (bEq ((dT (.inl a7_2)))), (bEq ((dT (.inl a7_2)))), (bEq ((dT (.inl a7_2)))), (bEq ((dT (.inl a7_2)))), trivial⟩, ⟨rfl, rfl, rfl, trivial⟩, rfl, rfl⟩
      · by_cases a7_4 : ((Min.min (sopen_it1 key beside b i1_).1.length 528) = (sopen_it1 key beside b i1_).1.length)
        · by_cases a7_8 : (0 < (sopen_it1 key beside b i1_).2.1)
          · by_cases a7_14 : (((opened key (nonce (sopen_it1 key beside b i1_).2.1 (decide ((Min.min (sopen_it1 key beside b i1_).1.length 528) = (sopen_it1 key beside b i1_).1.length))) (((sopen_it1 key beside b i1_).1.drop 0).take ((Min.min (sopen_it1 key beside b i1_).1.length 528) - 0)) beside).1).length = 0)
            · refine Holds.reg ?_
              refine OpsFrom.v (Y.move (up0 rfl rfl rfl) rfl rfl) rfl ?_
              refine OpsFrom.v (Y.neq (b := 0) (up0 rfl rfl rfl) rfl rfl rfl) rfl ?_
              refine OpsFrom.v (Doing.isB (c := false) (decide_eq_false a7_2) (Y.move (up0 rfl rfl rfl) rfl rfl)) rfl ?_
              refine OpsFrom.v (Y.move (up1 rfl rfl rfl rfl rfl rfl) rfl rfl) rfl ?_
              refine OpsFrom.v (Doing.isB (c := true) (decide_eq_true a7_4) (Y.move (up1 rfl rfl rfl rfl rfl rfl) rfl rfl)) rfl ?_
              refine OpsFrom.v (Y.move (up1 rfl rfl rfl rfl rfl rfl) rfl rfl) rfl ?_
              refine OpsFrom.v (Y.gtr (b := 0) (up1 rfl rfl rfl rfl rfl rfl) rfl rfl rfl) rfl ?_
              refine OpsFrom.v (Y.pickT (up1 rfl rfl rfl rfl rfl rfl) rfl rfl rfl) rfl ?_
              refine OpsFrom.v (Doing.isB (c := true) (decide_eq_true a7_8) (Y.move (up1 rfl rfl rfl rfl rfl rfl) rfl rfl)) rfl ?_
              refine OpsFrom.v (Y.move (up1 rfl rfl rfl rfl rfl rfl) rfl rfl) rfl ?_
              refine OpsFrom.v (Y.len ty26 (up1 rfl rfl rfl rfl rfl rfl) rfl rfl rfl rfl) rfl ?_
              refine OpsFrom.v (Y.eql (b := 0) (up1 rfl rfl rfl rfl rfl rfl) rfl rfl rfl) rfl ?_
              refine OpsFrom.v (Y.pickT (up1 rfl rfl rfl rfl rfl rfl) rfl rfl rfl) rfl ?_
              refine OpsFrom.v (Y.pickF (up0 rfl rfl rfl) rfl rfl rfl) rfl ?_
              refine OpsFrom.v (Doing.isB (c := true) (decide_eq_true a7_14) (Y.move (up0 rfl rfl rfl) rfl rfl)) rfl ?_
              refine OpsFrom.v (Doing.skip _ _ _ _ rfl rfl rfl rfl (dlt rfl (Nat.le_of_ble_eq_true rfl))) rfl ?_
              refine OpsFrom.v (Doing.skip _ _ _ _ rfl rfl rfl rfl (dlt rfl (Nat.le_of_ble_eq_true rfl))) rfl ?_
              refine OpsFrom.v (Doing.skip _ _ _ _ rfl rfl rfl rfl (dlt rfl (Nat.le_of_ble_eq_true rfl))) rfl ?_
              refine OpsFrom.v (Y.pickT (up0 rfl rfl rfl) rfl rfl rfl) rfl ?_
              refine OpsFrom.nil ?_
              exact join _ [] ⟨⟨rfl, rfl, rfl, rfl, rfl, rfl, rfl, rfl, rfl, rfl, rfl, rfl, rfl, rfl, rfl, rfl, rfl, rfl, rfl, rfl, rfl, rfl, rfl, rfl, rfl, rfl, rfl, rfl, rfl, rfl, rfl, rfl, rfl, rfl, rfl, rfl, rfl, rfl, (bEq (((((dAndB a7_14)).trans (dAnd a7_8)).trans (dAnd a7_4)).trans (dOr a7_2))), (bEq ((((dAnd a7_8)).trans (dAnd a7_4)).trans (dOr a7_2))), (bEq (((((dT a7_14)).trans (dAnd a7_8)).trans (dAnd a7_4)).trans (dOr a7_2))), (bEq (((((dT a7_14)).trans (dAnd a7_8)).trans (dAnd a7_4)).trans (dOr a7_2))), trivial⟩, ⟨rfl, rfl, rfl, trivial⟩, rfl, rfl⟩
            · refine Holds.reg ?_
              refine OpsFrom.v (Y.move (up0 rfl rfl rfl) rfl rfl) rfl ?_
              refine OpsFrom.v (Y.neq (b := 0) (up0 rfl rfl rfl) rfl rfl rfl) rfl ?_
              refine OpsFrom.v (Doing.isB (c := false) (decide_eq_false a7_2) (Y.move (up0 rfl rfl rfl) rfl rfl)) rfl ?_
              refine OpsFrom.v (Y.move (up1 rfl rfl rfl rfl rfl rfl) rfl rfl) rfl ?_
              refine OpsFrom.v (Doing.isB (c := true) (decide_eq_true a7_4) (Y.move (up1 rfl rfl rfl rfl rfl rfl) rfl rfl)) rfl ?_
              refine OpsFrom.v (Y.move (up1 rfl rfl rfl rfl rfl rfl) rfl rfl) rfl ?_
              refine OpsFrom.v (Y.gtr (b := 0) (up1 rfl rfl rfl rfl rfl rfl) rfl rfl rfl) rfl ?_
              refine OpsFrom.v (Y.pickT (up1 rfl rfl rfl rfl rfl rfl) rfl rfl rfl) rfl ?_
              refine OpsFrom.v (Doing.isB (c := true) (decide_eq_true a7_8) (Y.move (up1 rfl rfl rfl rfl rfl rfl) rfl rfl)) rfl ?_
              refine OpsFrom.v (Y.move (up1 rfl rfl rfl rfl rfl rfl) rfl rfl) rfl ?_
              refine OpsFrom.v (Y.len ty26 (up1 rfl rfl rfl rfl rfl rfl) rfl rfl rfl rfl) rfl ?_
              refine OpsFrom.v (Y.eql (b := 0) (up1 rfl rfl rfl rfl rfl rfl) rfl rfl rfl) rfl ?_
              refine OpsFrom.v (Y.pickT (up1 rfl rfl rfl rfl rfl rfl) rfl rfl rfl) rfl ?_
              refine OpsFrom.v (Y.pickF (up0 rfl rfl rfl) rfl rfl rfl) rfl ?_
              refine OpsFrom.v (Doing.isB (c := false) (decide_eq_false a7_14) (Y.move (up0 rfl rfl rfl) rfl rfl)) rfl ?_
              refine OpsFrom.v (Y.move (up1 rfl rfl rfl rfl rfl rfl) rfl rfl) rfl ?_
              refine OpsFrom.v (Y.len ty26 (up1 rfl rfl rfl rfl rfl rfl) rfl rfl rfl rfl) rfl ?_
              refine OpsFrom.v (Doing.isB (c := false) (decide_eq_false (by simp only [Cs.len, List.length_append]; omega)) (Y.gtr (b := 4194304) (up1 rfl rfl rfl rfl rfl rfl) rfl rfl rfl)) rfl ?_
              refine OpsFrom.v (Y.pickF (up0 rfl rfl rfl) rfl rfl rfl) rfl ?_
              refine OpsFrom.nil ?_
              exact join _ [] ⟨⟨rfl, rfl, rfl, rfl, rfl, rfl, rfl, rfl, rfl, rfl, rfl, rfl, rfl, rfl, rfl, rfl, rfl, rfl, rfl, rfl, rfl, rfl, rfl, rfl, rfl, rfl, rfl, rfl, rfl, rfl, rfl, rfl, rfl, rfl, rfl, rfl, rfl, rfl, (bEq (((((dF (fun k => a7_14 k.1))).trans (dAnd a7_8)).trans (dAnd a7_4)).trans (dOr a7_2))), (bEq ((((dAnd a7_8)).trans (dAnd a7_4)).trans (dOr a7_2))), (bEq (((((dF a7_14)).trans (dAnd a7_8)).trans (dAnd a7_4)).trans (dOr a7_2))), (bEq (((((dF a7_14)).trans (dAnd a7_8)).trans (dAnd a7_4)).trans (dOr a7_2))), trivial⟩, ⟨rfl, rfl, rfl, trivial⟩, rfl, rfl⟩
          · refine Holds.reg ?_
            refine OpsFrom.v (Y.move (up0 rfl rfl rfl) rfl rfl) rfl ?_
            refine OpsFrom.v (Y.neq (b := 0) (up0 rfl rfl rfl) rfl rfl rfl) rfl ?_
            refine OpsFrom.v (Doing.isB (c := false) (decide_eq_false a7_2) (Y.move (up0 rfl rfl rfl) rfl rfl)) rfl ?_
            refine OpsFrom.v (Y.move (up1 rfl rfl rfl rfl rfl rfl) rfl rfl) rfl ?_
            refine OpsFrom.v (Doing.isB (c := true) (decide_eq_true a7_4) (Y.move (up1 rfl rfl rfl rfl rfl rfl) rfl rfl)) rfl ?_
            refine OpsFrom.v (Y.move (up1 rfl rfl rfl rfl rfl rfl) rfl rfl) rfl ?_
            refine OpsFrom.v (Y.gtr (b := 0) (up1 rfl rfl rfl rfl rfl rfl) rfl rfl rfl) rfl ?_
            refine OpsFrom.v (Y.pickT (up1 rfl rfl rfl rfl rfl rfl) rfl rfl rfl) rfl ?_
            refine OpsFrom.v (Doing.isB (c := false) (decide_eq_false a7_8) (Y.move (up1 rfl rfl rfl rfl rfl rfl) rfl rfl)) rfl ?_
            refine OpsFrom.v (Doing.skip _ _ _ _ rfl rfl rfl rfl (dlt rfl (Nat.le_of_ble_eq_true rfl))) rfl ?_
            refine OpsFrom.v (Doing.skip _ _ _ _ rfl rfl rfl rfl (dlt rfl (Nat.le_of_ble_eq_true rfl))) rfl ?_
            refine OpsFrom.v (Doing.skip _ _ _ _ rfl rfl rfl rfl (dlt rfl (Nat.le_of_ble_eq_true rfl))) rfl ?_
            refine OpsFrom.v (Y.pickF (up1 rfl rfl rfl rfl rfl rfl) rfl rfl rfl) rfl ?_
            refine OpsFrom.v (Y.pickF (up0 rfl rfl rfl) rfl rfl rfl) rfl ?_
            refine OpsFrom.v (Y.move (up0 rfl rfl rfl) rfl rfl) rfl ?_
            refine OpsFrom.v (Y.move (up1 rfl rfl rfl rfl rfl rfl) rfl rfl) rfl ?_
            refine OpsFrom.v (Y.len ty26 (up1 rfl rfl rfl rfl rfl rfl) rfl rfl rfl rfl) rfl ?_
            refine OpsFrom.v (Doing.isB (c := false) (decide_eq_false (by simp only [Cs.len, List.length_append]; omega)) (Y.gtr (b := 4194304) (up1 rfl rfl rfl rfl rfl rfl) rfl rfl rfl)) rfl ?_
            refine OpsFrom.v (Y.pickF (up0 rfl rfl rfl) rfl rfl rfl) rfl ?_
            refine OpsFrom.nil ?_
            exact join _ [] ⟨⟨rfl, rfl, rfl, rfl, rfl, rfl, rfl, rfl, rfl, rfl, rfl, rfl, rfl, rfl, rfl, rfl, rfl, rfl, rfl, rfl, rfl, rfl, rfl, rfl, rfl, rfl, rfl, rfl, rfl, rfl, rfl, rfl, rfl, rfl, rfl, rfl, rfl, rfl, (bEq ((((dF (fun k => a7_8 k.1))).trans (dAnd a7_4)).trans (dOr a7_2))), (bEq ((((dF (fun k => a7_8 k.1))).trans (dAnd a7_4)).trans (dOr a7_2))), (bEq ((((dF (fun k => a7_8 k.1))).trans (dAnd a7_4)).trans (dOr a7_2))), (bEq ((((dF (fun k => a7_8 k.1))).trans (dAnd a7_4)).trans (dOr a7_2))), trivial⟩, ⟨rfl, rfl, rfl, trivial⟩, rfl, rfl⟩
        · refine Holds.reg ?_
          refine OpsFrom.v (Y.move (up0 rfl rfl rfl) rfl rfl) rfl ?_
          refine OpsFrom.v (Y.neq (b := 0) (up0 rfl rfl rfl) rfl rfl rfl) rfl ?_
          refine OpsFrom.v (Doing.isB (c := false) (decide_eq_false a7_2) (Y.move (up0 rfl rfl rfl) rfl rfl)) rfl ?_
          refine OpsFrom.v (Y.move (up1 rfl rfl rfl rfl rfl rfl) rfl rfl) rfl ?_
          refine OpsFrom.v (Doing.isB (c := false) (decide_eq_false a7_4) (Y.move (up1 rfl rfl rfl rfl rfl rfl) rfl rfl)) rfl ?_
          refine OpsFrom.v (Doing.skip _ _ _ _ rfl rfl rfl rfl (dlt rfl (Nat.le_of_ble_eq_true rfl))) rfl ?_
          refine OpsFrom.v (Doing.skip _ _ _ _ rfl rfl rfl rfl (dlt rfl (Nat.le_of_ble_eq_true rfl))) rfl ?_
          refine OpsFrom.v (Y.pickF (up1 rfl rfl rfl rfl rfl rfl) rfl rfl rfl) rfl ?_
          refine OpsFrom.v (Y.move (up1 rfl rfl rfl rfl rfl rfl) rfl rfl) rfl ?_
          refine OpsFrom.v (Doing.skip _ _ _ _ rfl rfl rfl rfl (dlt rfl (Nat.le_of_ble_eq_true rfl))) rfl ?_
          refine OpsFrom.v (Doing.skip _ _ _ _ rfl rfl rfl rfl (dlt rfl (Nat.le_of_ble_eq_true rfl))) rfl ?_
          refine OpsFrom.v (Doing.skip _ _ _ _ rfl rfl rfl rfl (dlt rfl (Nat.le_of_ble_eq_true rfl))) rfl ?_
          refine OpsFrom.v (Y.pickF (up1 rfl rfl rfl rfl rfl rfl) rfl rfl rfl) rfl ?_
          refine OpsFrom.v (Y.pickF (up0 rfl rfl rfl) rfl rfl rfl) rfl ?_
          refine OpsFrom.v (Y.move (up0 rfl rfl rfl) rfl rfl) rfl ?_
          refine OpsFrom.v (Y.move (up1 rfl rfl rfl rfl rfl rfl) rfl rfl) rfl ?_
          refine OpsFrom.v (Y.len ty26 (up1 rfl rfl rfl rfl rfl rfl) rfl rfl rfl rfl) rfl ?_
          refine OpsFrom.v (Doing.isB (c := false) (decide_eq_false (by simp only [Cs.len, List.length_append]; omega)) (Y.gtr (b := 4194304) (up1 rfl rfl rfl rfl rfl rfl) rfl rfl rfl)) rfl ?_
          refine OpsFrom.v (Y.pickF (up0 rfl rfl rfl) rfl rfl rfl) rfl ?_
          refine OpsFrom.nil ?_
          exact join _ [] ⟨⟨rfl, rfl, rfl, rfl, rfl, rfl, rfl, rfl, rfl, rfl, rfl, rfl, rfl, rfl, rfl, rfl, rfl, rfl, rfl, rfl, rfl, rfl, rfl, rfl, rfl, rfl, rfl, rfl, rfl, rfl, rfl, rfl, rfl, rfl, rfl, rfl, rfl, rfl, (bEq (((dF (fun k => a7_4 k.1))).trans (dOr a7_2))), (bEq (((dF (fun k => a7_4 k.1))).trans (dOr a7_2))), (bEq (((dF (fun k => a7_4 k.1))).trans (dOr a7_2))), (bEq (((dF (fun k => a7_4 k.1))).trans (dOr a7_2))), trivial⟩, ⟨rfl, rfl, rfl, trivial⟩, rfl, rfl⟩
  · refine Holds.seq ?_
    refine Holds.reg ?_
    refine OpsFrom.v (Y.assign (up0 rfl rfl rfl) rfl rfl) rfl ?_
    refine OpsFrom.nil ?_
    refine Holds.seq ?_
    refine Holds.reg ?_
    refine OpsFrom.v (Y.assign (v := (.one (.n .u64 0))) (up0 rfl rfl rfl) rfl rfl) rfl ?_
    refine OpsFrom.nil ?_
    refine Holds.seq ?_
    refine Holds.label ?_
    refine Holds.grow 8 8 (.ints .u8 []) rfl rfl rfl ?_
    refine again _ 0 [] (by first | (with_reducible assumption) | omega | (simp only [lens, List.flatten_cons, List.flatten_nil, List.append_nil, List.length_cons, List.length_nil, Cs.len, List.length_map, List.length_set, List.length_replicate, *]; first | done | omega) | decide | (split <;> simp only [lens, List.flatten_cons, List.flatten_nil, List.append_nil, List.length_cons, List.length_nil, Cs.len, List.length_map, List.length_set, List.length_replicate, *]) | (with_reducible exact Lt.mono (by assumption) (by decide)) | (simp only [Cs.len]; done) | rfl) ?_
    exact ⟨⟨rfl, (bsEq (congrArg (fun (s : (List Nat) × Nat × (List Nat)) => s.1) (sopen_it1_z key beside b)).symm), rfl, rfl, rfl, rfl, (nEq (congrArg (fun (s : (List Nat) × Nat × (List Nat)) => s.2.1) (sopen_it1_z key beside b)).symm), trivial⟩, ⟨rfl, (hEq (congrArg (fun (s : (List Nat) × Nat × (List Nat)) => s.2.2) (sopen_it1_z key beside b)).symm), trivial⟩, rfl, rfl⟩


end Go.Proofs.Ytkpelchcpiafaaa
