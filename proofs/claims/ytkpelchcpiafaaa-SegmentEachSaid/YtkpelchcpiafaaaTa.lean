/-
  Walks: sealing segments.
-/
import Derived.Test.YtkpelchcpiafaaaSc
namespace Go.Proofs.Ytkpelchcpiafaaa
open Go Go.Fx
set_option linter.unusedVariables false
set_option linter.unusedSimpArgs false
def sseal_s1 (key : List Nat) (beside : List Nat) (b : List Nat) (i1_ : Nat) (m1_ : (List Nat) × Nat × (List Nat)) : (List Nat) × Nat × (List Nat) :=
  let v10_ : Bool := decide ((Min.min m1_.1.length 512) = m1_.1.length)
  let v11_ : List Nat := (m1_.1.drop 0).take ((Min.min m1_.1.length 512) - 0)
  let v13_ : List Nat := (sealed key (nonce m1_.2.1 v10_) v11_ beside).1
  let v14_ : List Nat := (m1_.1.drop (Min.min m1_.1.length 512)).take (m1_.1.length - (Min.min m1_.1.length 512))
  (v14_, (m1_.2.1 + 1) % 18446744073709551616, m1_.2.2 ++ v13_)
def sseal_it1 (key : List Nat) (beside : List Nat) (b : List Nat) (i1_ : Nat) : (List Nat) × Nat × (List Nat) := iter (sseal_s1 key beside b) i1_ (b, 0, [])
theorem sseal_it1_z (key : List Nat) (beside : List Nat) (b : List Nat) : sseal_it1 key beside b 0 = (b, 0, []) := rfl
theorem sseal_it1_s (key : List Nat) (beside : List Nat) (b : List Nat) (i1_ : Nat) : sseal_it1 key beside b (i1_ + 1) = sseal_s1 key beside b i1_ (sseal_it1 key beside b i1_) := by unfold sseal_it1; exact iterS _ _ _
theorem sseal_f (key beside : List Nat) {b : List Nat} (hb : b.length ≤ 4194304) : ∀ i, 512 * i ≤ b.length → (sseal_it1 key beside b i).1 = b.drop (512 * i) ∧ (sseal_it1 key beside b i).2.1 = i
  | 0, _ => ⟨rfl, rfl⟩
  | i + 1, h => by
    obtain ⟨h1, h2⟩ := sseal_f key beside hb i (by omega)
    rw [sseal_it1_s]
    unfold sseal_s1
    dsimp only
    rw [h1, h2, List.length_drop]
    refine ⟨?_, by omega⟩
    rw [show Min.min (b.length - 512 * i) 512 = 512 by omega, List.take_of_length_le (by simp only [List.length_drop]; omega), List.drop_drop]
    exact congrArg (fun n => b.drop n) (by omega)
theorem sseal_iff (key beside : List Nat) {b : List Nat} (hb : b.length ≤ 4194304) {i : Nat} (hi : i ≤ (b.length - 1) / 512) : ((!decide (Min.min (sseal_it1 key beside b i).1.length 512 = (sseal_it1 key beside b i).1.length)) = true) ↔ i < (b.length - 1) / 512 := by
  rw [(sseal_f key beside hb i (by omega)).1, List.length_drop]
  simp only [Bool.not_eq_true', decide_eq_false_iff_not]
  omega
theorem sseal_n {key : List Nat} (lk : key.length = 32) (beside : List Nat) {b : List Nat} (hb : b.length ≤ 4194304) : ∀ i, 512 * i ≤ b.length → (sseal_it1 key beside b i).2.2.length = 528 * i
  | 0, _ => rfl
  | i + 1, h => by
    have h1 := (sseal_f key beside hb i (by omega)).1
    have h2 := sseal_n lk beside hb i (by omega)
    rw [sseal_it1_s]
    unfold sseal_s1
    dsimp only
    rw [List.length_append, sealed_len lk (nonce_len _ _), h2, h1]
    simp only [List.length_take, List.length_drop]
    omega
def sseal (key : List Nat) (beside : List Nat) (b : List Nat) : (List Nat) × Nat :=
  ((sseal_it1 key beside b ((b.length - 1) / 512)).2.2 ++ ((sealed key (nonce (sseal_it1 key beside b ((b.length - 1) / 512)).2.1 (decide ((Min.min (sseal_it1 key beside b ((b.length - 1) / 512)).1.length 512) = (sseal_it1 key beside b ((b.length - 1) / 512)).1.length))) (((sseal_it1 key beside b ((b.length - 1) / 512)).1.drop 0).take ((Min.min (sseal_it1 key beside b ((b.length - 1) / 512)).1.length 512) - 0)) beside).1), 0)
theorem w_sseal (key : List Nat) (beside : List Nat) (b : List Nat) (l_key : key.length = 32) (h_beside : beside.length < 1073741824) (h_b : b.length ≤ 4194304) : VF Try.prog 37 [.row (.ints .u8 key), .one (.bs false .u8 beside), .one (.bs false .u8 b)] (.two (.one (.sg 0 0 ((sseal key beside b).1).length)) (.one (.n .i64 ((sseal key beside b).2)))) .u8 ((sseal key beside b).1) := by
  refine VF.go Try.func37 rfl Try.ntmps37 rfl rfl fun O w => ?_
  refine Holds.seq ?_
  refine Holds.reg ?_
  refine OpsFrom.u (Y.boxR (d := 3) (up0 rfl rfl rfl) rfl rfl rfl) rfl rfl rfl ?_
  refine OpsFrom.v (Y.assign (up0 rfl rfl rfl) rfl rfl) rfl ?_
  refine OpsFrom.v (Y.assign (v := (.one (.n .i64 0))) (up0 rfl rfl rfl) rfl rfl) rfl ?_
  refine OpsFrom.nil ?_
  refine Holds.scopeL 0 (fun (i1_ : Nat) => ⟨[(1, .one (.bs false .u8 beside)), (2, .one (.bs false .u8 ((sseal_it1 key beside b i1_).1))), (3, .one (.p 3 0)), (6, .one (.nil)), (7, .one (.n .i64 0)), (8, .one (.sg 8 0 (((sseal_it1 key beside b i1_).2.2).length))), (9, .one (.n .u64 ((sseal_it1 key beside b i1_).2.1)))], [(3, .own (.ints .u8 key)), (8, .own (.ints .u8 ((sseal_it1 key beside b i1_).2.2)))]⟩) (fun (i1_ : Nat) => i1_ ≤ ((b.length - 1) / 512)) (fun (i1_ : Nat) => ((b.length - 1) / 512) - i1_) rfl (fun i1_ k1_ => ?_) (fun again => ?_)
  · have hf := sseal_f key beside h_b i1_ (by omega)
    have hn := sseal_n l_key beside h_b i1_ (by omega)
    have hsl : ∀ n l t, (sealed key (nonce n l) t beside).1.length = t.length + 16 := fun n l t => sealed_len l_key (nonce_len n l)
    refine Holds.seq ?_
    refine Holds.reg ?_
    refine OpsFrom.v (Y.move (up0 rfl rfl rfl) rfl rfl) rfl ?_
    refine OpsFrom.v (Y.len ty26 (up0 rfl rfl rfl) rfl rfl rfl rfl) rfl ?_
    refine OpsFrom.v (Y.min (up0 rfl rfl rfl) rfl rfl rfl) rfl ?_
    refine OpsFrom.v (Y.assign (up0 rfl rfl rfl) rfl rfl) rfl ?_
    refine OpsFrom.nil ?_
    refine Holds.seq ?_
    refine Holds.reg ?_
    refine OpsFrom.v (Y.move (up0 rfl rfl rfl) rfl rfl) rfl ?_
    refine OpsFrom.v (Y.move (up0 rfl rfl rfl) rfl rfl) rfl ?_
    refine OpsFrom.v (Y.len ty26 (up0 rfl rfl rfl) rfl rfl rfl rfl) rfl ?_
    refine OpsFrom.v (Y.eql (up0 rfl rfl rfl) rfl rfl rfl) rfl ?_
    refine OpsFrom.v (Y.assign (up0 rfl rfl rfl) rfl rfl) rfl ?_
    refine OpsFrom.nil ?_
    refine Holds.seq ?_
    refine Holds.dr mx [([25], [26, 27, 28, 29, 30, 31, 32]), ([26], [25, 27, 29, 30, 31, 32]), ([27], [25, 26, 29, 30, 31, 32]), ([28], [25, 29, 30, 31, 32]), ([29], [25, 26, 27, 28, 30, 32]), ([30], [25, 26, 27, 28, 29, 32]), ([31], [25, 26, 27, 28, 32]), ([32], [25, 26, 27, 28, 29, 30, 31]), ([33], []), ([24], []), ([34], [35]), ([35], [34, 12]), ([12], [35]), ([13], [])] (by kernel_rfl) ?_
    refine CertK.vd (Y.ldAll ty23 rfl (up0 rfl rfl rfl) rfl rfl rfl (by first | (with_reducible assumption) | omega | (simp only [lens, nonce_len, List.flatten_cons, List.flatten_nil, List.append_nil, List.length_cons, List.length_nil, Cs.len, List.length_map, List.length_set, List.length_replicate, *]; first | done | omega) | decide | (split <;> simp only [lens, nonce_len, List.flatten_cons, List.flatten_nil, List.append_nil, List.length_cons, List.length_nil, Cs.len, List.length_map, List.length_set, List.length_replicate, *]) | (with_reducible exact Lt.mono (by assumption) (by decide)) | (simp only [Cs.len]; done) | rfl) (by decide)) rfl rfl ?_
    refine CertK.vd (Y.move (up0 rfl rfl rfl) rfl rfl) rfl rfl ?_
    refine CertK.vd (Y.move (up0 rfl rfl rfl) rfl rfl) rfl rfl ?_
    refine CertK.vd (Y.callV (w_nonce _ _ ) fnok35 (up0 rfl rfl rfl) rfl rfl (.cons _ _ _ _ rfl (.cons _ _ _ _ rfl .nil)) (.cons _ _ _ _ (.same _) (.cons _ _ _ _ (.same _) .nil)) rfl rfl) rfl rfl ?_
    refine CertK.vd (Y.move (up0 rfl rfl rfl) rfl rfl) rfl rfl ?_
    refine CertK.vd (Y.move (up0 rfl rfl rfl) rfl rfl) rfl rfl ?_
    refine CertK.vd (Y.slBs ty26 ty5 (up0 rfl rfl rfl) rfl rfl bnd0 (bnd1 rfl) (by first | (with_reducible assumption) | omega | (simp only [lens, nonce_len, List.flatten_cons, List.flatten_nil, List.append_nil, List.length_cons, List.length_nil, Cs.len, List.length_map, List.length_set, List.length_replicate, *]; first | done | omega) | decide | (split <;> simp only [lens, nonce_len, List.flatten_cons, List.flatten_nil, List.append_nil, List.length_cons, List.length_nil, Cs.len, List.length_map, List.length_set, List.length_replicate, *]) | (with_reducible exact Lt.mono (by assumption) (by decide)) | (simp only [Cs.len]; done) | rfl) (by first | (with_reducible assumption) | omega | (simp only [lens, nonce_len, List.flatten_cons, List.flatten_nil, List.append_nil, List.length_cons, List.length_nil, Cs.len, List.length_map, List.length_set, List.length_replicate, *]; first | done | omega) | decide | (split <;> simp only [lens, nonce_len, List.flatten_cons, List.flatten_nil, List.append_nil, List.length_cons, List.length_nil, Cs.len, List.length_map, List.length_set, List.length_replicate, *]) | (with_reducible exact Lt.mono (by assumption) (by decide)) | (simp only [Cs.len]; done) | rfl)) rfl rfl ?_
    refine CertK.vd (Y.move (up0 rfl rfl rfl) rfl rfl) rfl rfl ?_
    refine CertK.u (Y.callF (d := 33) (w_sealed _ _ _ _ (by first | (with_reducible assumption) | omega | (simp only [lens, nonce_len, List.flatten_cons, List.flatten_nil, List.append_nil, List.length_cons, List.length_nil, Cs.len, List.length_map, List.length_set, List.length_replicate, *]; first | done | omega) | decide | (split <;> simp only [lens, nonce_len, List.flatten_cons, List.flatten_nil, List.append_nil, List.length_cons, List.length_nil, Cs.len, List.length_map, List.length_set, List.length_replicate, *]) | (with_reducible exact Lt.mono (by assumption) (by decide)) | (simp only [Cs.len]; done) | rfl) (by first | (with_reducible assumption) | omega | (simp only [lens, nonce_len, List.flatten_cons, List.flatten_nil, List.append_nil, List.length_cons, List.length_nil, Cs.len, List.length_map, List.length_set, List.length_replicate, *]; first | done | omega) | decide | (split <;> simp only [lens, nonce_len, List.flatten_cons, List.flatten_nil, List.append_nil, List.length_cons, List.length_nil, Cs.len, List.length_map, List.length_set, List.length_replicate, *]) | (with_reducible exact Lt.mono (by assumption) (by decide)) | (simp only [Cs.len]; done) | rfl) (by first | (with_reducible assumption) | omega | (simp only [lens, nonce_len, List.flatten_cons, List.flatten_nil, List.append_nil, List.length_cons, List.length_nil, Cs.len, List.length_map, List.length_set, List.length_replicate, *]; first | done | omega) | decide | (split <;> simp only [lens, nonce_len, List.flatten_cons, List.flatten_nil, List.append_nil, List.length_cons, List.length_nil, Cs.len, List.length_map, List.length_set, List.length_replicate, *]) | (with_reducible exact Lt.mono (by assumption) (by decide)) | (simp only [Cs.len]; done) | rfl) (by first | (with_reducible assumption) | omega | (simp only [lens, nonce_len, List.flatten_cons, List.flatten_nil, List.append_nil, List.length_cons, List.length_nil, Cs.len, List.length_map, List.length_set, List.length_replicate, *]; first | done | omega) | decide | (split <;> simp only [lens, nonce_len, List.flatten_cons, List.flatten_nil, List.append_nil, List.length_cons, List.length_nil, Cs.len, List.length_map, List.length_set, List.length_replicate, *]) | (with_reducible exact Lt.mono (by assumption) (by decide)) | (simp only [Cs.len]; done) | rfl)) fnok39 (up0 rfl rfl rfl) rfl rfl (.cons _ _ _ _ rfl (.cons _ _ _ _ rfl (.cons _ _ _ _ rfl (.cons _ _ _ _ rfl .nil)))) (.cons _ _ _ _ (.same _) (.cons _ _ _ _ (.same _) (.cons _ _ _ _ (.same _) (.cons _ _ _ _ (.same _) .nil)))) rfl rfl rfl) rfl rfl rfl rfl rfl ?_
    refine CertK.v (Y.move (up0 rfl rfl rfl) rfl rfl) rfl ?_
    refine CertK.vd (Y.ext0 (up0 rfl rfl rfl) rfl rfl) rfl rfl ?_
    refine CertK.vd (Y.ext1 (up0 rfl rfl rfl) rfl rfl) rfl rfl ?_
    refine CertK.vd (Y.assign (up0 rfl rfl rfl) rfl rfl) rfl rfl ?_
    refine CertK.v (Y.assign (up0 rfl rfl rfl) rfl rfl) rfl ?_
    refine CertK.nil ?_
    refine Holds.seq ?_
    refine Holds.seq ?_
    refine Holds.reg ?_
    refine OpsFrom.v (Y.move (up0 rfl rfl rfl) rfl rfl) rfl ?_
    refine OpsFrom.v (Doing.isB (c := false) (decide_eq_false (not_not_intro (congrArg Prod.snd (sealed_val _ _ _ _)))) (Y.neq (b := 0) (up0 rfl rfl rfl) rfl rfl rfl)) rfl ?_
    refine OpsFrom.nil ?_
    refine Holds.condF rfl ?_
    refine Holds.skip ?_
    refine Holds.seq ?_
    refine Holds.dr mx [([39], [40, 42, 43, 44]), ([40], [39, 42, 43, 44]), ([41, 8], [42, 43, 44]), ([42], [39, 40, 41, 8, 43]), ([43], [39, 40, 41, 8, 42]), ([44], [39, 40, 41, 8]), ([8], [42, 43, 44]), ([2], [])] (by kernel_rfl) ?_
    refine CertK.vd (Y.move (up0 rfl rfl rfl) rfl rfl) rfl rfl ?_
    refine CertK.vd (Y.move (up0 rfl rfl rfl) rfl rfl) rfl rfl ?_
    refine CertK.u (Y.app (d := 41) ty26 ty5 rfl ty26 (by decide) (up0 rfl rfl rfl) rfl rfl rfl (.all rfl (by first | (with_reducible assumption) | omega | (simp only [lens, nonce_len, List.flatten_cons, List.flatten_nil, List.append_nil, List.length_cons, List.length_nil, Cs.len, List.length_map, List.length_set, List.length_replicate, *]; first | done | omega) | decide | (split <;> simp only [lens, nonce_len, List.flatten_cons, List.flatten_nil, List.append_nil, List.length_cons, List.length_nil, Cs.len, List.length_map, List.length_set, List.length_replicate, *]) | (with_reducible exact Lt.mono (by assumption) (by decide)) | (simp only [Cs.len]; done) | rfl)) rfl (.all rfl (by first | (with_reducible assumption) | omega | (simp only [lens, nonce_len, List.flatten_cons, List.flatten_nil, List.append_nil, List.length_cons, List.length_nil, Cs.len, List.length_map, List.length_set, List.length_replicate, *]; first | done | omega) | decide | (split <;> simp only [lens, nonce_len, List.flatten_cons, List.flatten_nil, List.append_nil, List.length_cons, List.length_nil, Cs.len, List.length_map, List.length_set, List.length_replicate, *]) | (with_reducible exact Lt.mono (by assumption) (by decide)) | (simp only [Cs.len]; done) | rfl)) App.i (by first | (with_reducible assumption) | omega | (simp only [lens, nonce_len, List.flatten_cons, List.flatten_nil, List.append_nil, List.length_cons, List.length_nil, Cs.len, List.length_map, List.length_set, List.length_replicate, *]; first | done | omega) | decide | (split <;> simp only [lens, nonce_len, List.flatten_cons, List.flatten_nil, List.append_nil, List.length_cons, List.length_nil, Cs.len, List.length_map, List.length_set, List.length_replicate, *]) | (with_reducible exact Lt.mono (by assumption) (by decide)) | (simp only [Cs.len]; done) | rfl) rfl (by first | (simp; done) | (rintro ⟨_, _, _, h⟩; cases h))) rfl rfl rfl rfl rfl ?_
    refine CertK.vd (Y.move (up0 rfl rfl rfl) rfl rfl) rfl rfl ?_
    refine CertK.vd (Y.move (up0 rfl rfl rfl) rfl rfl) rfl rfl ?_
    refine CertK.vd (Y.slBs ty26 ty5 (up0 rfl rfl rfl) rfl rfl (bnd1 rfl) bnd0 (by first | (with_reducible assumption) | omega | (simp only [lens, nonce_len, List.flatten_cons, List.flatten_nil, List.append_nil, List.length_cons, List.length_nil, Cs.len, List.length_map, List.length_set, List.length_replicate, *]; first | done | omega) | decide | (split <;> simp only [lens, nonce_len, List.flatten_cons, List.flatten_nil, List.append_nil, List.length_cons, List.length_nil, Cs.len, List.length_map, List.length_set, List.length_replicate, *]) | (with_reducible exact Lt.mono (by assumption) (by decide)) | (simp only [Cs.len]; done) | rfl) (by first | (with_reducible assumption) | omega | (simp only [lens, nonce_len, List.flatten_cons, List.flatten_nil, List.append_nil, List.length_cons, List.length_nil, Cs.len, List.length_map, List.length_set, List.length_replicate, *]; first | done | omega) | decide | (split <;> simp only [lens, nonce_len, List.flatten_cons, List.flatten_nil, List.append_nil, List.length_cons, List.length_nil, Cs.len, List.length_map, List.length_set, List.length_replicate, *]) | (with_reducible exact Lt.mono (by assumption) (by decide)) | (simp only [Cs.len]; done) | rfl)) rfl rfl ?_
    refine CertK.vd (Y.assign (up0 rfl rfl rfl) rfl rfl) rfl rfl ?_
    refine CertK.v (Y.assign (up0 rfl rfl rfl) rfl rfl) rfl ?_
    refine CertK.nil ?_
    refine Holds.seq ?_
    refine Holds.reg ?_
    refine OpsFrom.v (Y.move (up0 rfl rfl rfl) rfl rfl) rfl ?_
    refine OpsFrom.v (Y.add (b := 1) u64s u64m (up0 rfl rfl rfl) rfl rfl rfl) rfl ?_
    refine OpsFrom.v (Y.assign (up0 rfl rfl rfl) rfl rfl) rfl ?_
    refine OpsFrom.nil ?_
    refine Holds.seq ?_
    refine Holds.seq ?_
    refine Holds.reg ?_
    refine OpsFrom.v (Y.move (up0 rfl rfl rfl) rfl rfl) rfl ?_
    refine OpsFrom.v (Y.not (up0 rfl rfl rfl) rfl rfl) rfl ?_
    refine OpsFrom.nil ?_
    refine Holds.cond _ rfl (fun h48 => ?_) (fun h48 => ?_)
    · have h1c := (sseal_iff key beside h_b k1_).1 h48
      refine Holds.goto ?_
      exact Holds.jump (Q := fun _ _ _ => True) (i1_ + 1) (by omega) (by omega) [(8, 41)] ⟨⟨rfl, (bsEq (by rw [sseal_it1_s]; unfold sseal_s1; first | (dsimp only; done) | rfl)), rfl, rfl, rfl, (sgEq (congrArg List.length (by rw [sseal_it1_s]; unfold sseal_s1; first | (dsimp only; done) | rfl)) rfl), (nEq (by rw [sseal_it1_s]; unfold sseal_s1; first | (dsimp only; done) | rfl)), trivial⟩, ⟨rfl, (hEq (by rw [sseal_it1_s]; unfold sseal_s1; first | (dsimp only; done) | rfl)), trivial⟩, rfl, rfl⟩
    · have h1c : ¬ (i1_ < ((b.length - 1) / 512)) := by
        intro q
        have q2 := (sseal_iff key beside h_b k1_).2 q
        first | exact h48 q2 | exact q2 h48 | (rw [h48] at q2; cases q2)
      obtain rfl : i1_ = (b.length - 1) / 512 := by omega
      refine Holds.skip ?_
      refine Holds.seq ?_
      refine Holds.reg ?_
      refine OpsFrom.v (Y.move (up0 rfl rfl rfl) rfl rfl) rfl ?_
      refine OpsFrom.v (Y.assign (up0 rfl rfl rfl) rfl rfl) rfl ?_
      refine OpsFrom.v (Y.assign (v := (.one (.n .i64 0))) (up0 rfl rfl rfl) rfl rfl) rfl ?_
      refine OpsFrom.nil ?_
      refine Holds.ret ?_
      exact Holds.retF (id := 41) (.inl rfl) rfl (.two _ _ _ _ (.tmp _ _ rfl) (.tmp _ _ rfl)) (by first | rfl | (unfold sseal; rfl)) rfl (by first | rfl | (unfold sseal; rfl))
  · refine Holds.seq ?_
    refine Holds.seq ?_
    refine Holds.reg ?_
    refine OpsFrom.v (Y.move (up0 rfl rfl rfl) rfl rfl) rfl ?_
    refine OpsFrom.v (Y.len ty26 (up0 rfl rfl rfl) rfl rfl rfl rfl) rfl ?_
    refine OpsFrom.v (Doing.isB (c := false) (decide_eq_false (by first | (with_reducible assumption) | omega | (simp only [lens, List.flatten_cons, List.flatten_nil, List.append_nil, List.length_cons, List.length_nil, Cs.len, List.length_map, List.length_set, List.length_replicate, *]; first | done | omega) | decide | (split <;> simp only [lens, List.flatten_cons, List.flatten_nil, List.append_nil, List.length_cons, List.length_nil, Cs.len, List.length_map, List.length_set, List.length_replicate, *]) | (with_reducible exact Lt.mono (by assumption) (by decide)) | (simp only [Cs.len]; done) | rfl)) (Y.gtr (b := 4194304) (up0 rfl rfl rfl) rfl rfl rfl)) rfl ?_
    refine OpsFrom.nil ?_
    refine Holds.condF rfl ?_
    refine Holds.skip ?_
    refine Holds.seq ?_
    refine Holds.reg ?_
    refine OpsFrom.v (Y.assign (up0 rfl rfl rfl) rfl rfl) rfl ?_
    refine OpsFrom.nil ?_
    refine Holds.seq ?_
    refine Holds.reg ?_
    refine OpsFrom.v (Y.assign (v := (.one (.n .u64 0))) (up0 rfl rfl rfl) rfl rfl) rfl ?_
    refine OpsFrom.nil ?_
    refine Holds.seq ?_
    refine Holds.label ?_
    refine Holds.grow 8 8 (.ints .u8 []) rfl rfl rfl ?_
    refine again _ 0 [] (by first | (with_reducible assumption) | omega | (simp only [lens, List.flatten_cons, List.flatten_nil, List.append_nil, List.length_cons, List.length_nil, Cs.len, List.length_map, List.length_set, List.length_replicate, *]; first | done | omega) | decide | (split <;> simp only [lens, List.flatten_cons, List.flatten_nil, List.append_nil, List.length_cons, List.length_nil, Cs.len, List.length_map, List.length_set, List.length_replicate, *]) | (with_reducible exact Lt.mono (by assumption) (by decide)) | (simp only [Cs.len]; done) | rfl) ?_
    exact ⟨⟨rfl, (bsEq (congrArg (fun (s : (List Nat) × Nat × (List Nat)) => s.1) (sseal_it1_z key beside b)).symm), rfl, rfl, rfl, rfl, (nEq (congrArg (fun (s : (List Nat) × Nat × (List Nat)) => s.2.1) (sseal_it1_z key beside b)).symm), trivial⟩, ⟨rfl, (hEq (congrArg (fun (s : (List Nat) × Nat × (List Nat)) => s.2.2) (sseal_it1_z key beside b)).symm), trivial⟩, rfl, rfl⟩


end Go.Proofs.Ytkpelchcpiafaaa
