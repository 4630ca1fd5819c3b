/-
  Walks: writing.
-/
import Derived.Test.YtjgcmfedofmkpaaSe
namespace Go.Proofs.Ytjgcmfedofmkpaa
open Go Go.Fx
set_option linter.unusedVariables false
set_option linter.unusedSimpArgs false
def sbeg (s : St) : St := if (!s.b) = true then snew else s
theorem sbeg_pos (s : St) (h : (!s.b) = true) : snew = (sbeg s) := (if_pos h).symm
theorem sbeg_neg (s : St) (h : ¬ ((!s.b) = true)) : s = (sbeg s) := (if_neg h).symm
attribute [irreducible] sbeg
def swrite_s1 (s : St) (a : List Nat) (i1_ : Nat) (m1_ : (List Nat) × St × (List Nat)) : (List Nat) × St × (List Nat) :=
  let v8_ : St := (sblk ((m1_.1.drop 0).take (128 - 0)) m1_.2.1 m1_.2.2).1
  let v9_ : List Nat := (sblk ((m1_.1.drop 0).take (128 - 0)) m1_.2.1 m1_.2.2).2
  let v10_ : List Nat := (m1_.1.drop 128).take (m1_.1.length - 128)
  (v10_, v8_, v9_)
def swrite_it1 (s : St) (a : List Nat) (i1_ : Nat) : (List Nat) × St × (List Nat) := iter (swrite_s1 s a) i1_ ((sconc [((sbeg s).setN ((((sbeg s).n) + (a.length % 18446744073709551616)) % 18446744073709551616)).r, a]), (sbeg s).setN ((((sbeg s).n) + (a.length % 18446744073709551616)) % 18446744073709551616), sK)
theorem swrite_it1_z (s : St) (a : List Nat) : swrite_it1 s a 0 = ((sconc [((sbeg s).setN ((((sbeg s).n) + (a.length % 18446744073709551616)) % 18446744073709551616)).r, a]), (sbeg s).setN ((((sbeg s).n) + (a.length % 18446744073709551616)) % 18446744073709551616), sK) := rfl
theorem swrite_it1_s (s : St) (a : List Nat) (i1_ : Nat) : swrite_it1 s a (i1_ + 1) = swrite_s1 s a i1_ (swrite_it1 s a i1_) := by unfold swrite_it1; exact iterS _ _ _
theorem swrite_n (s : St) (a : List Nat) : ∀ i, (swrite_it1 s a i).1 = ((sbeg s).r ++ a).drop (128 * i) ∧ (swrite_it1 s a i).2.1.h.length = (sbeg s).h.length ∧ (swrite_it1 s a i).2.2 = sK
  | 0 => by
    rw [swrite_it1_z]
    refine ⟨?_, rfl, rfl⟩
    dsimp only
    rw [sconc_eq]
    simp only [List.flatten_cons, List.flatten_nil, List.append_nil, Nat.mul_zero, List.drop_zero]
  | i + 1 => by
    obtain ⟨h1, h2, h3⟩ := swrite_n s a i
    rw [swrite_it1_s]
    unfold swrite_s1
    dsimp only
    refine ⟨?_, (sblk_l _ _ _).trans h2, (sblk_l2 _ _ _).trans h3⟩
    rw [h1, List.take_of_length_le (by rw [List.length_drop]; omega), List.drop_drop]
    rfl
theorem swrite_ln (s : St) (a : List Nat) (i : Nat) : (swrite_it1 s a i).1.length = (sbeg s).r.length + a.length - 128 * i := by
  rw [(swrite_n s a i).1, List.length_drop, List.length_append]
theorem swrite_iff (s : St) (a : List Nat) {i : Nat} (hi : i ≤ ((sbeg s).r.length + a.length) / 128) : ((swrite_it1 s a i).1.length ≥ 128) ↔ i < ((sbeg s).r.length + a.length) / 128 := by
  rw [swrite_ln]
  omega
def swrite (s : St) (a : List Nat) : St :=
  let v14_ : List Nat := (swrite_it1 s a (((sbeg s).r.length + a.length) / 128)).1
  let v15_ : St := ((swrite_it1 s a (((sbeg s).r.length + a.length) / 128)).2.1).setR v14_
  v15_
theorem w_swrite (s : St) (a : List Nat) (l_s : s.h.length = 8) (h_a : a.length ≤ 1048576) (h_r : s.r.length ≤ 128) : VC Try.prog 23 [.row (.mix (St.cells s)), .one (.bs false .u8 a)] (.row (.mix (St.cells (swrite s a)))) := by
  refine VC.go Try.func23 rfl Try.ntmps23 rfl rfl fun O w => ?_
  refine Holds.seq ?_
  refine Holds.reg ?_
  refine OpsFrom.u (Y.boxR (d := 2) (up0 rfl rfl rfl) rfl rfl rfl) rfl rfl rfl ?_
  refine OpsFrom.u (Y.alloc (d := 4) ty30 rfl rfl (up0 rfl rfl rfl) rfl) rfl rfl rfl ?_
  refine OpsFrom.nil ?_
  refine Holds.seqJoin ⟨[(1, .one (.bs false .u8 a)), (2, .one (.p 2 0)), (4, .one (.p 4 0))], [(2, .own (.mix (St.cells (sbeg s)))), (4, .own (.mix [.b false, .n .u64 0, .n .u64 0, .n .u64 0, .n .u64 0, .n .u64 0, .n .u64 0, .n .u64 0, .n .u64 0, .n .u64 0, .nil]))]⟩ ?_ (fun join => ?_)
  · refine Holds.seq ?_
    have hb8 : (sbeg s).h.length = 8 := by unfold sbeg; split <;> first | exact snew_l | exact l_s
    have hbr : (sbeg s).r.length ≤ 128 := by unfold sbeg; split <;> first | exact h_r | (rw [snew_r]; decide)
    refine Holds.reg ?_
    refine OpsFrom.v (Y.fa (f := 2) (fld := ⟨ "n", 27, 9, false, "", "fardel/sha", 72⟩) ty30 rfl ty27 (by decide) (up0 rfl rfl rfl) rfl rfl) rfl ?_
    refine OpsFrom.v (Y.ld ty27 rfl (up0 rfl rfl rfl) rfl rfl rfl (show 9 < 11 by decide)) rfl ?_
    refine OpsFrom.v (Y.move (up0 rfl rfl rfl) rfl rfl) rfl ?_
    refine OpsFrom.v (Y.len ty22 (up0 rfl rfl rfl) rfl rfl rfl rfl) rfl ?_
    refine OpsFrom.v (Y.conv ty3.u ty27.u u64s u64m (up0 rfl rfl rfl) rfl rfl) rfl ?_
    refine OpsFrom.v (Y.add u64s u64m (up0 rfl rfl rfl) rfl rfl rfl) rfl ?_
    refine OpsFrom.v (Y.fa (f := 2) (fld := ⟨ "n", 27, 9, false, "", "fardel/sha", 72⟩) ty30 rfl ty27 (by decide) (up0 rfl rfl rfl) rfl rfl) rfl ?_
    refine OpsFrom.n (Y.st ty27 (upN rfl rfl) rfl rfl rfl rfl rfl rfl St.spl_n (by decide)) rfl rfl ?_
    refine OpsFrom.nil ?_
    refine Holds.seq ?_
    refine Holds.reg ?_
    refine OpsFrom.v (Y.callV w_sK fnok39 (up0 rfl rfl rfl) rfl rfl .nil .nil rfl rfl) rfl ?_
    refine OpsFrom.u (Y.alloc (d := 5) ty35 rfl rfl (up0 rfl rfl rfl) rfl) rfl rfl rfl ?_
    refine OpsFrom.n (Y.stR ty35 (upN rfl rfl) rfl rfl rfl rfl rfl (by first | (with_reducible assumption) | omega | (simp only [lens, sK_l, List.flatten_cons, List.flatten_nil, List.append_nil, List.length_cons, List.length_nil, Cs.len, List.length_map, List.length_set, List.length_replicate, *]; first | done | omega) | decide | (split <;> simp only [lens, sK_l, List.flatten_cons, List.flatten_nil, List.append_nil, List.length_cons, List.length_nil, Cs.len, List.length_map, List.length_set, List.length_replicate, *]) | (with_reducible exact Lt.mono (by assumption) (by decide)) | (simp only [Cs.len]; done) | rfl) (by first | (with_reducible assumption) | omega | (simp only [lens, sK_l, List.flatten_cons, List.flatten_nil, List.append_nil, List.length_cons, List.length_nil, Cs.len, List.length_map, List.length_set, List.length_replicate, *]; first | done | omega) | decide | (split <;> simp only [lens, sK_l, List.flatten_cons, List.flatten_nil, List.append_nil, List.length_cons, List.length_nil, Cs.len, List.length_map, List.length_set, List.length_replicate, *]) | (with_reducible exact Lt.mono (by assumption) (by decide)) | (simp only [Cs.len]; done) | rfl) (by decide)) rfl rfl ?_
    refine OpsFrom.nil ?_
    refine Holds.seq ?_
    refine Holds.reg ?_
    refine OpsFrom.v (Y.fa (f := 3) (fld := ⟨ "rest", 22, 10, false, "", "fardel/sha", 80⟩) ty30 rfl ty22 (by decide) (up0 rfl rfl rfl) rfl rfl) rfl ?_
    refine OpsFrom.v (Y.ld ty22 rfl (up0 rfl rfl rfl) rfl rfl rfl (show 10 < 11 by decide)) rfl ?_
    refine OpsFrom.v (Y.move (up0 rfl rfl rfl) rfl rfl) rfl ?_
    refine OpsFrom.u (Y.bldS (d := 22) ty43 ty22 rfl (up0 rfl rfl rfl) rfl (.mix (List.replicate 2 (.nil))) rfl rfl rfl rfl (by decide) (by decide) (.cons _ _ _ _ _ _ _ _ _ rfl rfl rfl rfl (Spl.m (by first | decide | (simp; done))) (.cons _ _ _ _ _ _ _ _ _ rfl rfl rfl rfl (Spl.m (by first | decide | (simp; done))) (.nil _)))) rfl rfl rfl ?_
    refine OpsFrom.u (Y.callF (d := 23) (w_sconc _ (by first | (with_reducible assumption) | omega | (simp only [lens, sK_l, List.flatten_cons, List.flatten_nil, List.append_nil, List.length_cons, List.length_nil, Cs.len, List.length_map, List.length_set, List.length_replicate, *]; first | done | omega) | decide | (split <;> simp only [lens, sK_l, List.flatten_cons, List.flatten_nil, List.append_nil, List.length_cons, List.length_nil, Cs.len, List.length_map, List.length_set, List.length_replicate, *]) | (with_reducible exact Lt.mono (by assumption) (by decide)) | (simp only [Cs.len]; done) | rfl) (by first | (with_reducible assumption) | omega | (simp only [lens, sK_l, List.flatten_cons, List.flatten_nil, List.append_nil, List.length_cons, List.length_nil, Cs.len, List.length_map, List.length_set, List.length_replicate, *]; first | done | omega) | decide | (split <;> simp only [lens, sK_l, List.flatten_cons, List.flatten_nil, List.append_nil, List.length_cons, List.length_nil, Cs.len, List.length_map, List.length_set, List.length_replicate, *]) | (with_reducible exact Lt.mono (by assumption) (by decide)) | (simp only [Cs.len]; done) | rfl)) fnok40 (up0 rfl rfl rfl) rfl rfl (.cons _ _ _ _ rfl .nil) (.cons _ _ _ _ (.sgsL rfl (.cons _ _ _ _ (.same _) (.cons _ _ _ _ (.same _) .nil)) rfl) .nil) rfl rfl rfl) rfl rfl rfl ?_
    refine OpsFrom.v (Y.assign (up0 rfl rfl rfl) rfl rfl) rfl ?_
    refine OpsFrom.nil ?_
    refine Holds.freezeV 6 23 rfl rfl (.all rfl (by first | (with_reducible assumption) | omega | (simp only [lens, sK_l, List.flatten_cons, List.flatten_nil, List.append_nil, List.length_cons, List.length_nil, Cs.len, List.length_map, List.length_set, List.length_replicate, *]; first | done | omega) | decide | (split <;> simp only [lens, sK_l, List.flatten_cons, List.flatten_nil, List.append_nil, List.length_cons, List.length_nil, Cs.len, List.length_map, List.length_set, List.length_replicate, *]) | (with_reducible exact Lt.mono (by assumption) (by decide)) | (simp only [Cs.len]; done) | rfl)) ?_
    refine Holds.seq ?_
    refine Holds.block ?_
    refine Holds.loop (fun (i1_ : Nat) => ⟨[(2, .one (.p 2 0)), (4, .one (.p 4 0)), (5, .one (.p 5 0)), (6, .one (.bs false .u8 ((swrite_it1 s a i1_).1)))], [(2, .own (.mix (St.cells ((swrite_it1 s a i1_).2.1)))), (4, .own (.mix [.b false, .n .u64 0, .n .u64 0, .n .u64 0, .n .u64 0, .n .u64 0, .n .u64 0, .n .u64 0, .n .u64 0, .n .u64 0, .nil])), (5, .own (.ints .u64 ((swrite_it1 s a i1_).2.2)))]⟩) (fun (i1_ : Nat) => i1_ ≤ (((sbeg s).r.length + a.length) / 128)) (fun (i1_ : Nat) => (((sbeg s).r.length + a.length) / 128) - i1_) 0 (by first | (with_reducible assumption) | omega | (simp only [lens, sK_l, List.flatten_cons, List.flatten_nil, List.append_nil, List.length_cons, List.length_nil, Cs.len, List.length_map, List.length_set, List.length_replicate, *]; first | done | omega) | decide | (split <;> simp only [lens, sK_l, List.flatten_cons, List.flatten_nil, List.append_nil, List.length_cons, List.length_nil, Cs.len, List.length_map, List.length_set, List.length_replicate, *]) | (with_reducible exact Lt.mono (by assumption) (by decide)) | (simp only [Cs.len]; done) | rfl) [] ⟨⟨rfl, rfl, rfl, (bsEq (congrArg (fun (s : (List Nat) × St × (List Nat)) => s.1) (swrite_it1_z s a)).symm), trivial⟩, ⟨(stEq (congrArg (fun (s : (List Nat) × St × (List Nat)) => s.2.1) (swrite_it1_z s a)).symm), rfl, (hEq (congrArg (fun (s : (List Nat) × St × (List Nat)) => s.2.2) (swrite_it1_z s a)).symm), trivial⟩, rfl, rfl⟩ ?_
    intro i1_ k1_
    have hn1 := swrite_ln s a i1_
    have hn2 := (swrite_n s a i1_).2.1.trans hb8
    have hn3 : (swrite_it1 s a i1_).2.2.length = 80 := by rw [(swrite_n s a i1_).2.2]; exact sK_l
    refine Holds.seq ?_
    refine Holds.seq ?_
    refine Holds.reg ?_
    refine OpsFrom.v (Y.move (up0 rfl rfl rfl) rfl rfl) rfl ?_
    refine OpsFrom.v (Y.len ty22 (up0 rfl rfl rfl) rfl rfl rfl rfl) rfl ?_
    refine OpsFrom.v (Y.geq (b := 128) (up0 rfl rfl rfl) rfl rfl rfl) rfl ?_
    refine OpsFrom.nil ?_
    refine Holds.condD rfl (fun h26 => ?_) (fun h26 => ?_)
    · have h1c := (swrite_iff s a k1_).1 h26
      refine Holds.skip ?_
      refine Holds.block ?_
      refine Holds.seq ?_
      refine Holds.reg ?_
      refine OpsFrom.v (Y.move (up0 rfl rfl rfl) rfl rfl) rfl ?_
      refine OpsFrom.v (Y.slBs3 ty22 ty5 (up0 rfl rfl rfl) rfl rfl bnd0 rfl rfl (by first | (with_reducible assumption) | omega | (simp only [lens, sK_l, List.flatten_cons, List.flatten_nil, List.append_nil, List.length_cons, List.length_nil, Cs.len, List.length_map, List.length_set, List.length_replicate, *]; first | done | omega) | decide | (split <;> simp only [lens, sK_l, List.flatten_cons, List.flatten_nil, List.append_nil, List.length_cons, List.length_nil, Cs.len, List.length_map, List.length_set, List.length_replicate, *]) | (with_reducible exact Lt.mono (by assumption) (by decide)) | (simp only [Cs.len]; done) | rfl) (by first | (with_reducible assumption) | omega | (simp only [lens, sK_l, List.flatten_cons, List.flatten_nil, List.append_nil, List.length_cons, List.length_nil, Cs.len, List.length_map, List.length_set, List.length_replicate, *]; first | done | omega) | decide | (split <;> simp only [lens, sK_l, List.flatten_cons, List.flatten_nil, List.append_nil, List.length_cons, List.length_nil, Cs.len, List.length_map, List.length_set, List.length_replicate, *]) | (with_reducible exact Lt.mono (by assumption) (by decide)) | (simp only [Cs.len]; done) | rfl)) rfl ?_
      refine OpsFrom.u (Y.callU (vs := [_, _, _]) (ids := []) (w_sblk _ _ (by decide) _ _ _ (by first | (with_reducible assumption) | omega | (simp only [lens, sK_l, sblk_len1, List.flatten_cons, List.flatten_nil, List.append_nil, List.length_cons, List.length_nil, Cs.len, List.length_map, List.length_set, List.length_replicate, *]; first | done | omega) | decide | (split <;> simp only [lens, sK_l, sblk_len1, List.flatten_cons, List.flatten_nil, List.append_nil, List.length_cons, List.length_nil, Cs.len, List.length_map, List.length_set, List.length_replicate, *]) | (with_reducible exact Lt.mono (by assumption) (by decide)) | (simp only [Cs.len]; done) | rfl) (by first | (with_reducible assumption) | omega | (simp only [lens, sK_l, sblk_len1, List.flatten_cons, List.flatten_nil, List.append_nil, List.length_cons, List.length_nil, Cs.len, List.length_map, List.length_set, List.length_replicate, *]; first | done | omega) | decide | (split <;> simp only [lens, sK_l, sblk_len1, List.flatten_cons, List.flatten_nil, List.append_nil, List.length_cons, List.length_nil, Cs.len, List.length_map, List.length_set, List.length_replicate, *]) | (with_reducible exact Lt.mono (by assumption) (by decide)) | (simp only [Cs.len]; done) | rfl) (by first | (with_reducible assumption) | omega | (simp only [lens, sK_l, sblk_len1, List.flatten_cons, List.flatten_nil, List.append_nil, List.length_cons, List.length_nil, Cs.len, List.length_map, List.length_set, List.length_replicate, *]; first | done | omega) | decide | (split <;> simp only [lens, sK_l, sblk_len1, List.flatten_cons, List.flatten_nil, List.append_nil, List.length_cons, List.length_nil, Cs.len, List.length_map, List.length_set, List.length_replicate, *]) | (with_reducible exact Lt.mono (by assumption) (by decide)) | (simp only [Cs.len]; done) | rfl)) fnok41 (up0 rfl rfl rfl) rfl rfl (.cons _ _ _ _ rfl (.cons _ _ _ _ rfl (.cons _ _ _ _ rfl .nil))) (ownL2 (n := 11) (n' := 80) rfl rfl (by decide) rfl (by first | (with_reducible assumption) | omega | (simp only [lens, sK_l, sblk_len1, List.flatten_cons, List.flatten_nil, List.append_nil, List.length_cons, List.length_nil, Cs.len, List.length_map, List.length_set, List.length_replicate, *]; first | done | omega) | decide | (split <;> simp only [lens, sK_l, sblk_len1, List.flatten_cons, List.flatten_nil, List.append_nil, List.length_cons, List.length_nil, Cs.len, List.length_map, List.length_set, List.length_replicate, *]) | (with_reducible exact Lt.mono (by assumption) (by decide)) | (simp only [Cs.len]; done) | rfl) (by decide)) rfl (by simp) rfl) rfl rfl rfl ?_
      refine OpsFrom.nil ?_
      refine Holds.reg ?_
      refine OpsFrom.v (Y.move (up0 rfl rfl rfl) rfl rfl) rfl ?_
      refine OpsFrom.v (Y.slBs ty22 ty5 (up0 rfl rfl rfl) rfl rfl (bnd1 (v := 128) rfl) bnd0 (by first | (with_reducible assumption) | omega | (simp only [lens, sK_l, sblk_len1, List.flatten_cons, List.flatten_nil, List.append_nil, List.length_cons, List.length_nil, Cs.len, List.length_map, List.length_set, List.length_replicate, *]; first | done | omega) | decide | (split <;> simp only [lens, sK_l, sblk_len1, List.flatten_cons, List.flatten_nil, List.append_nil, List.length_cons, List.length_nil, Cs.len, List.length_map, List.length_set, List.length_replicate, *]) | (with_reducible exact Lt.mono (by assumption) (by decide)) | (simp only [Cs.len]; done) | rfl) (by first | (with_reducible assumption) | omega | (simp only [lens, sK_l, sblk_len1, List.flatten_cons, List.flatten_nil, List.append_nil, List.length_cons, List.length_nil, Cs.len, List.length_map, List.length_set, List.length_replicate, *]; first | done | omega) | decide | (split <;> simp only [lens, sK_l, sblk_len1, List.flatten_cons, List.flatten_nil, List.append_nil, List.length_cons, List.length_nil, Cs.len, List.length_map, List.length_set, List.length_replicate, *]) | (with_reducible exact Lt.mono (by assumption) (by decide)) | (simp only [Cs.len]; done) | rfl)) rfl ?_
      refine OpsFrom.v (Y.assign (up0 rfl rfl rfl) rfl rfl) rfl ?_
      refine OpsFrom.nil ?_
      exact Holds.again (i1_ + 1) (by omega) (by omega) [] ⟨⟨rfl, rfl, rfl, (bsEq (by rw [swrite_it1_s]; unfold swrite_s1; first | (dsimp only; done) | rfl)), trivial⟩, ⟨(stEq (by rw [swrite_it1_s]; unfold swrite_s1; first | (dsimp only; done) | rfl)), rfl, (hEq (by rw [swrite_it1_s]; unfold swrite_s1; first | (dsimp only; done) | rfl)), trivial⟩, rfl, rfl⟩
    · have h1c : ¬ (i1_ < (((sbeg s).r.length + a.length) / 128)) := fun q => h26 ((swrite_iff s a k1_).2 q)
      obtain rfl : i1_ = ((sbeg s).r.length + a.length) / 128 := by omega
      refine Holds.exit ?_
      refine Holds.seq ?_
      refine Holds.reg ?_
      refine OpsFrom.v (Y.move (up0 rfl rfl rfl) rfl rfl) rfl ?_
      refine OpsFrom.v (Y.fa (f := 3) (fld := ⟨ "rest", 22, 10, false, "", "fardel/sha", 80⟩) ty30 rfl ty22 (by decide) (up0 rfl rfl rfl) rfl rfl) rfl ?_
      refine OpsFrom.n (Y.st ty22 (upN rfl rfl) rfl rfl rfl rfl rfl rfl St.spl_r (by decide)) rfl rfl ?_
      refine OpsFrom.nil ?_
      refine Holds.seq ?_
      refine Holds.reg ?_
      refine OpsFrom.v (Y.ldAll ty30 rfl (up0 rfl rfl rfl) rfl rfl rfl rfl (by decide)) rfl ?_
      refine OpsFrom.n (Y.stR ty30 (upN rfl rfl) rfl rfl rfl rfl rfl rfl rfl (by decide)) rfl rfl ?_
      refine OpsFrom.nil ?_
      refine Holds.ret ?_
      exact Holds.ret1 (.inl rfl) rfl (.rowN rfl rfl ty30 rfl (by first | (with_reducible assumption) | omega | (simp only [lens, sK_l, List.flatten_cons, List.flatten_nil, List.append_nil, List.length_cons, List.length_nil, Cs.len, List.length_map, List.length_set, List.length_replicate, *]; first | done | omega) | decide | (split <;> simp only [lens, sK_l, List.flatten_cons, List.flatten_nil, List.append_nil, List.length_cons, List.length_nil, Cs.len, List.length_map, List.length_set, List.length_replicate, *]) | (with_reducible exact Lt.mono (by assumption) (by decide)) | (simp only [Cs.len]; done) | rfl) (by decide)) (.same _) rfl
  · refine Holds.seq ?_
    refine Holds.reg ?_
    refine OpsFrom.v (Y.fa (f := 0) (fld := ⟨ "begun", 4, 0, false, "", "fardel/sha", 0⟩) ty30 rfl ty4 (by decide) (up0 rfl rfl rfl) rfl rfl) rfl ?_
    refine OpsFrom.v (Y.ld ty4 rfl (up0 rfl rfl rfl) rfl rfl rfl (show 0 < 11 by decide)) rfl ?_
    refine OpsFrom.v (Y.not (up0 rfl rfl rfl) rfl rfl) rfl ?_
    refine OpsFrom.nil ?_
    refine Holds.cond _ rfl (fun h9 => ?_) (fun h9 => ?_)
    · refine Holds.reg ?_
      refine OpsFrom.v (Y.callW w_snew fnok22 (up0 rfl rfl rfl) rfl rfl .nil .nil rfl rfl) rfl ?_
      refine OpsFrom.n (Y.stR ty30 (upN rfl rfl) rfl rfl rfl rfl rfl rfl rfl (by decide)) rfl rfl ?_
      refine OpsFrom.nil ?_
      exact join _ [] ⟨⟨rfl, rfl, rfl, trivial⟩, ⟨(stEq (sbeg_pos s h9)), rfl, trivial⟩, rfl, rfl⟩
    · refine Holds.skip ?_
      exact join _ [] ⟨⟨rfl, rfl, rfl, trivial⟩, ⟨(stEq (sbeg_neg s (by simp [h9]))), rfl, trivial⟩, rfl, rfl⟩


end Go.Proofs.Ytjgcmfedofmkpaa
