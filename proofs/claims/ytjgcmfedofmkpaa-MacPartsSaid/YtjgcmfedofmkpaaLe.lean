/-
  Walks: ShaParts.
-/
import Derived.Test.YtjgcmfedofmkpaaLd
namespace Go.Proofs.Ytjgcmfedofmkpaa
open Go Go.Fx
set_option linter.unusedVariables false
set_option linter.unusedSimpArgs false
def hparts_s1 (a : List Nat) (cuts : List Nat) (i1_ : Nat) (m1_ : (List Nat) × St × (List (List Nat))) : (List Nat) × St × (List (List Nat)) :=
  let v7_ : Nat := Min.min ((cuts.getD i1_ 0) % 300) m1_.1.length
  let v8_ : St := (swrite m1_.2.1 ((m1_.1.drop 0).take (v7_ - 0)))
  let v9_ : List Nat := (m1_.1.drop v7_).take (m1_.1.length - v7_)
  (v9_, v8_, m1_.2.2 ++ [(m1_.1.drop 0).take (v7_ - 0)])
def hparts_it1 (a : List Nat) (cuts : List Nat) (i1_ : Nat) : (List Nat) × St × (List (List Nat)) := iter (hparts_s1 a cuts) i1_ (a, snew, [])
theorem hparts_it1_z (a : List Nat) (cuts : List Nat) : hparts_it1 a cuts 0 = (a, snew, []) := rfl
theorem hparts_it1_s (a : List Nat) (cuts : List Nat) (i1_ : Nat) : hparts_it1 a cuts (i1_ + 1) = hparts_s1 a cuts i1_ (hparts_it1 a cuts i1_) := by unfold hparts_it1; exact iterS _ _ _
theorem lt_of_app {xs ys a : List Nat} (e : xs ++ ys = a) (ha : Lt 256 a) : Lt 256 xs ∧ Lt 256 ys := by
  have hm : ∀ x ∈ xs ++ ys, x < 256 := by rw [e]; exact ha.mem
  exact ⟨Lt.of_mem (by decide) (fun x hx => hm x (List.mem_append_left _ hx)), Lt.of_mem (by decide) (fun x hx => hm x (List.mem_append_right _ hx))⟩
theorem hparts_f (a cuts : List Nat) : ∀ i, (hparts_it1 a cuts i).2.2.flatten ++ (hparts_it1 a cuts i).1 = a ∧ (hparts_it1 a cuts i).2.2.length = i ∧ (hparts_it1 a cuts i).2.1.h.length = 8 ∧ (hparts_it1 a cuts i).2.1.r.length ≤ 128
  | 0 => ⟨rfl, rfl, snew_l, snew_rl⟩
  | i + 1 => by
    obtain ⟨h1, h2, h3, h4⟩ := hparts_f a cuts i
    rw [hparts_it1_s]
    simp only [hparts_s1, List.flatten_append, List.flatten_cons, List.flatten_nil, List.append_nil, List.length_append, List.length_cons, List.length_nil]
    refine ⟨?_, by omega, swrite_h h3 _, swrite_r2 _ _⟩
    conv => rhs; rw [← h1]
    rw [List.append_assoc, List.drop_zero, Nat.sub_zero, List.take_of_length_le (l := List.drop _ _) (by simp), List.take_append_drop]
theorem hparts_i {a : List Nat} (ba : Lt 256 a) (cuts : List Nat) : ∀ i, Inv (hparts_it1 a cuts i).2.1 (hparts_it1 a cuts i).2.2.flatten ∧ ∀ t ∈ (hparts_it1 a cuts i).2.2, Lt 256 t
  | 0 => ⟨Inv.new, fun t ht => by cases ht⟩
  | i + 1 => by
    obtain ⟨h1, h2⟩ := hparts_i ba cuts i
    have hl := lt_of_app (hparts_f a cuts i).1 ba
    rw [hparts_it1_s]
    simp only [hparts_s1, List.flatten_append, List.flatten_cons, List.flatten_nil, List.append_nil]
    refine ⟨h1.write hl.1 ((hl.2.drop _).take _), fun t ht => ?_⟩
    rcases List.mem_append.1 ht with k | k
    · exact h2 t k
    · simp only [List.mem_singleton] at k
      subst k
      exact (hl.2.drop _).take _
theorem hparts_h {a cuts : List Nat} {i : Nat} (h : i ≤ 50) (ht : a.length ≤ 2000) : ((hparts_it1 a cuts i).2.2 ++ [(hparts_it1 a cuts i).1]).flatten.length ≤ 1048576 ∧ ((hparts_it1 a cuts i).2.2 ++ [(hparts_it1 a cuts i).1]).length ≤ 4194304 := by
  obtain ⟨h1, h2, _, _⟩ := hparts_f a cuts i
  have e : ((hparts_it1 a cuts i).2.2 ++ [(hparts_it1 a cuts i).1]).flatten = a := by simpa using h1
  exact ⟨by rw [e]; omega, by rw [List.length_append, h2]; simp; omega⟩
theorem hparts_r (a cuts : List Nat) (i : Nat) : (hparts_it1 a cuts i).1.length ≤ a.length := by
  have := congrArg List.length (hparts_f a cuts i).1
  rw [List.length_append] at this
  omega
theorem hparts_1 {a : List Nat} (ba : Lt 256 a) (cuts : List Nat) (i : Nat) : ssum (swrite (hparts_it1 a cuts i).2.1 (hparts_it1 a cuts i).1) = sha [a] := by
  have e := (hparts_f a cuts i).1
  have hl := lt_of_app e ba
  rw [((hparts_i ba cuts i).1.write hl.1 hl.2).sum (hl.1.append hl.2), e, sha_one ba]
theorem hparts_2 {a : List Nat} (ba : Lt 256 a) (cuts : List Nat) (i : Nat) : sha ((hparts_it1 a cuts i).2.2 ++ [(hparts_it1 a cuts i).1]) = sha [a] := by
  have e := (hparts_f a cuts i).1
  have hl := lt_of_app e ba
  rw [sha_eq (by
    intro t ht
    rcases List.mem_append.1 ht with k | k
    · exact (hparts_i ba cuts i).2 t k
    · simp only [List.mem_singleton] at k
      subst k
      exact hl.2), sha_one ba, List.flatten_append, List.flatten_cons, List.flatten_nil, List.append_nil, e]
theorem hparts_3 {a : List Nat} (ba : Lt 256 a) : ssum (swrite st0 a) = sha [a] := by rw [swrite_0, own_one ba, sha_one ba]
theorem w_hparts (a : List Nat) (cuts : List Nat)  : VC Try.prog 5 [.one (.bs false .u8 a), .one (.bs false .u16 cuts)] (.one (.b true)) := by
  refine VC.go Try.func5 rfl Try.ntmps5 rfl rfl fun O w => ?_
  refine Holds.ltBs 0 rfl u8s u8m (fun ba => ?_)
  refine Holds.seq ?_
  refine Holds.reg ?_
  refine OpsFrom.v (Y.assign (up0 rfl rfl rfl) rfl rfl) rfl ?_
  refine OpsFrom.nil ?_
  refine Holds.seq ?_
  refine Holds.reg ?_
  refine OpsFrom.v (Y.callV w_hawake fnok19 (up0 rfl rfl rfl) rfl rfl .nil .nil rfl rfl) rfl ?_
  refine OpsFrom.v (Y.assign (up0 rfl rfl rfl) rfl rfl) rfl ?_
  refine OpsFrom.nil ?_
  refine Holds.seq ?_
  refine Holds.seq ?_
  refine Holds.reg ?_
  refine OpsFrom.v (Y.move (up0 rfl rfl rfl) rfl rfl) rfl ?_
  refine OpsFrom.v (Y.len ty22 (up0 rfl rfl rfl) rfl rfl rfl rfl) rfl ?_
  refine OpsFrom.v (Y.gtr (b := 2000) (up0 rfl rfl rfl) rfl rfl rfl) rfl ?_
  refine OpsFrom.nil ?_
  refine Holds.condD rfl (fun h17 => ?_) (fun h17 => ?_)
  · refine Holds.seq ?_
    refine Holds.reg ?_
    refine OpsFrom.v (Y.move (up0 rfl rfl rfl) rfl rfl) rfl ?_
    refine OpsFrom.v (Y.assign (up0 rfl rfl rfl) rfl rfl) rfl ?_
    refine OpsFrom.nil ?_
    refine Holds.ret ?_
    exact Holds.ret1 (.inl rfl) rfl (.tmp _ _ rfl) (.same _) rfl
  · refine Holds.skip ?_
    refine Holds.seq ?_
    refine Holds.reg ?_
    refine OpsFrom.v (Y.move (up0 rfl rfl rfl) rfl rfl) rfl ?_
    refine OpsFrom.u (Y.bldS (d := 20) ty43 ty22 rfl (up0 rfl rfl rfl) rfl (.mix (List.replicate 1 (.nil))) rfl rfl rfl rfl (by decide) (by decide) (.cons _ _ _ _ _ _ _ _ _ rfl rfl rfl rfl (Spl.m (by first | decide | (simp; done))) (.nil _))) rfl rfl rfl ?_
    refine OpsFrom.v (Y.callV (w_sha _ (by first | (with_reducible assumption) | omega | (simp only [lens, sha_l, List.flatten_cons, List.flatten_nil, List.append_nil, List.length_cons, List.length_nil, Cs.len, List.length_map, List.length_set, List.length_replicate, *]; first | done | omega) | decide | (split <;> simp only [lens, sha_l, List.flatten_cons, List.flatten_nil, List.append_nil, List.length_cons, List.length_nil, Cs.len, List.length_map, List.length_set, List.length_replicate, *]) | (with_reducible exact Lt.mono (by assumption) (by decide)) | (simp only [Cs.len]; done) | rfl) (by first | (with_reducible assumption) | omega | (simp only [lens, sha_l, List.flatten_cons, List.flatten_nil, List.append_nil, List.length_cons, List.length_nil, Cs.len, List.length_map, List.length_set, List.length_replicate, *]; first | done | omega) | decide | (split <;> simp only [lens, sha_l, List.flatten_cons, List.flatten_nil, List.append_nil, List.length_cons, List.length_nil, Cs.len, List.length_map, List.length_set, List.length_replicate, *]) | (with_reducible exact Lt.mono (by assumption) (by decide)) | (simp only [Cs.len]; done) | rfl)) fnok20 (up0 rfl rfl rfl) rfl rfl (.cons _ _ _ _ rfl .nil) (.cons _ _ _ _ (.sgsL rfl (.cons _ _ _ _ (.same _) .nil) rfl) .nil) rfl rfl) rfl ?_
    refine OpsFrom.u (Y.alloc (d := 6) ty24 rfl rfl (up0 rfl rfl rfl) rfl) rfl rfl rfl ?_
    refine OpsFrom.n (Y.stR ty24 (upN rfl rfl) rfl rfl rfl rfl rfl (by first | (with_reducible assumption) | omega | (simp only [lens, sha_l, List.flatten_cons, List.flatten_nil, List.append_nil, List.length_cons, List.length_nil, Cs.len, List.length_map, List.length_set, List.length_replicate, *]; first | done | omega) | decide | (split <;> simp only [lens, sha_l, List.flatten_cons, List.flatten_nil, List.append_nil, List.length_cons, List.length_nil, Cs.len, List.length_map, List.length_set, List.length_replicate, *]) | (with_reducible exact Lt.mono (by assumption) (by decide)) | (simp only [Cs.len]; done) | rfl) (by first | (with_reducible assumption) | omega | (simp only [lens, sha_l, List.flatten_cons, List.flatten_nil, List.append_nil, List.length_cons, List.length_nil, Cs.len, List.length_map, List.length_set, List.length_replicate, *]; first | done | omega) | decide | (split <;> simp only [lens, sha_l, List.flatten_cons, List.flatten_nil, List.append_nil, List.length_cons, List.length_nil, Cs.len, List.length_map, List.length_set, List.length_replicate, *]) | (with_reducible exact Lt.mono (by assumption) (by decide)) | (simp only [Cs.len]; done) | rfl) (by decide)) rfl rfl ?_
    refine OpsFrom.nil ?_
    refine Holds.seq ?_
    refine Holds.reg ?_
    refine OpsFrom.v (Y.callW w_snew fnok22 (up0 rfl rfl rfl) rfl rfl .nil .nil rfl rfl) rfl ?_
    refine OpsFrom.u (Y.alloc (d := 7) ty30 rfl rfl (up0 rfl rfl rfl) rfl) rfl rfl rfl ?_
    refine OpsFrom.n (Y.stR ty30 (upN rfl rfl) rfl rfl rfl rfl rfl rfl rfl (by decide)) rfl rfl ?_
    refine OpsFrom.nil ?_
    refine Holds.seq ?_
    refine Holds.reg ?_
    refine OpsFrom.v (Y.move (up0 rfl rfl rfl) rfl rfl) rfl ?_
    refine OpsFrom.v (Y.assign (up0 rfl rfl rfl) rfl rfl) rfl ?_
    refine OpsFrom.nil ?_
    refine Holds.seq ?_
    refine Holds.reg ?_
    refine OpsFrom.v (Y.assign (up0 rfl rfl rfl) rfl rfl) rfl ?_
    refine OpsFrom.nil ?_
    refine Holds.seq ?_
    refine Holds.seq ?_
    refine Holds.reg ?_
    refine OpsFrom.v (Y.assign (v := (.one (.n .i64 0))) (up0 rfl rfl rfl) rfl rfl) rfl ?_
    refine OpsFrom.nil ?_
    refine Holds.block ?_
    refine Holds.grow 9 9 (.mix []) rfl rfl rfl ?_
    refine Holds.loop (fun (i1_ : Nat) => ⟨[(0, .one (.bs false .u8 a)), (1, .one (.bs false .u16 cuts)), (4, .one (.b false)), (5, .one (.b true)), (6, .one (.p 6 0)), (7, .one (.p 7 0)), (8, .one (.bs false .u8 ((hparts_it1 a cuts i1_).1))), (9, .one (.sg 9 0 ((((hparts_it1 a cuts i1_).2.2).map fun xs => SV.bs false .u8 xs).length))), (10, .one (.n .i64 i1_))], [(6, .own (.ints .u8 (sha [a]))), (7, .own (.mix (St.cells ((hparts_it1 a cuts i1_).2.1)))), (9, .own (.mix (((hparts_it1 a cuts i1_).2.2).map fun xs => .bs false .u8 xs)))]⟩) (fun (i1_ : Nat) => i1_ ≤ (Min.min cuts.length 50)) (fun (i1_ : Nat) => (Min.min cuts.length 50) - i1_) 0 (by first | (with_reducible assumption) | omega | (simp only [lens, sha_l, snew_l, snew_rl, List.flatten_cons, List.flatten_nil, List.append_nil, List.length_cons, List.length_nil, Cs.len, List.length_map, List.length_set, List.length_replicate, *]; first | done | omega) | decide | (split <;> simp only [lens, sha_l, snew_l, snew_rl, List.flatten_cons, List.flatten_nil, List.append_nil, List.length_cons, List.length_nil, Cs.len, List.length_map, List.length_set, List.length_replicate, *]) | (with_reducible exact Lt.mono (by assumption) (by decide)) | (simp only [Cs.len]; done) | rfl) [] ⟨⟨rfl, rfl, rfl, rfl, rfl, rfl, (bsEq (congrArg (fun (s : (List Nat) × St × (List (List Nat))) => s.1) (hparts_it1_z a cuts)).symm), rfl, rfl, trivial⟩, ⟨rfl, (stEq (congrArg (fun (s : (List Nat) × St × (List (List Nat))) => s.2.1) (hparts_it1_z a cuts)).symm), (mlEq (congrArg (fun (s : (List Nat) × St × (List (List Nat))) => s.2.2) (hparts_it1_z a cuts)).symm), trivial⟩, rfl, rfl⟩ ?_
    intro i1_ k1_
    obtain ⟨_, hp1, hn1, hn2⟩ := hparts_f a cuts i1_
    have hp3 := hparts_r a cuts i1_
    refine Holds.seq ?_
    refine Holds.seqJoin ⟨[(0, .one (.bs false .u8 a)), (1, .one (.bs false .u16 cuts)), (4, .one (.b false)), (5, .one (.b true)), (6, .one (.p 6 0)), (7, .one (.p 7 0)), (8, .one (.bs false .u8 ((hparts_it1 a cuts i1_).1))), (9, .one (.sg 9 0 (((hparts_it1 a cuts i1_).2.2.map fun xs => SV.bs false .u8 xs).length))), (10, .one (.n .i64 i1_)), (24, .one (.n .i64 i1_)), (25, .one (.bs false .u16 cuts)), (26, .one (.n .i64 cuts.length)), (27, .one (.b (decide (i1_ < cuts.length)))), (28, .one (.b (decide (i1_ < cuts.length)))), (31, .one (.b (decide ((i1_ < cuts.length) ∧ (i1_ < 50)))))], [(6, .own (.ints .u8 (sha [a]))), (7, .own (.mix (St.cells ((hparts_it1 a cuts i1_).2.1)))), (9, .own (.mix (((hparts_it1 a cuts i1_).2.2).map fun xs => .bs false .u8 xs)))]⟩ ?_ (fun join => ?_)
    · refine Holds.condD rfl (fun h31 => ?_) (fun h31 => ?_)
      · refine Holds.skip ?_
        refine Holds.seq ?_
        refine Holds.block ?_
        refine Holds.seq ?_
        refine Holds.reg ?_
        refine OpsFrom.v (Y.move (up0 rfl rfl rfl) rfl rfl) rfl ?_
        refine OpsFrom.v (Y.move (up0 rfl rfl rfl) rfl rfl) rfl ?_
        refine OpsFrom.v (Y.iaBs ty42 ty44 (up0 rfl rfl rfl) rfl rfl rfl (by first | (with_reducible assumption) | omega | (simp only [lens, sha_l, snew_l, snew_rl, List.flatten_cons, List.flatten_nil, List.append_nil, List.length_cons, List.length_nil, Cs.len, List.length_map, List.length_set, List.length_replicate, *]; first | done | omega) | decide | (split <;> simp only [lens, sha_l, snew_l, snew_rl, List.flatten_cons, List.flatten_nil, List.append_nil, List.length_cons, List.length_nil, Cs.len, List.length_map, List.length_set, List.length_replicate, *]) | (with_reducible exact Lt.mono (by assumption) (by decide)) | (simp only [Cs.len]; done) | rfl)) rfl ?_
        refine OpsFrom.v (Y.ldPc ty44 rfl (up0 rfl rfl rfl) rfl rfl) rfl ?_
        refine OpsFrom.v (Y.convUpI ty44.u ty3.u rfl (by decide) (up0 rfl rfl rfl) rfl rfl) rfl ?_
        refine OpsFrom.v (Y.rem (b := 300) (up0 rfl rfl rfl) rfl rfl rfl (by decide)) rfl ?_
        refine OpsFrom.v (Y.move (up0 rfl rfl rfl) rfl rfl) rfl ?_
        refine OpsFrom.v (Y.len ty22 (up0 rfl rfl rfl) rfl rfl rfl rfl) rfl ?_
        refine OpsFrom.v (Y.min (up0 rfl rfl rfl) rfl rfl rfl) rfl ?_
        refine OpsFrom.v (Y.assign (up0 rfl rfl rfl) rfl rfl) rfl ?_
        refine OpsFrom.nil ?_
        refine Holds.seq ?_
        refine Holds.reg ?_
        refine OpsFrom.v (Y.ldAll ty30 rfl (up0 rfl rfl rfl) rfl rfl rfl rfl (by decide)) rfl ?_
        refine OpsFrom.v (Y.callV (w_ssum _ (by first | (with_reducible assumption) | omega | (simp only [lens, sha_l, snew_l, snew_rl, ssum_l, List.flatten_cons, List.flatten_nil, List.append_nil, List.length_cons, List.length_nil, Cs.len, List.length_map, List.length_set, List.length_replicate, *]; first | done | omega) | decide | (split <;> simp only [lens, sha_l, snew_l, snew_rl, ssum_l, List.flatten_cons, List.flatten_nil, List.append_nil, List.length_cons, List.length_nil, Cs.len, List.length_map, List.length_set, List.length_replicate, *]) | (with_reducible exact Lt.mono (by assumption) (by decide)) | (simp only [Cs.len]; done) | rfl) (by first | (with_reducible assumption) | omega | (simp only [lens, sha_l, snew_l, snew_rl, ssum_l, List.flatten_cons, List.flatten_nil, List.append_nil, List.length_cons, List.length_nil, Cs.len, List.length_map, List.length_set, List.length_replicate, *]; first | done | omega) | decide | (split <;> simp only [lens, sha_l, snew_l, snew_rl, ssum_l, List.flatten_cons, List.flatten_nil, List.append_nil, List.length_cons, List.length_nil, Cs.len, List.length_map, List.length_set, List.length_replicate, *]) | (with_reducible exact Lt.mono (by assumption) (by decide)) | (simp only [Cs.len]; done) | rfl)) fnok24 (up0 rfl rfl rfl) rfl rfl (.cons _ _ _ _ rfl .nil) (.cons _ _ _ _ (.same _) .nil) rfl rfl) rfl ?_
        refine OpsFrom.u (Y.alloc (d := 12) ty24 rfl rfl (up0 rfl rfl rfl) rfl) rfl (by simp [Ls.nomB, AV.ids, SV.ids, Bk.ids, Cs.ids, ids_mixl, argsFr, cxV, cxU, lk, killL, AV.ren, SV.ren, rn, Cs.at]) rfl ?_
        refine OpsFrom.n (Y.stR ty24 (upN rfl rfl) rfl rfl rfl rfl rfl (by first | (with_reducible assumption) | omega | (simp only [lens, sha_l, snew_l, snew_rl, ssum_l, List.flatten_cons, List.flatten_nil, List.append_nil, List.length_cons, List.length_nil, Cs.len, List.length_map, List.length_set, List.length_replicate, *]; first | done | omega) | decide | (split <;> simp only [lens, sha_l, snew_l, snew_rl, ssum_l, List.flatten_cons, List.flatten_nil, List.append_nil, List.length_cons, List.length_nil, Cs.len, List.length_map, List.length_set, List.length_replicate, *]) | (with_reducible exact Lt.mono (by assumption) (by decide)) | (simp only [Cs.len]; done) | rfl) (by first | (with_reducible assumption) | omega | (simp only [lens, sha_l, snew_l, snew_rl, ssum_l, List.flatten_cons, List.flatten_nil, List.append_nil, List.length_cons, List.length_nil, Cs.len, List.length_map, List.length_set, List.length_replicate, *]; first | done | omega) | decide | (split <;> simp only [lens, sha_l, snew_l, snew_rl, ssum_l, List.flatten_cons, List.flatten_nil, List.append_nil, List.length_cons, List.length_nil, Cs.len, List.length_map, List.length_set, List.length_replicate, *]) | (with_reducible exact Lt.mono (by assumption) (by decide)) | (simp only [Cs.len]; done) | rfl) (by decide)) rfl rfl ?_
        refine OpsFrom.nil ?_
        refine Holds.seq ?_
        refine Holds.dr mx [([45], [46, 47, 48, 13]), ([46], [45, 47, 13]), ([47], [45, 46, 13]), ([48], [45, 13]), ([49], [13]), ([13], [45, 46, 47, 48, 49]), ([13], [])] (by kernel_rfl) ?_
        refine CertK.vd (Y.ldAll ty30 rfl (up0 rfl rfl rfl) rfl rfl rfl rfl (by decide)) rfl rfl ?_
        refine CertK.vd (Y.move (up0 rfl rfl rfl) rfl rfl) rfl rfl ?_
        refine CertK.vd (Y.move (up0 rfl rfl rfl) rfl rfl) rfl rfl ?_
        refine CertK.vd (Y.slBs ty22 ty5 (up0 rfl rfl rfl) rfl rfl bnd0 (bnd1 rfl) (by first | (with_reducible assumption) | omega | (simp only [lens, sha_l, snew_l, snew_rl, ssum_l, swrite_h, swrite_r2, List.flatten_cons, List.flatten_nil, List.append_nil, List.length_cons, List.length_nil, Cs.len, List.length_map, List.length_set, List.length_replicate, *]; first | done | omega) | decide | (split <;> simp only [lens, sha_l, snew_l, snew_rl, ssum_l, swrite_h, swrite_r2, List.flatten_cons, List.flatten_nil, List.append_nil, List.length_cons, List.length_nil, Cs.len, List.length_map, List.length_set, List.length_replicate, *]) | (with_reducible exact Lt.mono (by assumption) (by decide)) | (simp only [Cs.len]; done) | rfl) (by first | (with_reducible assumption) | omega | (simp only [lens, sha_l, snew_l, snew_rl, ssum_l, swrite_h, swrite_r2, List.flatten_cons, List.flatten_nil, List.append_nil, List.length_cons, List.length_nil, Cs.len, List.length_map, List.length_set, List.length_replicate, *]; first | done | omega) | decide | (split <;> simp only [lens, sha_l, snew_l, snew_rl, ssum_l, swrite_h, swrite_r2, List.flatten_cons, List.flatten_nil, List.append_nil, List.length_cons, List.length_nil, Cs.len, List.length_map, List.length_set, List.length_replicate, *]) | (with_reducible exact Lt.mono (by assumption) (by decide)) | (simp only [Cs.len]; done) | rfl)) rfl rfl ?_
        refine CertK.vd (Y.callW (w_swrite _ _ (by first | (with_reducible assumption) | omega | (simp only [lens, sha_l, snew_l, snew_rl, ssum_l, swrite_h, swrite_r2, List.flatten_cons, List.flatten_nil, List.append_nil, List.length_cons, List.length_nil, Cs.len, List.length_map, List.length_set, List.length_replicate, *]; first | done | omega) | decide | (split <;> simp only [lens, sha_l, snew_l, snew_rl, ssum_l, swrite_h, swrite_r2, List.flatten_cons, List.flatten_nil, List.append_nil, List.length_cons, List.length_nil, Cs.len, List.length_map, List.length_set, List.length_replicate, *]) | (with_reducible exact Lt.mono (by assumption) (by decide)) | (simp only [Cs.len]; done) | rfl) (by first | (with_reducible assumption) | omega | (simp only [lens, sha_l, snew_l, snew_rl, ssum_l, swrite_h, swrite_r2, List.flatten_cons, List.flatten_nil, List.append_nil, List.length_cons, List.length_nil, Cs.len, List.length_map, List.length_set, List.length_replicate, *]; first | done | omega) | decide | (split <;> simp only [lens, sha_l, snew_l, snew_rl, ssum_l, swrite_h, swrite_r2, List.flatten_cons, List.flatten_nil, List.append_nil, List.length_cons, List.length_nil, Cs.len, List.length_map, List.length_set, List.length_replicate, *]) | (with_reducible exact Lt.mono (by assumption) (by decide)) | (simp only [Cs.len]; done) | rfl) (by first | (with_reducible assumption) | omega | (simp only [lens, sha_l, snew_l, snew_rl, ssum_l, swrite_h, swrite_r2, List.flatten_cons, List.flatten_nil, List.append_nil, List.length_cons, List.length_nil, Cs.len, List.length_map, List.length_set, List.length_replicate, *]; first | done | omega) | decide | (split <;> simp only [lens, sha_l, snew_l, snew_rl, ssum_l, swrite_h, swrite_r2, List.flatten_cons, List.flatten_nil, List.append_nil, List.length_cons, List.length_nil, Cs.len, List.length_map, List.length_set, List.length_replicate, *]) | (with_reducible exact Lt.mono (by assumption) (by decide)) | (simp only [Cs.len]; done) | rfl)) fnok23 (up0 rfl rfl rfl) rfl rfl (.cons _ _ _ _ rfl (.cons _ _ _ _ rfl .nil)) (.cons _ _ _ _ (.same _) (.cons _ _ _ _ (.same _) .nil)) rfl rfl) rfl rfl ?_
        refine CertK.u (Y.alloc (d := 13) ty30 rfl rfl (up0 rfl rfl rfl) rfl) rfl (by simp [Ls.nomB, AV.ids, SV.ids, Bk.ids, Cs.ids, ids_mixl, argsFr, cxV, cxU, lk, killL, AV.ren, SV.ren, rn, Cs.at]) rfl rfl rfl ?_
        refine CertK.n (Y.stR ty30 (upN rfl rfl) rfl rfl rfl rfl rfl rfl rfl (by decide)) rfl rfl rfl rfl ?_
        refine CertK.nil ?_
        refine Holds.seq ?_
        refine Holds.seq ?_
        refine Holds.dr mx [([50], [52]), ([51], [52]), ([52], [50, 51]), ([53], [])] (by kernel_rfl) ?_
        refine CertK.vd (Y.ldAll ty30 rfl (up0 rfl rfl rfl) rfl rfl rfl rfl (by decide)) rfl rfl ?_
        refine CertK.vd (Y.callV (w_ssum _ (by first | (with_reducible assumption) | omega | (simp only [lens, sha_l, snew_l, snew_rl, ssum_l, swrite_h, swrite_r2, List.flatten_cons, List.flatten_nil, List.append_nil, List.length_cons, List.length_nil, Cs.len, List.length_map, List.length_set, List.length_replicate, *]; first | done | omega) | decide | (split <;> simp only [lens, sha_l, snew_l, snew_rl, ssum_l, swrite_h, swrite_r2, List.flatten_cons, List.flatten_nil, List.append_nil, List.length_cons, List.length_nil, Cs.len, List.length_map, List.length_set, List.length_replicate, *]) | (with_reducible exact Lt.mono (by assumption) (by decide)) | (simp only [Cs.len]; done) | rfl) (by first | (with_reducible assumption) | omega | (simp only [lens, sha_l, snew_l, snew_rl, ssum_l, swrite_h, swrite_r2, List.flatten_cons, List.flatten_nil, List.append_nil, List.length_cons, List.length_nil, Cs.len, List.length_map, List.length_set, List.length_replicate, *]; first | done | omega) | decide | (split <;> simp only [lens, sha_l, snew_l, snew_rl, ssum_l, swrite_h, swrite_r2, List.flatten_cons, List.flatten_nil, List.append_nil, List.length_cons, List.length_nil, Cs.len, List.length_map, List.length_set, List.length_replicate, *]) | (with_reducible exact Lt.mono (by assumption) (by decide)) | (simp only [Cs.len]; done) | rfl)) fnok24 (up0 rfl rfl rfl) rfl rfl (.cons _ _ _ _ rfl .nil) (.cons _ _ _ _ (.same _) .nil) rfl rfl) rfl rfl ?_
        refine CertK.vd (Y.ldAll ty24 rfl (up0 rfl rfl rfl) rfl rfl rfl (by first | (with_reducible assumption) | omega | (simp only [lens, sha_l, snew_l, snew_rl, ssum_l, swrite_h, swrite_r2, List.flatten_cons, List.flatten_nil, List.append_nil, List.length_cons, List.length_nil, Cs.len, List.length_map, List.length_set, List.length_replicate, *]; first | done | omega) | decide | (split <;> simp only [lens, sha_l, snew_l, snew_rl, ssum_l, swrite_h, swrite_r2, List.flatten_cons, List.flatten_nil, List.append_nil, List.length_cons, List.length_nil, Cs.len, List.length_map, List.length_set, List.length_replicate, *]) | (with_reducible exact Lt.mono (by assumption) (by decide)) | (simp only [Cs.len]; done) | rfl) (by decide)) rfl rfl ?_
        refine CertK.v (Doing.isB (c := false) (decide_eq_false (fun h => h rfl)) (Y.neqR ty24 ty5 (by kernel_rfl) (up0 rfl rfl rfl) rfl rfl rfl (by first | (with_reducible assumption) | omega | (simp only [lens, sha_l, snew_l, snew_rl, ssum_l, swrite_h, swrite_r2, List.flatten_cons, List.flatten_nil, List.append_nil, List.length_cons, List.length_nil, Cs.len, List.length_map, List.length_set, List.length_replicate, *]; first | done | omega) | decide | (split <;> simp only [lens, sha_l, snew_l, snew_rl, ssum_l, swrite_h, swrite_r2, List.flatten_cons, List.flatten_nil, List.append_nil, List.length_cons, List.length_nil, Cs.len, List.length_map, List.length_set, List.length_replicate, *]) | (with_reducible exact Lt.mono (by assumption) (by decide)) | (simp only [Cs.len]; done) | rfl) (by first | (with_reducible assumption) | omega | (simp only [lens, sha_l, snew_l, snew_rl, ssum_l, swrite_h, swrite_r2, List.flatten_cons, List.flatten_nil, List.append_nil, List.length_cons, List.length_nil, Cs.len, List.length_map, List.length_set, List.length_replicate, *]; first | done | omega) | decide | (split <;> simp only [lens, sha_l, snew_l, snew_rl, ssum_l, swrite_h, swrite_r2, List.flatten_cons, List.flatten_nil, List.append_nil, List.length_cons, List.length_nil, Cs.len, List.length_map, List.length_set, List.length_replicate, *]) | (with_reducible exact Lt.mono (by assumption) (by decide)) | (simp only [Cs.len]; done) | rfl))) rfl ?_
        refine CertK.nil ?_
        refine Holds.condF rfl ?_
        refine Holds.skip ?_
        refine Holds.seq ?_
        refine Holds.reg ?_
        refine OpsFrom.v (Y.ldAll ty30 rfl (up0 rfl rfl rfl) rfl rfl rfl rfl (by decide)) rfl ?_
        refine OpsFrom.n (Y.stR ty30 (upN rfl rfl) rfl rfl rfl rfl rfl rfl rfl (by decide)) rfl rfl ?_
        refine OpsFrom.nil ?_
        refine Holds.seq ?_
        refine Holds.reg ?_
        refine OpsFrom.v (Y.move (up0 rfl rfl rfl) rfl rfl) rfl ?_
        refine OpsFrom.v (Y.move (up0 rfl rfl rfl) rfl rfl) rfl ?_
        refine OpsFrom.v (Y.move (up0 rfl rfl rfl) rfl rfl) rfl ?_
        refine OpsFrom.v (Y.slBs ty22 ty5 (up0 rfl rfl rfl) rfl rfl bnd0 (bnd1 rfl) (by first | (with_reducible assumption) | omega | (simp only [lens, sha_l, snew_l, snew_rl, ssum_l, swrite_h, swrite_r2, List.flatten_cons, List.flatten_nil, List.append_nil, List.length_cons, List.length_nil, Cs.len, List.length_map, List.length_set, List.length_replicate, *]; first | done | omega) | decide | (split <;> simp only [lens, sha_l, snew_l, snew_rl, ssum_l, swrite_h, swrite_r2, List.flatten_cons, List.flatten_nil, List.append_nil, List.length_cons, List.length_nil, Cs.len, List.length_map, List.length_set, List.length_replicate, *]) | (with_reducible exact Lt.mono (by assumption) (by decide)) | (simp only [Cs.len]; done) | rfl) (by first | (with_reducible assumption) | omega | (simp only [lens, sha_l, snew_l, snew_rl, ssum_l, swrite_h, swrite_r2, List.flatten_cons, List.flatten_nil, List.append_nil, List.length_cons, List.length_nil, Cs.len, List.length_map, List.length_set, List.length_replicate, *]; first | done | omega) | decide | (split <;> simp only [lens, sha_l, snew_l, snew_rl, ssum_l, swrite_h, swrite_r2, List.flatten_cons, List.flatten_nil, List.append_nil, List.length_cons, List.length_nil, Cs.len, List.length_map, List.length_set, List.length_replicate, *]) | (with_reducible exact Lt.mono (by assumption) (by decide)) | (simp only [Cs.len]; done) | rfl)) rfl ?_
        refine OpsFrom.u (Y.bldS (d := 59) ty43 ty22 rfl (up0 rfl rfl rfl) rfl (.mix (List.replicate 1 (.nil))) rfl rfl rfl rfl (by decide) (by decide) (.cons _ _ _ _ _ _ _ _ _ rfl rfl rfl rfl (Spl.m (by first | decide | (simp; done))) (.nil _))) rfl (by simp [Ls.nomB, AV.ids, SV.ids, Bk.ids, Cs.ids, ids_mixl, argsFr, cxV, cxU, lk, killL, AV.ren, SV.ren, rn, Cs.at]) rfl ?_
        refine OpsFrom.u (Y.app (d := 60) ty43 ty22 rfl ty43 (by decide) (up0 rfl rfl rfl) rfl rfl rfl (.all rfl rfl) rfl (.all rfl (by first | (with_reducible assumption) | omega | (simp only [lens, sha_l, snew_l, snew_rl, ssum_l, swrite_h, swrite_r2, List.flatten_cons, List.flatten_nil, List.append_nil, List.length_cons, List.length_nil, Cs.len, List.length_map, List.length_set, List.length_replicate, *]; first | done | omega) | decide | (split <;> simp only [lens, sha_l, snew_l, snew_rl, ssum_l, swrite_h, swrite_r2, List.flatten_cons, List.flatten_nil, List.append_nil, List.length_cons, List.length_nil, Cs.len, List.length_map, List.length_set, List.length_replicate, *]) | (with_reducible exact Lt.mono (by assumption) (by decide)) | (simp only [Cs.len]; done) | rfl)) App.mL (by first | (with_reducible assumption) | omega | (simp only [lens, sha_l, snew_l, snew_rl, ssum_l, swrite_h, swrite_r2, List.flatten_cons, List.flatten_nil, List.append_nil, List.length_cons, List.length_nil, Cs.len, List.length_map, List.length_set, List.length_replicate, *]; first | done | omega) | decide | (split <;> simp only [lens, sha_l, snew_l, snew_rl, ssum_l, swrite_h, swrite_r2, List.flatten_cons, List.flatten_nil, List.append_nil, List.length_cons, List.length_nil, Cs.len, List.length_map, List.length_set, List.length_replicate, *]) | (with_reducible exact Lt.mono (by assumption) (by decide)) | (simp only [Cs.len]; done) | rfl) rfl (by first | (simp; done) | (rintro ⟨_, _, _, h⟩; cases h))) rfl (by simp [Ls.nomB, AV.ids, SV.ids, Bk.ids, Cs.ids, ids_mixl, argsFr, cxV, cxU, lk, killL, AV.ren, SV.ren, rn, Cs.at]) rfl ?_
        refine OpsFrom.v (Y.assign (up0 rfl rfl rfl) rfl rfl) rfl ?_
        refine OpsFrom.nil ?_
        refine Holds.reg ?_
        refine OpsFrom.v (Y.move (up0 rfl rfl rfl) rfl rfl) rfl ?_
        refine OpsFrom.v (Y.move (up0 rfl rfl rfl) rfl rfl) rfl ?_
        refine OpsFrom.v (Y.slBs ty22 ty5 (up0 rfl rfl rfl) rfl rfl (bnd1 rfl) bnd0 (by first | (with_reducible assumption) | omega | (simp only [lens, sha_l, snew_l, snew_rl, ssum_l, swrite_h, swrite_r2, List.flatten_cons, List.flatten_nil, List.append_nil, List.length_cons, List.length_nil, Cs.len, List.length_map, List.length_set, List.length_replicate, *]; first | done | omega) | decide | (split <;> simp only [lens, sha_l, snew_l, snew_rl, ssum_l, swrite_h, swrite_r2, List.flatten_cons, List.flatten_nil, List.append_nil, List.length_cons, List.length_nil, Cs.len, List.length_map, List.length_set, List.length_replicate, *]) | (with_reducible exact Lt.mono (by assumption) (by decide)) | (simp only [Cs.len]; done) | rfl) (by first | (with_reducible assumption) | omega | (simp only [lens, sha_l, snew_l, snew_rl, ssum_l, swrite_h, swrite_r2, List.flatten_cons, List.flatten_nil, List.append_nil, List.length_cons, List.length_nil, Cs.len, List.length_map, List.length_set, List.length_replicate, *]; first | done | omega) | decide | (split <;> simp only [lens, sha_l, snew_l, snew_rl, ssum_l, swrite_h, swrite_r2, List.flatten_cons, List.flatten_nil, List.append_nil, List.length_cons, List.length_nil, Cs.len, List.length_map, List.length_set, List.length_replicate, *]) | (with_reducible exact Lt.mono (by assumption) (by decide)) | (simp only [Cs.len]; done) | rfl)) rfl ?_
        refine OpsFrom.v (Y.assign (up0 rfl rfl rfl) rfl rfl) rfl ?_
        refine OpsFrom.nil ?_
        refine Holds.reg ?_
        refine OpsFrom.v (Y.move (up0 rfl rfl rfl) rfl rfl) rfl ?_
        refine OpsFrom.v (Y.addI (b := 1) (up0 rfl rfl rfl) rfl rfl rfl (by first | (with_reducible assumption) | omega | (simp only [lens, sha_l, snew_l, snew_rl, ssum_l, swrite_h, swrite_r2, List.flatten_cons, List.flatten_nil, List.append_nil, List.length_cons, List.length_nil, Cs.len, List.length_map, List.length_set, List.length_replicate, *]; first | done | omega) | decide | (split <;> simp only [lens, sha_l, snew_l, snew_rl, ssum_l, swrite_h, swrite_r2, List.flatten_cons, List.flatten_nil, List.append_nil, List.length_cons, List.length_nil, Cs.len, List.length_map, List.length_set, List.length_replicate, *]) | (with_reducible exact Lt.mono (by assumption) (by decide)) | (simp only [Cs.len]; done) | rfl)) rfl ?_
        refine OpsFrom.v (Y.assign (up0 rfl rfl rfl) rfl rfl) rfl ?_
        refine OpsFrom.nil ?_
        exact Holds.again (i1_ + 1) (by omega) (by omega) [(9, 60)] ⟨⟨rfl, rfl, rfl, rfl, rfl, rfl, (bsEq (by rw [hparts_it1_s]; unfold hparts_s1; first | (dsimp only; done) | rfl)), (sgEq (congrArg (fun l => (List.map (fun xs => SV.bs false .u8 xs) l).length) (by rw [hparts_it1_s]; unfold hparts_s1; first | (dsimp only; done) | rfl)) rfl), (nEq (by omega)), trivial⟩, ⟨rfl, (stEq (by rw [hparts_it1_s]; unfold hparts_s1; first | (dsimp only; done) | rfl)), (mlEq (by rw [hparts_it1_s]; unfold hparts_s1; first | (dsimp only; done) | rfl)), trivial⟩, rfl, rfl⟩
      · obtain rfl : i1_ = Min.min cuts.length 50 := by omega
        have hp2 := hparts_h (a := a) (cuts := cuts) (i := Min.min cuts.length 50) (by omega) (by omega)
        obtain ⟨_, hp1, hn1, hn2⟩ := hparts_f a cuts (Min.min cuts.length 50)
        have hp3 := hparts_r a cuts (Min.min cuts.length 50)
        have h00 := st0_h
        have h01 := st0_r
        refine Holds.exit ?_
        refine Holds.seq ?_
        refine Holds.reg ?_
        refine OpsFrom.v (Y.move (up0 rfl rfl rfl) rfl rfl) rfl ?_
        refine OpsFrom.v (Y.move (up0 rfl rfl rfl) rfl rfl) rfl ?_
        refine OpsFrom.u (Y.bldS (d := 66) ty43 ty22 rfl (up0 rfl rfl rfl) rfl (.mix (List.replicate 1 (.nil))) rfl rfl rfl rfl (by decide) (by decide) (.cons _ _ _ _ _ _ _ _ _ rfl rfl rfl rfl (Spl.m (by first | decide | (simp; done))) (.nil _))) rfl (by simp [Ls.nomB, AV.ids, SV.ids, Bk.ids, Cs.ids, ids_mixl, argsFr, cxV, cxU, lk, killL, AV.ren, SV.ren, rn, Cs.at]) rfl ?_
        refine OpsFrom.u (Y.app (d := 67) ty43 ty22 rfl ty43 (by decide) (up0 rfl rfl rfl) rfl rfl rfl (.all rfl rfl) rfl (.all rfl (by first | (with_reducible assumption) | omega | (simp only [lens, sha_l, snew_l, snew_rl, List.flatten_cons, List.flatten_nil, List.append_nil, List.length_cons, List.length_nil, Cs.len, List.length_map, List.length_set, List.length_replicate, *]; first | done | omega) | decide | (split <;> simp only [lens, sha_l, snew_l, snew_rl, List.flatten_cons, List.flatten_nil, List.append_nil, List.length_cons, List.length_nil, Cs.len, List.length_map, List.length_set, List.length_replicate, *]) | (with_reducible exact Lt.mono (by assumption) (by decide)) | (simp only [Cs.len]; done) | rfl)) App.mL (by first | (with_reducible assumption) | omega | (simp only [lens, sha_l, snew_l, snew_rl, List.flatten_cons, List.flatten_nil, List.append_nil, List.length_cons, List.length_nil, Cs.len, List.length_map, List.length_set, List.length_replicate, *]; first | done | omega) | decide | (split <;> simp only [lens, sha_l, snew_l, snew_rl, List.flatten_cons, List.flatten_nil, List.append_nil, List.length_cons, List.length_nil, Cs.len, List.length_map, List.length_set, List.length_replicate, *]) | (with_reducible exact Lt.mono (by assumption) (by decide)) | (simp only [Cs.len]; done) | rfl) rfl (by first | (simp; done) | (rintro ⟨_, _, _, h⟩; cases h))) rfl (by simp [Ls.nomB, AV.ids, SV.ids, Bk.ids, Cs.ids, ids_mixl, argsFr, cxV, cxU, lk, killL, AV.ren, SV.ren, rn, Cs.at]) rfl ?_
        refine OpsFrom.v (Y.assign (up0 rfl rfl rfl) rfl rfl) rfl ?_
        refine OpsFrom.nil ?_
        refine Holds.seq ?_
        refine Holds.dr mx [([68], []), ([69], []), ([70], [71, 74]), ([71], [70, 74]), ([72], [74]), ([73], [74]), ([74], [70, 71, 72, 73]), ([75], []), ([76], []), ([77], []), ([78], [80]), ([79], [80]), ([80], [78, 79]), ([81], []), ([82], []), ([83], []), ([84], [85, 88]), ([85], [84, 88]), ([86], [88]), ([87], [88]), ([88], [84, 85, 86, 87]), ([89], []), ([90], []), ([4], [])] (by kernel_rfl) ?_
        refine CertK.v (Y.move (up0 rfl rfl rfl) rfl rfl) rfl ?_
        refine CertK.v (Y.move (up0 rfl rfl rfl) rfl rfl) rfl ?_
        refine CertK.vd (Y.ldAll ty30 rfl (up1 rfl rfl rfl rfl rfl rfl) rfl rfl rfl rfl (by decide)) rfl rfl ?_
        refine CertK.vd (Y.move (up1 rfl rfl rfl rfl rfl rfl) rfl rfl) rfl rfl ?_
        refine CertK.vd (Y.callW (w_swrite _ _ (by first | (with_reducible assumption) | omega | (simp only [lens, sha_l, snew_l, snew_rl, swrite_h, swrite_r2, ssum_l, List.flatten_cons, List.flatten_nil, List.append_nil, List.length_cons, List.length_nil, Cs.len, List.length_map, List.length_set, List.length_replicate, *]; first | done | omega) | decide | (split <;> simp only [lens, sha_l, snew_l, snew_rl, swrite_h, swrite_r2, ssum_l, List.flatten_cons, List.flatten_nil, List.append_nil, List.length_cons, List.length_nil, Cs.len, List.length_map, List.length_set, List.length_replicate, *]) | (with_reducible exact Lt.mono (by assumption) (by decide)) | (simp only [Cs.len]; done) | rfl) (by first | (with_reducible assumption) | omega | (simp only [lens, sha_l, snew_l, snew_rl, swrite_h, swrite_r2, ssum_l, List.flatten_cons, List.flatten_nil, List.append_nil, List.length_cons, List.length_nil, Cs.len, List.length_map, List.length_set, List.length_replicate, *]; first | done | omega) | decide | (split <;> simp only [lens, sha_l, snew_l, snew_rl, swrite_h, swrite_r2, ssum_l, List.flatten_cons, List.flatten_nil, List.append_nil, List.length_cons, List.length_nil, Cs.len, List.length_map, List.length_set, List.length_replicate, *]) | (with_reducible exact Lt.mono (by assumption) (by decide)) | (simp only [Cs.len]; done) | rfl) (by first | (with_reducible assumption) | omega | (simp only [lens, sha_l, snew_l, snew_rl, swrite_h, swrite_r2, ssum_l, List.flatten_cons, List.flatten_nil, List.append_nil, List.length_cons, List.length_nil, Cs.len, List.length_map, List.length_set, List.length_replicate, *]; first | done | omega) | decide | (split <;> simp only [lens, sha_l, snew_l, snew_rl, swrite_h, swrite_r2, ssum_l, List.flatten_cons, List.flatten_nil, List.append_nil, List.length_cons, List.length_nil, Cs.len, List.length_map, List.length_set, List.length_replicate, *]) | (with_reducible exact Lt.mono (by assumption) (by decide)) | (simp only [Cs.len]; done) | rfl)) fnok23 (up1 rfl rfl rfl rfl rfl rfl) rfl rfl (.cons _ _ _ _ rfl (.cons _ _ _ _ rfl .nil)) (.cons _ _ _ _ (.same _) (.cons _ _ _ _ (.same _) .nil)) rfl rfl) rfl rfl ?_
        refine CertK.vd (Y.callV (w_ssum _ (by first | (with_reducible assumption) | omega | (simp only [lens, sha_l, snew_l, snew_rl, swrite_h, swrite_r2, ssum_l, List.flatten_cons, List.flatten_nil, List.append_nil, List.length_cons, List.length_nil, Cs.len, List.length_map, List.length_set, List.length_replicate, *]; first | done | omega) | decide | (split <;> simp only [lens, sha_l, snew_l, snew_rl, swrite_h, swrite_r2, ssum_l, List.flatten_cons, List.flatten_nil, List.append_nil, List.length_cons, List.length_nil, Cs.len, List.length_map, List.length_set, List.length_replicate, *]) | (with_reducible exact Lt.mono (by assumption) (by decide)) | (simp only [Cs.len]; done) | rfl) (by first | (with_reducible assumption) | omega | (simp only [lens, sha_l, snew_l, snew_rl, swrite_h, swrite_r2, ssum_l, List.flatten_cons, List.flatten_nil, List.append_nil, List.length_cons, List.length_nil, Cs.len, List.length_map, List.length_set, List.length_replicate, *]; first | done | omega) | decide | (split <;> simp only [lens, sha_l, snew_l, snew_rl, swrite_h, swrite_r2, ssum_l, List.flatten_cons, List.flatten_nil, List.append_nil, List.length_cons, List.length_nil, Cs.len, List.length_map, List.length_set, List.length_replicate, *]) | (with_reducible exact Lt.mono (by assumption) (by decide)) | (simp only [Cs.len]; done) | rfl)) fnok24 (up1 rfl rfl rfl rfl rfl rfl) rfl rfl (.cons _ _ _ _ rfl .nil) (.cons _ _ _ _ (.same _) .nil) rfl rfl) rfl rfl ?_
        refine CertK.vd (Y.ldAll ty24 rfl (up1 rfl rfl rfl rfl rfl rfl) rfl rfl rfl (by first | (with_reducible assumption) | omega | (simp only [lens, sha_l, snew_l, snew_rl, swrite_h, swrite_r2, ssum_l, List.flatten_cons, List.flatten_nil, List.append_nil, List.length_cons, List.length_nil, Cs.len, List.length_map, List.length_set, List.length_replicate, *]; first | done | omega) | decide | (split <;> simp only [lens, sha_l, snew_l, snew_rl, swrite_h, swrite_r2, ssum_l, List.flatten_cons, List.flatten_nil, List.append_nil, List.length_cons, List.length_nil, Cs.len, List.length_map, List.length_set, List.length_replicate, *]) | (with_reducible exact Lt.mono (by assumption) (by decide)) | (simp only [Cs.len]; done) | rfl) (by decide)) rfl rfl ?_
        refine CertK.v (Doing.isB (c := true) (decide_eq_true (hparts_1 ba cuts _)) (Y.eqR ty24 ty5 (by kernel_rfl) (up1 rfl rfl rfl rfl rfl rfl) rfl rfl rfl (by first | (with_reducible assumption) | omega | (simp only [lens, sha_l, snew_l, snew_rl, swrite_h, swrite_r2, ssum_l, List.flatten_cons, List.flatten_nil, List.append_nil, List.length_cons, List.length_nil, Cs.len, List.length_map, List.length_set, List.length_replicate, *]; first | done | omega) | decide | (split <;> simp only [lens, sha_l, snew_l, snew_rl, swrite_h, swrite_r2, ssum_l, List.flatten_cons, List.flatten_nil, List.append_nil, List.length_cons, List.length_nil, Cs.len, List.length_map, List.length_set, List.length_replicate, *]) | (with_reducible exact Lt.mono (by assumption) (by decide)) | (simp only [Cs.len]; done) | rfl) (by first | (with_reducible assumption) | omega | (simp only [lens, sha_l, snew_l, snew_rl, swrite_h, swrite_r2, ssum_l, List.flatten_cons, List.flatten_nil, List.append_nil, List.length_cons, List.length_nil, Cs.len, List.length_map, List.length_set, List.length_replicate, *]; first | done | omega) | decide | (split <;> simp only [lens, sha_l, snew_l, snew_rl, swrite_h, swrite_r2, ssum_l, List.flatten_cons, List.flatten_nil, List.append_nil, List.length_cons, List.length_nil, Cs.len, List.length_map, List.length_set, List.length_replicate, *]) | (with_reducible exact Lt.mono (by assumption) (by decide)) | (simp only [Cs.len]; done) | rfl))) rfl ?_
        refine CertK.v (Y.pickT (up0 rfl rfl rfl) rfl rfl rfl) rfl ?_
        refine CertK.v (Y.move (up0 rfl rfl rfl) rfl rfl) rfl ?_
        refine CertK.vd (Y.move (up1 rfl rfl rfl rfl rfl rfl) rfl rfl) rfl rfl ?_
        refine CertK.vd (Y.callV (w_sha _ hp2.1 hp2.2) fnok20 (up1 rfl rfl rfl rfl rfl rfl) rfl rfl (.cons _ _ _ _ rfl .nil) (.cons _ _ _ _ (.mixl rfl (by first | (simp only [Cs.len, List.length_map]; done) | (simp only [Cs.len, List.length_map]; rfl))) .nil) rfl rfl) rfl rfl ?_
        refine CertK.vd (Y.ldAll ty24 rfl (up1 rfl rfl rfl rfl rfl rfl) rfl rfl rfl (by first | (with_reducible assumption) | omega | (simp only [lens, sha_l, snew_l, snew_rl, swrite_h, swrite_r2, ssum_l, List.flatten_cons, List.flatten_nil, List.append_nil, List.length_cons, List.length_nil, Cs.len, List.length_map, List.length_set, List.length_replicate, *]; first | done | omega) | decide | (split <;> simp only [lens, sha_l, snew_l, snew_rl, swrite_h, swrite_r2, ssum_l, List.flatten_cons, List.flatten_nil, List.append_nil, List.length_cons, List.length_nil, Cs.len, List.length_map, List.length_set, List.length_replicate, *]) | (with_reducible exact Lt.mono (by assumption) (by decide)) | (simp only [Cs.len]; done) | rfl) (by decide)) rfl rfl ?_
        refine CertK.v (Doing.isB (c := true) (decide_eq_true (hparts_2 ba cuts _)) (Y.eqR ty24 ty5 (by kernel_rfl) (up1 rfl rfl rfl rfl rfl rfl) rfl rfl rfl (by first | (with_reducible assumption) | omega | (simp only [lens, sha_l, snew_l, snew_rl, swrite_h, swrite_r2, ssum_l, List.flatten_cons, List.flatten_nil, List.append_nil, List.length_cons, List.length_nil, Cs.len, List.length_map, List.length_set, List.length_replicate, *]; first | done | omega) | decide | (split <;> simp only [lens, sha_l, snew_l, snew_rl, swrite_h, swrite_r2, ssum_l, List.flatten_cons, List.flatten_nil, List.append_nil, List.length_cons, List.length_nil, Cs.len, List.length_map, List.length_set, List.length_replicate, *]) | (with_reducible exact Lt.mono (by assumption) (by decide)) | (simp only [Cs.len]; done) | rfl) (by first | (with_reducible assumption) | omega | (simp only [lens, sha_l, snew_l, snew_rl, swrite_h, swrite_r2, ssum_l, List.flatten_cons, List.flatten_nil, List.append_nil, List.length_cons, List.length_nil, Cs.len, List.length_map, List.length_set, List.length_replicate, *]; first | done | omega) | decide | (split <;> simp only [lens, sha_l, snew_l, snew_rl, swrite_h, swrite_r2, ssum_l, List.flatten_cons, List.flatten_nil, List.append_nil, List.length_cons, List.length_nil, Cs.len, List.length_map, List.length_set, List.length_replicate, *]) | (with_reducible exact Lt.mono (by assumption) (by decide)) | (simp only [Cs.len]; done) | rfl))) rfl ?_
        refine CertK.v (Y.pickT (up0 rfl rfl rfl) rfl rfl rfl) rfl ?_
        refine CertK.v (Y.move (up0 rfl rfl rfl) rfl rfl) rfl ?_
        refine CertK.vd (Y.buildSt [(0, 1), (1, 8), (9, 1), (10, 1)] st0 rfl ty30 rfl (by kernel_rfl) (up1 rfl rfl rfl rfl rfl rfl) rfl (.nil _)) rfl rfl ?_
        refine CertK.vd (Y.move (up1 rfl rfl rfl rfl rfl rfl) rfl rfl) rfl rfl ?_
        refine CertK.vd (Y.callW (w_swrite _ _ (by first | (with_reducible assumption) | omega | (simp only [lens, sha_l, snew_l, snew_rl, swrite_h, swrite_r2, ssum_l, List.flatten_cons, List.flatten_nil, List.append_nil, List.length_cons, List.length_nil, Cs.len, List.length_map, List.length_set, List.length_replicate, *]; first | done | omega) | decide | (split <;> simp only [lens, sha_l, snew_l, snew_rl, swrite_h, swrite_r2, ssum_l, List.flatten_cons, List.flatten_nil, List.append_nil, List.length_cons, List.length_nil, Cs.len, List.length_map, List.length_set, List.length_replicate, *]) | (with_reducible exact Lt.mono (by assumption) (by decide)) | (simp only [Cs.len]; done) | rfl) (by first | (with_reducible assumption) | omega | (simp only [lens, sha_l, snew_l, snew_rl, swrite_h, swrite_r2, ssum_l, List.flatten_cons, List.flatten_nil, List.append_nil, List.length_cons, List.length_nil, Cs.len, List.length_map, List.length_set, List.length_replicate, *]; first | done | omega) | decide | (split <;> simp only [lens, sha_l, snew_l, snew_rl, swrite_h, swrite_r2, ssum_l, List.flatten_cons, List.flatten_nil, List.append_nil, List.length_cons, List.length_nil, Cs.len, List.length_map, List.length_set, List.length_replicate, *]) | (with_reducible exact Lt.mono (by assumption) (by decide)) | (simp only [Cs.len]; done) | rfl) (by first | (with_reducible assumption) | omega | (simp only [lens, sha_l, snew_l, snew_rl, swrite_h, swrite_r2, ssum_l, List.flatten_cons, List.flatten_nil, List.append_nil, List.length_cons, List.length_nil, Cs.len, List.length_map, List.length_set, List.length_replicate, *]; first | done | omega) | decide | (split <;> simp only [lens, sha_l, snew_l, snew_rl, swrite_h, swrite_r2, ssum_l, List.flatten_cons, List.flatten_nil, List.append_nil, List.length_cons, List.length_nil, Cs.len, List.length_map, List.length_set, List.length_replicate, *]) | (with_reducible exact Lt.mono (by assumption) (by decide)) | (simp only [Cs.len]; done) | rfl)) fnok23 (up1 rfl rfl rfl rfl rfl rfl) rfl rfl (.cons _ _ _ _ rfl (.cons _ _ _ _ rfl .nil)) (.cons _ _ _ _ (.same _) (.cons _ _ _ _ (.same _) .nil)) rfl rfl) rfl rfl ?_
        refine CertK.vd (Y.callV (w_ssum _ (by first | (with_reducible assumption) | omega | (simp only [lens, sha_l, snew_l, snew_rl, swrite_h, swrite_r2, ssum_l, List.flatten_cons, List.flatten_nil, List.append_nil, List.length_cons, List.length_nil, Cs.len, List.length_map, List.length_set, List.length_replicate, *]; first | done | omega) | decide | (split <;> simp only [lens, sha_l, snew_l, snew_rl, swrite_h, swrite_r2, ssum_l, List.flatten_cons, List.flatten_nil, List.append_nil, List.length_cons, List.length_nil, Cs.len, List.length_map, List.length_set, List.length_replicate, *]) | (with_reducible exact Lt.mono (by assumption) (by decide)) | (simp only [Cs.len]; done) | rfl) (by first | (with_reducible assumption) | omega | (simp only [lens, sha_l, snew_l, snew_rl, swrite_h, swrite_r2, ssum_l, List.flatten_cons, List.flatten_nil, List.append_nil, List.length_cons, List.length_nil, Cs.len, List.length_map, List.length_set, List.length_replicate, *]; first | done | omega) | decide | (split <;> simp only [lens, sha_l, snew_l, snew_rl, swrite_h, swrite_r2, ssum_l, List.flatten_cons, List.flatten_nil, List.append_nil, List.length_cons, List.length_nil, Cs.len, List.length_map, List.length_set, List.length_replicate, *]) | (with_reducible exact Lt.mono (by assumption) (by decide)) | (simp only [Cs.len]; done) | rfl)) fnok24 (up1 rfl rfl rfl rfl rfl rfl) rfl rfl (.cons _ _ _ _ rfl .nil) (.cons _ _ _ _ (.same _) .nil) rfl rfl) rfl rfl ?_
        refine CertK.vd (Y.ldAll ty24 rfl (up1 rfl rfl rfl rfl rfl rfl) rfl rfl rfl (by first | (with_reducible assumption) | omega | (simp only [lens, sha_l, snew_l, snew_rl, swrite_h, swrite_r2, ssum_l, List.flatten_cons, List.flatten_nil, List.append_nil, List.length_cons, List.length_nil, Cs.len, List.length_map, List.length_set, List.length_replicate, *]; first | done | omega) | decide | (split <;> simp only [lens, sha_l, snew_l, snew_rl, swrite_h, swrite_r2, ssum_l, List.flatten_cons, List.flatten_nil, List.append_nil, List.length_cons, List.length_nil, Cs.len, List.length_map, List.length_set, List.length_replicate, *]) | (with_reducible exact Lt.mono (by assumption) (by decide)) | (simp only [Cs.len]; done) | rfl) (by decide)) rfl rfl ?_
        refine CertK.v (Doing.isB (c := true) (decide_eq_true (hparts_3 ba)) (Y.eqR ty24 ty5 (by kernel_rfl) (up1 rfl rfl rfl rfl rfl rfl) rfl rfl rfl (by first | (with_reducible assumption) | omega | (simp only [lens, sha_l, snew_l, snew_rl, swrite_h, swrite_r2, ssum_l, List.flatten_cons, List.flatten_nil, List.append_nil, List.length_cons, List.length_nil, Cs.len, List.length_map, List.length_set, List.length_replicate, *]; first | done | omega) | decide | (split <;> simp only [lens, sha_l, snew_l, snew_rl, swrite_h, swrite_r2, ssum_l, List.flatten_cons, List.flatten_nil, List.append_nil, List.length_cons, List.length_nil, Cs.len, List.length_map, List.length_set, List.length_replicate, *]) | (with_reducible exact Lt.mono (by assumption) (by decide)) | (simp only [Cs.len]; done) | rfl) (by first | (with_reducible assumption) | omega | (simp only [lens, sha_l, snew_l, snew_rl, swrite_h, swrite_r2, ssum_l, List.flatten_cons, List.flatten_nil, List.append_nil, List.length_cons, List.length_nil, Cs.len, List.length_map, List.length_set, List.length_replicate, *]; first | done | omega) | decide | (split <;> simp only [lens, sha_l, snew_l, snew_rl, swrite_h, swrite_r2, ssum_l, List.flatten_cons, List.flatten_nil, List.append_nil, List.length_cons, List.length_nil, Cs.len, List.length_map, List.length_set, List.length_replicate, *]) | (with_reducible exact Lt.mono (by assumption) (by decide)) | (simp only [Cs.len]; done) | rfl))) rfl ?_
        refine CertK.v (Y.pickT (up0 rfl rfl rfl) rfl rfl rfl) rfl ?_
        refine CertK.v (Y.assign (up0 rfl rfl rfl) rfl rfl) rfl ?_
        refine CertK.nil ?_
        refine Holds.ret ?_
        exact Holds.ret1 (.inl rfl) rfl (.tmp _ _ rfl) (.same _) rfl
    · by_cases a9_4 : (i1_ < cuts.length)
      · refine Holds.reg ?_
        refine OpsFrom.v (Y.move (up0 rfl rfl rfl) rfl rfl) rfl ?_
        refine OpsFrom.v (Y.move (up0 rfl rfl rfl) rfl rfl) rfl ?_
        refine OpsFrom.v (Y.len ty42 (up0 rfl rfl rfl) rfl rfl rfl rfl) rfl ?_
        refine OpsFrom.v (Y.lss (up0 rfl rfl rfl) rfl rfl rfl) rfl ?_
        refine OpsFrom.v (Doing.isB (c := true) (decide_eq_true a9_4) (Y.move (up0 rfl rfl rfl) rfl rfl)) rfl ?_
        refine OpsFrom.v (Y.move (up1 rfl rfl rfl rfl rfl rfl) rfl rfl) rfl ?_
        refine OpsFrom.v (Y.lss (b := 50) (up1 rfl rfl rfl rfl rfl rfl) rfl rfl rfl) rfl ?_
        refine OpsFrom.v (Y.pickT (up0 rfl rfl rfl) rfl rfl rfl) rfl ?_
        refine OpsFrom.nil ?_
        exact join _ [] ⟨⟨rfl, rfl, rfl, rfl, rfl, rfl, rfl, rfl, rfl, rfl, rfl, rfl, rfl, (bEq ((dT a9_4))), (bEq ((dAnd a9_4))), trivial⟩, ⟨rfl, rfl, (mlEq rfl), trivial⟩, rfl, rfl⟩
      · refine Holds.reg ?_
        refine OpsFrom.v (Y.move (up0 rfl rfl rfl) rfl rfl) rfl ?_
        refine OpsFrom.v (Y.move (up0 rfl rfl rfl) rfl rfl) rfl ?_
        refine OpsFrom.v (Y.len ty42 (up0 rfl rfl rfl) rfl rfl rfl rfl) rfl ?_
        refine OpsFrom.v (Y.lss (up0 rfl rfl rfl) rfl rfl rfl) rfl ?_
        refine OpsFrom.v (Doing.isB (c := false) (decide_eq_false a9_4) (Y.move (up0 rfl rfl rfl) rfl rfl)) rfl ?_
        refine OpsFrom.v (Doing.skip _ _ _ _ rfl rfl rfl rfl (dlt rfl (Nat.le_of_ble_eq_true rfl))) rfl ?_
        refine OpsFrom.v (Doing.skip _ _ _ _ rfl rfl rfl rfl (dlt rfl (Nat.le_of_ble_eq_true rfl))) rfl ?_
        refine OpsFrom.v (Y.pickF (up0 rfl rfl rfl) rfl rfl rfl) rfl ?_
        refine OpsFrom.nil ?_
        exact join _ [] ⟨⟨rfl, rfl, rfl, rfl, rfl, rfl, rfl, rfl, rfl, rfl, rfl, rfl, rfl, (bEq ((dF a9_4))), (bEq ((dF (fun k => a9_4 k.1)))), trivial⟩, ⟨rfl, rfl, (mlEq rfl), trivial⟩, rfl, rfl⟩


end Go.Proofs.Ytjgcmfedofmkpaa
