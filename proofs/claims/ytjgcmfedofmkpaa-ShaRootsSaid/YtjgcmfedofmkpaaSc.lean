/-
  Walks: a block.
-/
import Derived.Test.YtjgcmfedofmkpaaSb
namespace Go.Proofs.Ytjgcmfedofmkpaa
open Go Go.Fx
set_option linter.unusedVariables false
set_option linter.unusedSimpArgs false
def sblk_s1 (b : List Nat) (i1_ : Nat) (m1_ : List Nat) : List Nat :=
  let v5_ : Nat := (m1_.getD (i1_ / 8) 0) * 2 ^ 8 % 18446744073709551616
  let v6_ : List Nat := m1_.set (i1_ / 8) (v5_ ||| (b.getD i1_ 0))
  v6_
def sblk_it1 (b : List Nat) (i1_ : Nat) : List Nat := iter (sblk_s1 b) i1_ (List.replicate 80 0)
theorem sblk_it1_z (b : List Nat) : sblk_it1 b 0 = List.replicate 80 0 := rfl
theorem sblk_it1_s (b : List Nat) (i1_ : Nat) : sblk_it1 b (i1_ + 1) = sblk_s1 b i1_ (sblk_it1 b i1_) := by unfold sblk_it1; exact iterS _ _ _
theorem sblk_it1_l (b : List Nat) (i1_ : Nat) : ((sblk_it1 b i1_)).length = (List.replicate 80 0 : List Nat).length := iter_inv (fun (s : List Nat) => (s).length = (List.replicate 80 0 : List Nat).length) (by simp) (fun i s h => by
  unfold sblk_s1
  first | (simp [h]; done) | (dsimp only; (repeat' split) <;> simp [h])) i1_
def sblk_s2 (b : List Nat) (i2_ : Nat) (m2_ : List Nat) : List Nat :=
  let v24_ : Nat := ((m2_.getD ((16 + i2_) - 16) 0) + (m2_.getD ((16 + i2_) - 7) 0)) % 18446744073709551616
  let v25_ : Nat := (sturn (m2_.getD ((16 + i2_) - 15) 0) 1) ^^^ (sturn (m2_.getD ((16 + i2_) - 15) 0) 8)
  let v26_ : Nat := v25_ ^^^ ((m2_.getD ((16 + i2_) - 15) 0) / 2 ^ 7)
  let v27_ : Nat := (sturn (m2_.getD ((16 + i2_) - 2) 0) 19) ^^^ (sturn (m2_.getD ((16 + i2_) - 2) 0) 61)
  let v28_ : Nat := v27_ ^^^ ((m2_.getD ((16 + i2_) - 2) 0) / 2 ^ 6)
  let v29_ : Nat := (((v24_ + v26_) % 18446744073709551616) + v28_) % 18446744073709551616
  m2_.set (16 + i2_) v29_
def sblk_it2 (b : List Nat) (i2_ : Nat) : List Nat := iter (sblk_s2 b) i2_ (sblk_it1 b b.length)
theorem sblk_it2_z (b : List Nat) : sblk_it2 b 0 = (sblk_it1 b b.length) := rfl
theorem sblk_it2_s (b : List Nat) (i2_ : Nat) : sblk_it2 b (i2_ + 1) = sblk_s2 b i2_ (sblk_it2 b i2_) := by unfold sblk_it2; exact iterS _ _ _
theorem sblk_it2_l (b : List Nat) (i2_ : Nat) : ((sblk_it2 b i2_)).length = ((sblk_it1 b b.length) : List Nat).length := iter_inv (fun (s : List Nat) => (s).length = ((sblk_it1 b b.length) : List Nat).length) (by simp) (fun i s h => by
  unfold sblk_s2
  first | (simp [sblk_it1_l, h]; done) | (dsimp only; (repeat' split) <;> simp [sblk_it1_l, h])) i2_
def sblk_s3 (b : List Nat) (s : St) (k : List Nat) (i3_ : Nat) (m3_ : List Nat) : List Nat :=
  let v62_ : Nat := (sturn (m3_.getD 4 0) 14) ^^^ (sturn (m3_.getD 4 0) 18)
  let v63_ : Nat := ((m3_.getD 7 0) + (v62_ ^^^ (sturn (m3_.getD 4 0) 41))) % 18446744073709551616
  let v64_ : Nat := 18446744073709551616 - 1 - (m3_.getD 4 0)
  let v65_ : Nat := ((m3_.getD 4 0) &&& (m3_.getD 5 0)) ^^^ (v64_ &&& (m3_.getD 6 0))
  let v66_ : Nat := (((v63_ + v65_) % 18446744073709551616) + (k.getD i3_ 0)) % 18446744073709551616
  let v67_ : Nat := (v66_ + ((sblk_it2 b 64).getD i3_ 0)) % 18446744073709551616
  let v68_ : Nat := (sturn (m3_.getD 0 0) 28) ^^^ (sturn (m3_.getD 0 0) 34)
  let v69_ : Nat := ((m3_.getD 0 0) &&& (m3_.getD 1 0)) ^^^ ((m3_.getD 0 0) &&& (m3_.getD 2 0))
  let v70_ : Nat := v69_ ^^^ ((m3_.getD 1 0) &&& (m3_.getD 2 0))
  let v71_ : Nat := ((v68_ ^^^ (sturn (m3_.getD 0 0) 39)) + v70_) % 18446744073709551616
  let v72_ : Nat := ((m3_.getD 3 0) + v67_) % 18446744073709551616
  let v73_ : List Nat := ((((((((List.replicate 8 0).set 0 ((v67_ + v71_) % 18446744073709551616)).set 1 (m3_.getD 0 0)).set 2 (m3_.getD 1 0)).set 3 (m3_.getD 2 0)).set 4 v72_).set 5 (m3_.getD 4 0)).set 6 (m3_.getD 5 0)).set 7 (m3_.getD 6 0)
  v73_
def sblk_it3 (b : List Nat) (s : St) (k : List Nat) (i3_ : Nat) : List Nat := iter (sblk_s3 b s k) i3_ s.h
theorem sblk_it3_z (b : List Nat) (s : St) (k : List Nat) : sblk_it3 b s k 0 = s.h := rfl
theorem sblk_it3_s (b : List Nat) (s : St) (k : List Nat) (i3_ : Nat) : sblk_it3 b s k (i3_ + 1) = sblk_s3 b s k i3_ (sblk_it3 b s k i3_) := by unfold sblk_it3; exact iterS _ _ _
theorem sblk_n3 {s : St} (ls : s.h.length = 8) (b k : List Nat) : ∀ i, (sblk_it3 b s k i).length = 8
  | 0 => ls
  | i + 1 => by
    rw [sblk_it3_s]
    unfold sblk_s3
    dsimp only
    simp only [List.length_set, List.length_replicate]
def sblk_s4 (b : List Nat) (s : St) (k : List Nat) (i4_ : Nat) (m4_ : St) : St :=
  let v89_ : Nat := ((m4_.h.getD i4_ 0) + ((sblk_it3 b s k 80).getD i4_ 0)) % 18446744073709551616
  m4_.setH (m4_.h.set i4_ v89_)
def sblk_it4 (b : List Nat) (s : St) (k : List Nat) (i4_ : Nat) : St := iter (sblk_s4 b s k) i4_ s
theorem sblk_it4_z (b : List Nat) (s : St) (k : List Nat) : sblk_it4 b s k 0 = s := rfl
theorem sblk_it4_s (b : List Nat) (s : St) (k : List Nat) (i4_ : Nat) : sblk_it4 b s k (i4_ + 1) = sblk_s4 b s k i4_ (sblk_it4 b s k i4_) := by unfold sblk_it4; exact iterS _ _ _
theorem sblk_n4 (s : St) (b k : List Nat) : ∀ i, (sblk_it4 b s k i).h.length = s.h.length
  | 0 => rfl
  | i + 1 => by
    rw [sblk_it4_s]
    unfold sblk_s4
    dsimp only [St.setH]
    rw [List.length_set]
    exact sblk_n4 s b k i
def sblk (b : List Nat) (s : St) (k : List Nat) : St × (List Nat) :=
  ((sblk_it4 b s k 8), k)
theorem sblk_len1 (b : List Nat) (s : St) (k : List Nat)  : ((sblk b s k).2).length = k.length := by
  unfold sblk
  first | (simp [sblk_it1_l, sblk_it2_l]; done) | (simp [*, sblk_it1_l, sblk_it2_l]; done) | (dsimp only; (repeat' split) <;> simp [*, sblk_it1_l, sblk_it2_l])
theorem w_sblk0 (b : List Nat) (s : St) (k : List Nat) (l_b : b.length = 128) (l_s : s.h.length = 8) (l_k : k.length = 80) : UC Try.prog 41 [.one (.p 1000 0), .one (.bs true .u8 b), .one (.p 1001 0)] [(1000, .mix (St.cells s)), (1001, .ints .u64 k)] (.one .u) [(1000, .mix (St.cells ((sblk b s k).1))), (1001, .ints .u64 ((sblk b s k).2))] := by
  refine UC.go Try.func41 rfl Try.ntmps41 rfl rfl rfl fun ρ O w => ?_
  refine Holds.seq ?_
  refine Holds.reg ?_
  refine OpsFrom.u (Y.alloc (d := 6) ty35 rfl rfl (up0 rfl rfl rfl) rfl) rfl rfl rfl ?_
  refine OpsFrom.nil ?_
  refine Holds.seq ?_
  refine Holds.seq ?_
  refine Holds.reg ?_
  refine OpsFrom.v (Y.move (up0 rfl rfl rfl) rfl rfl) rfl ?_
  refine OpsFrom.v (Y.len ty22 (up0 rfl rfl rfl) rfl rfl rfl rfl) rfl ?_
  refine OpsFrom.v (Y.move (v := (.one (.n .i64 0))) (up0 rfl rfl rfl) rfl rfl) rfl ?_
  refine OpsFrom.nil ?_
  refine Holds.block ?_
  refine Holds.loop (fun (i1_ : Nat) => ⟨[(0, .one (.p 1000 0)), (2, .one (.p 1001 0)), (6, .one (.p 6 0)), (21, .one (.bs true .u8 b)), (22, .one (.n .i64 b.length)), (23, .one (.n .i64 i1_))], [(1000, .own (.mix (St.cells s))), (1001, .own (.ints .u64 k)), (6, .own (.ints .u64 (sblk_it1 b i1_)))]⟩) (fun (i1_ : Nat) => i1_ ≤ b.length) (fun (i1_ : Nat) => b.length - i1_) 0 (by first | (with_reducible assumption) | omega | (simp only [lens, sblk_it1_l, *]; first | done | omega) | decide | (split <;> simp only [lens, sblk_it1_l, *]) | (with_reducible exact Lt.mono (by assumption) (by decide)) | (simp only [Cs.len]; done) | rfl) [] ⟨⟨rfl, rfl, rfl, rfl, rfl, rfl, trivial⟩, ⟨rfl, rfl, (hEq (congrArg (fun (s : List Nat) => s) (sblk_it1_z b)).symm), trivial⟩, rfl, rfl⟩ ?_
  intro i1_ k1_
  refine Holds.seq ?_
  refine Holds.reg ?_
  refine OpsFrom.v (Y.lss (up0 rfl rfl rfl) rfl rfl rfl) rfl ?_
  refine OpsFrom.nil ?_
  refine Holds.seq ?_
  refine Holds.condD rfl (fun h24 => ?_) (fun h24 => ?_)
  · refine Holds.skip ?_
    refine Holds.seq ?_
    refine Holds.block ?_
    refine Holds.seq ?_
    refine Holds.reg ?_
    refine OpsFrom.v (Y.move (up0 rfl rfl rfl) rfl rfl) rfl ?_
    refine OpsFrom.v (Y.iaBs ty22 ty5 (up0 rfl rfl rfl) rfl rfl rfl (by first | (with_reducible assumption) | omega | (simp only [lens, sblk_it1_l, *]; first | done | omega) | decide | (split <;> simp only [lens, sblk_it1_l, *]) | (with_reducible exact Lt.mono (by assumption) (by decide)) | (simp only [Cs.len]; done) | rfl)) rfl ?_
    refine OpsFrom.v (Y.ldPc ty5 rfl (up0 rfl rfl rfl) rfl rfl) rfl ?_
    refine OpsFrom.v (Y.assign (up0 rfl rfl rfl) rfl rfl) rfl ?_
    refine OpsFrom.v (Y.assign (up0 rfl rfl rfl) rfl rfl) rfl ?_
    refine OpsFrom.nil ?_
    refine Holds.reg ?_
    refine OpsFrom.v (Y.move (up0 rfl rfl rfl) rfl rfl) rfl ?_
    refine OpsFrom.v (Y.quoI (b := 8) (up0 rfl rfl rfl) rfl rfl rfl (by first | (with_reducible assumption) | omega | (simp only [lens, sblk_it1_l, *]; first | done | omega) | decide | (split <;> simp only [lens, sblk_it1_l, *]) | (with_reducible exact Lt.mono (by assumption) (by decide)) | (simp only [Cs.len]; done) | rfl) (by decide)) rfl ?_
    refine OpsFrom.v (Y.move (up0 rfl rfl rfl) rfl rfl) rfl ?_
    refine OpsFrom.v (Y.quoI (b := 8) (up0 rfl rfl rfl) rfl rfl rfl (by first | (with_reducible assumption) | omega | (simp only [lens, sblk_it1_l, *]; first | done | omega) | decide | (split <;> simp only [lens, sblk_it1_l, *]) | (with_reducible exact Lt.mono (by assumption) (by decide)) | (simp only [Cs.len]; done) | rfl) (by decide)) rfl ?_
    refine OpsFrom.v (Y.ia0 ty35 ty27 (up0 rfl rfl rfl) rfl rfl rfl (by first | (with_reducible assumption) | omega | (simp only [lens, sblk_it1_l, *]; first | done | omega) | decide | (split <;> simp only [lens, sblk_it1_l, *]) | (with_reducible exact Lt.mono (by assumption) (by decide)) | (simp only [Cs.len]; done) | rfl)) rfl ?_
    refine OpsFrom.v (Y.ldI ty27 rfl (up0 rfl rfl rfl) rfl rfl rfl (by first | (with_reducible assumption) | omega | (simp only [lens, sblk_it1_l, *]; first | done | omega) | decide | (split <;> simp only [lens, sblk_it1_l, *]) | (with_reducible exact Lt.mono (by assumption) (by decide)) | (simp only [Cs.len]; done) | rfl)) rfl ?_
    refine OpsFrom.v (Y.shl (b := 8) u64s u64m (up0 rfl rfl rfl) rfl rfl rfl) rfl ?_
    refine OpsFrom.v (Y.move (up0 rfl rfl rfl) rfl rfl) rfl ?_
    refine OpsFrom.v (Y.convUp ty5.u ty27.u rfl rfl (by decide) (up0 rfl rfl rfl) rfl rfl) rfl ?_
    refine OpsFrom.v (Y.or u64s u64m (up0 rfl rfl rfl) rfl rfl rfl) rfl ?_
    refine OpsFrom.v (Y.ia0 ty35 ty27 (up0 rfl rfl rfl) rfl rfl rfl (by first | (with_reducible assumption) | omega | (simp only [lens, sblk_it1_l, *]; first | done | omega) | decide | (split <;> simp only [lens, sblk_it1_l, *]) | (with_reducible exact Lt.mono (by assumption) (by decide)) | (simp only [Cs.len]; done) | rfl)) rfl ?_
    refine OpsFrom.n (Y.stI ty27 (upN rfl rfl) rfl rfl rfl rfl (by first | (with_reducible assumption) | omega | (simp only [lens, sblk_it1_l, *]; first | done | omega) | decide | (split <;> simp only [lens, sblk_it1_l, *]) | (with_reducible exact Lt.mono (by assumption) (by decide)) | (simp only [Cs.len]; done) | rfl)) rfl rfl ?_
    refine OpsFrom.nil ?_
    refine Holds.reg ?_
    refine OpsFrom.v (Y.addI (b := 1) (up0 rfl rfl rfl) rfl rfl rfl (by first | (with_reducible assumption) | omega | (simp only [lens, sblk_it1_l, *]; first | done | omega) | decide | (split <;> simp only [lens, sblk_it1_l, *]) | (with_reducible exact Lt.mono (by assumption) (by decide)) | (simp only [Cs.len]; done) | rfl)) rfl ?_
    refine OpsFrom.v (Y.move (up0 rfl rfl rfl) rfl rfl) rfl ?_
    refine OpsFrom.nil ?_
    exact Holds.again (i1_ + 1) (by omega) (by omega) [] ⟨⟨rfl, rfl, rfl, rfl, rfl, (nEq (by omega)), trivial⟩, ⟨rfl, rfl, (hEq (by rw [sblk_it1_s]; unfold sblk_s1; first | (dsimp only; done) | rfl)), trivial⟩, rfl, rfl⟩
  · obtain rfl : i1_ = b.length := by omega
    refine Holds.exit ?_
    refine Holds.seq ?_
    refine Holds.reg ?_
    refine OpsFrom.v (Y.assign (up0 rfl rfl rfl) rfl rfl) rfl ?_
    refine OpsFrom.nil ?_
    refine Holds.seq ?_
    refine Holds.seq ?_
    refine Holds.reg ?_
    refine OpsFrom.v (Y.assign (v := (.one (.n .i64 16))) (up0 rfl rfl rfl) rfl rfl) rfl ?_
    refine OpsFrom.nil ?_
    refine Holds.block ?_
    refine Holds.loop (fun (i2_ : Nat) => ⟨[(0, .one (.p 1000 0)), (2, .one (.p 1001 0)), (6, .one (.p 6 0)), (9, .one (.fn 49 [])), (10, .one (.n .i64 (16 + i2_)))], [(1000, .own (.mix (St.cells s))), (1001, .own (.ints .u64 k)), (6, .own (.ints .u64 (sblk_it2 b i2_)))]⟩) (fun (i2_ : Nat) => i2_ ≤ 64) (fun (i2_ : Nat) => 64 - i2_) 0 (by first | (with_reducible assumption) | omega | (simp only [lens, sblk_it1_l, sblk_it2_l, *]; first | done | omega) | decide | (split <;> simp only [lens, sblk_it1_l, sblk_it2_l, *]) | (with_reducible exact Lt.mono (by assumption) (by decide)) | (simp only [Cs.len]; done) | rfl) [] ⟨⟨rfl, rfl, rfl, rfl, rfl, trivial⟩, ⟨rfl, rfl, (hEq (congrArg (fun (s : List Nat) => s) (sblk_it2_z b)).symm), trivial⟩, rfl, rfl⟩ ?_
    intro i2_ k2_
    refine Holds.seq ?_
    refine Holds.seq ?_
    refine Holds.reg ?_
    refine OpsFrom.v (Y.move (up0 rfl rfl rfl) rfl rfl) rfl ?_
    refine OpsFrom.v (Y.lss (b := 80) (up0 rfl rfl rfl) rfl rfl rfl) rfl ?_
    refine OpsFrom.nil ?_
    refine Holds.condD rfl (fun h41 => ?_) (fun h41 => ?_)
    · refine Holds.skip ?_
      refine Holds.seq ?_
      refine Holds.block ?_
      refine Holds.seq ?_
      refine Holds.dr mx [([44], [48, 49, 50, 51]), ([45], [48, 49, 50, 51]), ([46], [48, 49, 50, 51]), ([47], [48, 49, 50, 51]), ([48], [44, 45, 46, 47, 11]), ([49], [44, 45, 46, 47, 11]), ([50], [44, 45, 46, 47, 11]), ([51], [44, 45, 46, 47, 11]), ([11], [48, 49, 50, 51]), ([12], [])] (by kernel_rfl) ?_
      refine CertK.vd (Y.move (up0 rfl rfl rfl) rfl rfl) rfl rfl ?_
      refine CertK.vd (Y.subI (b := 15) (up0 rfl rfl rfl) rfl rfl rfl (by first | (with_reducible assumption) | omega | (simp only [lens, sblk_it1_l, sblk_it2_l, *]; first | done | omega) | decide | (split <;> simp only [lens, sblk_it1_l, sblk_it2_l, *]) | (with_reducible exact Lt.mono (by assumption) (by decide)) | (simp only [Cs.len]; done) | rfl) (by first | (with_reducible assumption) | omega | (simp only [lens, sblk_it1_l, sblk_it2_l, *]; first | done | omega) | decide | (split <;> simp only [lens, sblk_it1_l, sblk_it2_l, *]) | (with_reducible exact Lt.mono (by assumption) (by decide)) | (simp only [Cs.len]; done) | rfl)) rfl rfl ?_
      refine CertK.vd (Y.ia0 ty35 ty27 (up0 rfl rfl rfl) rfl rfl rfl (by first | (with_reducible assumption) | omega | (simp only [lens, sblk_it1_l, sblk_it2_l, *]; first | done | omega) | decide | (split <;> simp only [lens, sblk_it1_l, sblk_it2_l, *]) | (with_reducible exact Lt.mono (by assumption) (by decide)) | (simp only [Cs.len]; done) | rfl)) rfl rfl ?_
      refine CertK.vd (Y.ldI ty27 rfl (up0 rfl rfl rfl) rfl rfl rfl (by first | (with_reducible assumption) | omega | (simp only [lens, sblk_it1_l, sblk_it2_l, *]; first | done | omega) | decide | (split <;> simp only [lens, sblk_it1_l, sblk_it2_l, *]) | (with_reducible exact Lt.mono (by assumption) (by decide)) | (simp only [Cs.len]; done) | rfl)) rfl rfl ?_
      refine CertK.vd (Y.move (up0 rfl rfl rfl) rfl rfl) rfl rfl ?_
      refine CertK.vd (Y.subI (b := 2) (up0 rfl rfl rfl) rfl rfl rfl (by first | (with_reducible assumption) | omega | (simp only [lens, sblk_it1_l, sblk_it2_l, *]; first | done | omega) | decide | (split <;> simp only [lens, sblk_it1_l, sblk_it2_l, *]) | (with_reducible exact Lt.mono (by assumption) (by decide)) | (simp only [Cs.len]; done) | rfl) (by first | (with_reducible assumption) | omega | (simp only [lens, sblk_it1_l, sblk_it2_l, *]; first | done | omega) | decide | (split <;> simp only [lens, sblk_it1_l, sblk_it2_l, *]) | (with_reducible exact Lt.mono (by assumption) (by decide)) | (simp only [Cs.len]; done) | rfl)) rfl rfl ?_
      refine CertK.vd (Y.ia0 ty35 ty27 (up0 rfl rfl rfl) rfl rfl rfl (by first | (with_reducible assumption) | omega | (simp only [lens, sblk_it1_l, sblk_it2_l, *]; first | done | omega) | decide | (split <;> simp only [lens, sblk_it1_l, sblk_it2_l, *]) | (with_reducible exact Lt.mono (by assumption) (by decide)) | (simp only [Cs.len]; done) | rfl)) rfl rfl ?_
      refine CertK.vd (Y.ldI ty27 rfl (up0 rfl rfl rfl) rfl rfl rfl (by first | (with_reducible assumption) | omega | (simp only [lens, sblk_it1_l, sblk_it2_l, *]; first | done | omega) | decide | (split <;> simp only [lens, sblk_it1_l, sblk_it2_l, *]) | (with_reducible exact Lt.mono (by assumption) (by decide)) | (simp only [Cs.len]; done) | rfl)) rfl rfl ?_
      refine CertK.vd (Y.assign (up0 rfl rfl rfl) rfl rfl) rfl rfl ?_
      refine CertK.v (Y.assign (up0 rfl rfl rfl) rfl rfl) rfl ?_
      refine CertK.nil ?_
      refine Holds.dr mx [([52], [53, 54, 55, 56, 57, 58, 59, 60, 61, 62, 63, 64, 65, 66, 67, 68, 69, 70, 71, 72, 73, 74, 75, 76, 77, 78, 79, 80, 81, 82, 83]), ([53], [52, 57, 58, 59, 60, 62, 63, 64, 65, 66, 67, 68, 69, 70, 71, 73, 74, 75, 76, 77, 78, 79, 80, 81, 82]), ([54], [52, 57, 58, 59, 60, 62, 63, 64, 65, 66, 67, 68, 69, 70, 71, 73, 74, 75, 76, 77, 78, 79, 80, 81, 82]), ([55], [52, 57, 58, 59, 60, 62, 63, 64, 65, 66, 67, 68, 69, 70, 71, 73, 74, 75, 76, 77, 78, 79, 80, 81, 82]), ([56], [52, 57, 58, 59, 60, 62, 63, 64, 65, 66, 67, 68, 69, 70, 71, 73, 74, 75, 76, 77, 78, 79, 80, 81, 82]), ([57], [52, 53, 54, 55, 56, 62, 63, 64, 65, 66, 67, 68, 69, 70, 71, 73, 74, 75, 76, 77, 78, 79, 80, 81, 82]), ([58], [52, 53, 54, 55, 56, 62, 63, 64, 65, 66, 67, 68, 69, 70, 71, 73, 74, 75, 76, 77, 78, 79, 80, 81, 82]), ([59], [52, 53, 54, 55, 56, 62, 63, 64, 65, 66, 67, 68, 69, 70, 71, 73, 74, 75, 76, 77, 78, 79, 80, 81, 82]), ([60], [52, 53, 54, 55, 56, 62, 63, 64, 65, 66, 67, 68, 69, 70, 71, 73, 74, 75, 76, 77, 78, 79, 80, 81, 82]), ([61], [52, 62, 63, 64, 65, 66, 67, 68, 69, 70, 71, 73, 74, 75, 76, 77, 78, 79, 80, 81, 82]), ([62], [52, 53, 54, 55, 56, 57, 58, 59, 60, 61, 63, 65, 66, 69, 70, 73, 74, 76, 77, 80, 81]), ([63], [52, 53, 54, 55, 56, 57, 58, 59, 60, 61, 62, 65, 66, 69, 70, 73, 74, 76, 77, 80, 81]), ([64], [52, 53, 54, 55, 56, 57, 58, 59, 60, 61, 65, 66, 69, 70, 73, 74, 76, 77, 80, 81]), ([65], [52, 53, 54, 55, 56, 57, 58, 59, 60, 61, 62, 63, 64, 66, 69, 70, 73, 74, 76, 77, 80, 81]), ([66], [52, 53, 54, 55, 56, 57, 58, 59, 60, 61, 62, 63, 64, 65, 69, 70, 73, 74, 76, 77, 80, 81]), ([67], [52, 53, 54, 55, 56, 57, 58, 59, 60, 61, 69, 70, 73, 74, 76, 77, 80, 81]), ([68], [52, 53, 54, 55, 56, 57, 58, 59, 60, 61, 69, 70, 73, 74, 75, 76, 77, 78, 79, 80, 81, 82]), ([69], [52, 53, 54, 55, 56, 57, 58, 59, 60, 61, 62, 63, 64, 65, 66, 67, 68, 73, 74, 75, 76, 77, 78, 79, 80, 81, 82]), ([70], [52, 53, 54, 55, 56, 57, 58, 59, 60, 61, 62, 63, 64, 65, 66, 67, 68, 73, 74, 75, 76, 77, 78, 79, 80, 81, 82]), ([71], [52, 53, 54, 55, 56, 57, 58, 59, 60, 61, 73, 74, 75, 76, 77, 78, 79, 80, 81, 82]), ([72], [52, 73, 74, 75, 76, 77, 78, 79, 80, 81, 82]), ([73], [52, 53, 54, 55, 56, 57, 58, 59, 60, 61, 62, 63, 64, 65, 66, 67, 68, 69, 70, 71, 72, 74, 76, 77, 80, 81]), ([74], [52, 53, 54, 55, 56, 57, 58, 59, 60, 61, 62, 63, 64, 65, 66, 67, 68, 69, 70, 71, 72, 73, 76, 77, 80, 81]), ([75], [52, 53, 54, 55, 56, 57, 58, 59, 60, 61, 68, 69, 70, 71, 72, 76, 77, 80, 81]), ([76], [52, 53, 54, 55, 56, 57, 58, 59, 60, 61, 62, 63, 64, 65, 66, 67, 68, 69, 70, 71, 72, 73, 74, 75, 77, 80, 81]), ([77], [52, 53, 54, 55, 56, 57, 58, 59, 60, 61, 62, 63, 64, 65, 66, 67, 68, 69, 70, 71, 72, 73, 74, 75, 76, 80, 81]), ([78], [52, 53, 54, 55, 56, 57, 58, 59, 60, 61, 68, 69, 70, 71, 72, 80, 81]), ([79], [52, 53, 54, 55, 56, 57, 58, 59, 60, 61, 68, 69, 70, 71, 72, 80, 81]), ([80], [52, 53, 54, 55, 56, 57, 58, 59, 60, 61, 62, 63, 64, 65, 66, 67, 68, 69, 70, 71, 72, 73, 74, 75, 76, 77, 78, 79]), ([81], [52, 53, 54, 55, 56, 57, 58, 59, 60, 61, 62, 63, 64, 65, 66, 67, 68, 69, 70, 71, 72, 73, 74, 75, 76, 77, 78, 79]), ([82], [52, 53, 54, 55, 56, 57, 58, 59, 60, 61, 68, 69, 70, 71, 72]), ([83], [52]), ([84], []), ([6], [])] (by kernel_rfl) ?_
      refine CertK.vd (Y.move (up0 rfl rfl rfl) rfl rfl) rfl rfl ?_
      refine CertK.vd (Y.move (up0 rfl rfl rfl) rfl rfl) rfl rfl ?_
      refine CertK.vd (Y.subI (b := 16) (up0 rfl rfl rfl) rfl rfl rfl (by first | (with_reducible assumption) | omega | (simp only [lens, sblk_it1_l, sblk_it2_l, *]; first | done | omega) | decide | (split <;> simp only [lens, sblk_it1_l, sblk_it2_l, *]) | (with_reducible exact Lt.mono (by assumption) (by decide)) | (simp only [Cs.len]; done) | rfl) (by first | (with_reducible assumption) | omega | (simp only [lens, sblk_it1_l, sblk_it2_l, *]; first | done | omega) | decide | (split <;> simp only [lens, sblk_it1_l, sblk_it2_l, *]) | (with_reducible exact Lt.mono (by assumption) (by decide)) | (simp only [Cs.len]; done) | rfl)) rfl rfl ?_
      refine CertK.vd (Y.ia0 ty35 ty27 (up0 rfl rfl rfl) rfl rfl rfl (by first | (with_reducible assumption) | omega | (simp only [lens, sblk_it1_l, sblk_it2_l, *]; first | done | omega) | decide | (split <;> simp only [lens, sblk_it1_l, sblk_it2_l, *]) | (with_reducible exact Lt.mono (by assumption) (by decide)) | (simp only [Cs.len]; done) | rfl)) rfl rfl ?_
      refine CertK.vd (Y.ldI ty27 rfl (up0 rfl rfl rfl) rfl rfl rfl (by first | (with_reducible assumption) | omega | (simp only [lens, sblk_it1_l, sblk_it2_l, *]; first | done | omega) | decide | (split <;> simp only [lens, sblk_it1_l, sblk_it2_l, *]) | (with_reducible exact Lt.mono (by assumption) (by decide)) | (simp only [Cs.len]; done) | rfl)) rfl rfl ?_
      refine CertK.vd (Y.move (up0 rfl rfl rfl) rfl rfl) rfl rfl ?_
      refine CertK.vd (Y.subI (b := 7) (up0 rfl rfl rfl) rfl rfl rfl (by first | (with_reducible assumption) | omega | (simp only [lens, sblk_it1_l, sblk_it2_l, *]; first | done | omega) | decide | (split <;> simp only [lens, sblk_it1_l, sblk_it2_l, *]) | (with_reducible exact Lt.mono (by assumption) (by decide)) | (simp only [Cs.len]; done) | rfl) (by first | (with_reducible assumption) | omega | (simp only [lens, sblk_it1_l, sblk_it2_l, *]; first | done | omega) | decide | (split <;> simp only [lens, sblk_it1_l, sblk_it2_l, *]) | (with_reducible exact Lt.mono (by assumption) (by decide)) | (simp only [Cs.len]; done) | rfl)) rfl rfl ?_
      refine CertK.vd (Y.ia0 ty35 ty27 (up0 rfl rfl rfl) rfl rfl rfl (by first | (with_reducible assumption) | omega | (simp only [lens, sblk_it1_l, sblk_it2_l, *]; first | done | omega) | decide | (split <;> simp only [lens, sblk_it1_l, sblk_it2_l, *]) | (with_reducible exact Lt.mono (by assumption) (by decide)) | (simp only [Cs.len]; done) | rfl)) rfl rfl ?_
      refine CertK.vd (Y.ldI ty27 rfl (up0 rfl rfl rfl) rfl rfl rfl (by first | (with_reducible assumption) | omega | (simp only [lens, sblk_it1_l, sblk_it2_l, *]; first | done | omega) | decide | (split <;> simp only [lens, sblk_it1_l, sblk_it2_l, *]) | (with_reducible exact Lt.mono (by assumption) (by decide)) | (simp only [Cs.len]; done) | rfl)) rfl rfl ?_
      refine CertK.vd (Y.add u64s u64m (up0 rfl rfl rfl) rfl rfl rfl) rfl rfl ?_
      refine CertK.vd (Y.move (up0 rfl rfl rfl) rfl rfl) rfl rfl ?_
      refine CertK.vd (Y.move (up0 rfl rfl rfl) rfl rfl) rfl rfl ?_
      refine CertK.vd (Y.callV (w_sturn _ _ (by first | (with_reducible assumption) | omega | (simp only [lens, sblk_it1_l, sblk_it2_l, *]; first | done | omega) | decide | (split <;> simp only [lens, sblk_it1_l, sblk_it2_l, *]) | (with_reducible exact Lt.mono (by assumption) (by decide)) | (simp only [Cs.len]; done) | rfl)) fnok49 (up0 rfl rfl rfl) rfl rfl (.cons _ _ _ _ rfl (.cons _ _ (.one (.n .i64 1)) _ rfl .nil)) (.cons _ _ _ _ (.same _) (.cons _ _ _ _ (.same _) .nil)) rfl rfl) rfl rfl ?_
      refine CertK.vd (Y.move (up0 rfl rfl rfl) rfl rfl) rfl rfl ?_
      refine CertK.vd (Y.move (up0 rfl rfl rfl) rfl rfl) rfl rfl ?_
      refine CertK.vd (Y.callV (w_sturn _ _ (by first | (with_reducible assumption) | omega | (simp only [lens, sblk_it1_l, sblk_it2_l, *]; first | done | omega) | decide | (split <;> simp only [lens, sblk_it1_l, sblk_it2_l, *]) | (with_reducible exact Lt.mono (by assumption) (by decide)) | (simp only [Cs.len]; done) | rfl)) fnok49 (up0 rfl rfl rfl) rfl rfl (.cons _ _ _ _ rfl (.cons _ _ (.one (.n .i64 8)) _ rfl .nil)) (.cons _ _ _ _ (.same _) (.cons _ _ _ _ (.same _) .nil)) rfl rfl) rfl rfl ?_
      refine CertK.vd (Y.xor u64s u64m (up0 rfl rfl rfl) rfl rfl rfl) rfl rfl ?_
      refine CertK.vd (Y.move (up0 rfl rfl rfl) rfl rfl) rfl rfl ?_
      refine CertK.vd (Y.shr (b := 7) u64s u64m (up0 rfl rfl rfl) rfl rfl rfl) rfl rfl ?_
      refine CertK.vd (Y.xor u64s u64m (up0 rfl rfl rfl) rfl rfl rfl) rfl rfl ?_
      refine CertK.vd (Y.add u64s u64m (up0 rfl rfl rfl) rfl rfl rfl) rfl rfl ?_
      refine CertK.vd (Y.move (up0 rfl rfl rfl) rfl rfl) rfl rfl ?_
      refine CertK.vd (Y.move (up0 rfl rfl rfl) rfl rfl) rfl rfl ?_
      refine CertK.vd (Y.callV (w_sturn _ _ (by first | (with_reducible assumption) | omega | (simp only [lens, sblk_it1_l, sblk_it2_l, *]; first | done | omega) | decide | (split <;> simp only [lens, sblk_it1_l, sblk_it2_l, *]) | (with_reducible exact Lt.mono (by assumption) (by decide)) | (simp only [Cs.len]; done) | rfl)) fnok49 (up0 rfl rfl rfl) rfl rfl (.cons _ _ _ _ rfl (.cons _ _ (.one (.n .i64 19)) _ rfl .nil)) (.cons _ _ _ _ (.same _) (.cons _ _ _ _ (.same _) .nil)) rfl rfl) rfl rfl ?_
      refine CertK.vd (Y.move (up0 rfl rfl rfl) rfl rfl) rfl rfl ?_
      refine CertK.vd (Y.move (up0 rfl rfl rfl) rfl rfl) rfl rfl ?_
      refine CertK.vd (Y.callV (w_sturn _ _ (by first | (with_reducible assumption) | omega | (simp only [lens, sblk_it1_l, sblk_it2_l, *]; first | done | omega) | decide | (split <;> simp only [lens, sblk_it1_l, sblk_it2_l, *]) | (with_reducible exact Lt.mono (by assumption) (by decide)) | (simp only [Cs.len]; done) | rfl)) fnok49 (up0 rfl rfl rfl) rfl rfl (.cons _ _ _ _ rfl (.cons _ _ (.one (.n .i64 61)) _ rfl .nil)) (.cons _ _ _ _ (.same _) (.cons _ _ _ _ (.same _) .nil)) rfl rfl) rfl rfl ?_
      refine CertK.vd (Y.xor u64s u64m (up0 rfl rfl rfl) rfl rfl rfl) rfl rfl ?_
      refine CertK.vd (Y.move (up0 rfl rfl rfl) rfl rfl) rfl rfl ?_
      refine CertK.vd (Y.shr (b := 6) u64s u64m (up0 rfl rfl rfl) rfl rfl rfl) rfl rfl ?_
      refine CertK.vd (Y.xor u64s u64m (up0 rfl rfl rfl) rfl rfl rfl) rfl rfl ?_
      refine CertK.vd (Y.add u64s u64m (up0 rfl rfl rfl) rfl rfl rfl) rfl rfl ?_
      refine CertK.v (Y.ia0 ty35 ty27 (up0 rfl rfl rfl) rfl rfl rfl (by first | (with_reducible assumption) | omega | (simp only [lens, sblk_it1_l, sblk_it2_l, *]; first | done | omega) | decide | (split <;> simp only [lens, sblk_it1_l, sblk_it2_l, *]) | (with_reducible exact Lt.mono (by assumption) (by decide)) | (simp only [Cs.len]; done) | rfl)) rfl ?_
      refine CertK.n (Y.stI ty27 (upN rfl rfl) rfl rfl rfl rfl (by first | (with_reducible assumption) | omega | (simp only [lens, sblk_it1_l, sblk_it2_l, *]; first | done | omega) | decide | (split <;> simp only [lens, sblk_it1_l, sblk_it2_l, *]) | (with_reducible exact Lt.mono (by assumption) (by decide)) | (simp only [Cs.len]; done) | rfl)) rfl rfl rfl rfl ?_
      refine CertK.nil ?_
      refine Holds.reg ?_
      refine OpsFrom.v (Y.move (up0 rfl rfl rfl) rfl rfl) rfl ?_
      refine OpsFrom.v (Y.addI (b := 1) (up0 rfl rfl rfl) rfl rfl rfl (by first | (with_reducible assumption) | omega | (simp only [lens, sblk_it1_l, sblk_it2_l, *]; first | done | omega) | decide | (split <;> simp only [lens, sblk_it1_l, sblk_it2_l, *]) | (with_reducible exact Lt.mono (by assumption) (by decide)) | (simp only [Cs.len]; done) | rfl)) rfl ?_
      refine OpsFrom.v (Y.assign (up0 rfl rfl rfl) rfl rfl) rfl ?_
      refine OpsFrom.nil ?_
      exact Holds.again (i2_ + 1) (by omega) (by omega) [] ⟨⟨rfl, rfl, rfl, rfl, (nEq (by omega)), trivial⟩, ⟨rfl, rfl, (hEq (by rw [sblk_it2_s]; unfold sblk_s2; first | (dsimp only; done) | rfl)), trivial⟩, rfl, rfl⟩
    · obtain rfl : i2_ = 64 := by omega
      refine Holds.exit ?_
      refine Holds.seq ?_
      refine Holds.reg ?_
      refine OpsFrom.v (Y.move (up0 rfl rfl rfl) rfl rfl) rfl ?_
      refine OpsFrom.v (Y.nck (up0 rfl rfl rfl) rfl rfl) rfl ?_
      refine OpsFrom.v (Y.fa (f := 1) (fld := ⟨ "h", 28, 1, false, "", "fardel/sha", 8⟩) ty30 rfl ty28 (by decide) (up0 rfl rfl rfl) rfl rfl) rfl ?_
      refine OpsFrom.v (Y.ldH ty28 rfl (up0 rfl rfl rfl) rfl rfl rfl (by first | (with_reducible assumption) | omega | (simp only [lens, sblk_it1_l, sblk_it2_l, *]; first | done | omega) | decide | (split <;> simp only [lens, sblk_it1_l, sblk_it2_l, *]) | (with_reducible exact Lt.mono (by assumption) (by decide)) | (simp only [Cs.len]; done) | rfl)) rfl ?_
      refine OpsFrom.u (Y.alloc (d := 13) ty28 rfl rfl (up0 rfl rfl rfl) rfl) rfl rfl rfl ?_
      refine OpsFrom.n (Y.stR ty28 (upN rfl rfl) rfl rfl rfl rfl rfl (by first | (with_reducible assumption) | omega | (simp only [lens, sblk_it1_l, sblk_it2_l, *]; first | done | omega) | decide | (split <;> simp only [lens, sblk_it1_l, sblk_it2_l, *]) | (with_reducible exact Lt.mono (by assumption) (by decide)) | (simp only [Cs.len]; done) | rfl) (by first | (with_reducible assumption) | omega | (simp only [lens, sblk_it1_l, sblk_it2_l, *]; first | done | omega) | decide | (split <;> simp only [lens, sblk_it1_l, sblk_it2_l, *]) | (with_reducible exact Lt.mono (by assumption) (by decide)) | (simp only [Cs.len]; done) | rfl) (by decide)) rfl rfl ?_
      refine OpsFrom.nil ?_
      refine Holds.seq ?_
      refine Holds.seq ?_
      refine Holds.reg ?_
      refine OpsFrom.v (Y.move (v := (.one (.n .i64 0))) (up0 rfl rfl rfl) rfl rfl) rfl ?_
      refine OpsFrom.nil ?_
      refine Holds.block ?_
      refine Holds.loop (fun (i3_ : Nat) => ⟨[(0, .one (.p 1000 0)), (2, .one (.p 1001 0)), (6, .one (.p 6 0)), (9, .one (.fn 49 [])), (13, .one (.p 13 0)), (89, .one (.n .i64 i3_))], [(1000, .own (.mix (St.cells s))), (1001, .own (.ints .u64 k)), (6, .own (.ints .u64 (sblk_it2 b 64))), (13, .own (.ints .u64 (sblk_it3 b s k i3_)))]⟩) (fun (i3_ : Nat) => i3_ ≤ 80) (fun (i3_ : Nat) => 80 - i3_) 0 (by first | (with_reducible assumption) | omega | (simp only [lens, sblk_it1_l, sblk_it2_l, *]; first | done | omega) | decide | (split <;> simp only [lens, sblk_it1_l, sblk_it2_l, *]) | (with_reducible exact Lt.mono (by assumption) (by decide)) | (simp only [Cs.len]; done) | rfl) [] ⟨⟨rfl, rfl, rfl, rfl, rfl, rfl, trivial⟩, ⟨rfl, rfl, rfl, (hEq (congrArg (fun (s : List Nat) => s) (sblk_it3_z b s k)).symm), trivial⟩, rfl, rfl⟩ ?_
      intro i3_ k3_
      have hn3 := sblk_n3 l_s b k i3_
      refine Holds.seq ?_
      refine Holds.reg ?_
      refine OpsFrom.v (Y.lss (b := 80) (up0 rfl rfl rfl) rfl rfl rfl) rfl ?_
      refine OpsFrom.nil ?_
      refine Holds.seq ?_
      refine Holds.condD rfl (fun h90 => ?_) (fun h90 => ?_)
      · refine Holds.skip ?_
        refine Holds.seq ?_
        refine Holds.block ?_
        refine Holds.seq ?_
        refine Holds.reg ?_
        refine OpsFrom.v (Y.move (up0 rfl rfl rfl) rfl rfl) rfl ?_
        refine OpsFrom.v (Y.assign (up0 rfl rfl rfl) rfl rfl) rfl ?_
        refine OpsFrom.nil ?_
        refine Holds.seq ?_
        refine Holds.dr mx [([92], [94, 95]), ([93], [94, 95]), ([94], [92, 93, 15]), ([95], [92, 93, 15]), ([15], [94, 95]), ([16], [])] (by kernel_rfl) ?_
        refine CertK.vd (Y.ia0 (i := 0) ty28 ty27 (up0 rfl rfl rfl) rfl rfl rfl (by first | (with_reducible assumption) | omega | (simp only [lens, sblk_it1_l, sblk_it2_l, *]; first | done | omega) | decide | (split <;> simp only [lens, sblk_it1_l, sblk_it2_l, *]) | (with_reducible exact Lt.mono (by assumption) (by decide)) | (simp only [Cs.len]; done) | rfl)) rfl rfl ?_
        refine CertK.vd (Y.ldI ty27 rfl (up0 rfl rfl rfl) rfl rfl rfl (by first | (with_reducible assumption) | omega | (simp only [lens, sblk_it1_l, sblk_it2_l, *]; first | done | omega) | decide | (split <;> simp only [lens, sblk_it1_l, sblk_it2_l, *]) | (with_reducible exact Lt.mono (by assumption) (by decide)) | (simp only [Cs.len]; done) | rfl)) rfl rfl ?_
        refine CertK.vd (Y.ia0 (i := 4) ty28 ty27 (up0 rfl rfl rfl) rfl rfl rfl (by first | (with_reducible assumption) | omega | (simp only [lens, sblk_it1_l, sblk_it2_l, *]; first | done | omega) | decide | (split <;> simp only [lens, sblk_it1_l, sblk_it2_l, *]) | (with_reducible exact Lt.mono (by assumption) (by decide)) | (simp only [Cs.len]; done) | rfl)) rfl rfl ?_
        refine CertK.vd (Y.ldI ty27 rfl (up0 rfl rfl rfl) rfl rfl rfl (by first | (with_reducible assumption) | omega | (simp only [lens, sblk_it1_l, sblk_it2_l, *]; first | done | omega) | decide | (split <;> simp only [lens, sblk_it1_l, sblk_it2_l, *]) | (with_reducible exact Lt.mono (by assumption) (by decide)) | (simp only [Cs.len]; done) | rfl)) rfl rfl ?_
        refine CertK.vd (Y.assign (up0 rfl rfl rfl) rfl rfl) rfl rfl ?_
        refine CertK.v (Y.assign (up0 rfl rfl rfl) rfl rfl) rfl ?_
        refine CertK.nil ?_
        refine Holds.seq ?_
        refine Holds.dr mx [([96], [98, 99, 100, 101, 102, 103, 104, 105, 106, 107, 108, 110, 111, 112, 113, 114, 115, 116, 117, 118, 119, 121, 122, 123, 124, 125, 127, 128, 129]), ([97], [98, 99, 100, 101, 102, 103, 104, 105, 106, 107, 108, 110, 111, 112, 113, 114, 115, 116, 117, 118, 119, 121, 122, 123, 124, 125, 127, 128, 129]), ([98], [96, 97, 99, 101, 102, 105, 106, 110, 111, 112, 113, 114, 115, 116, 117, 118, 119, 121, 122, 123, 124, 125, 127, 128, 129]), ([99], [96, 97, 98, 101, 102, 105, 106, 110, 111, 112, 113, 114, 115, 116, 117, 118, 119, 121, 122, 123, 124, 125, 127, 128, 129]), ([100], [96, 97, 101, 102, 105, 106, 110, 111, 112, 113, 114, 115, 116, 117, 118, 119, 121, 122, 123, 124, 125, 127, 128, 129]), ([101], [96, 97, 98, 99, 100, 102, 105, 106, 110, 111, 112, 113, 114, 115, 116, 117, 118, 119, 121, 122, 123, 124, 125, 127, 128, 129]), ([102], [96, 97, 98, 99, 100, 101, 105, 106, 110, 111, 112, 113, 114, 115, 116, 117, 118, 119, 121, 122, 123, 124, 125, 127, 128, 129]), ([103], [96, 97, 105, 106, 110, 111, 112, 113, 114, 115, 116, 117, 118, 119, 121, 122, 123, 124, 125, 127, 128, 129]), ([104], [96, 97, 105, 106, 107, 110, 111, 112, 113, 114, 115, 116, 117, 118, 119, 121, 122, 123, 124, 125, 127, 128, 129]), ([105], [96, 97, 98, 99, 100, 101, 102, 103, 104, 106, 110, 111, 112, 113, 114, 115, 116, 117, 118, 119, 121, 122, 123, 124, 125, 127, 128, 129]), ([106], [96, 97, 98, 99, 100, 101, 102, 103, 104, 105, 110, 111, 112, 113, 114, 115, 116, 117, 118, 119, 121, 122, 123, 124, 125, 127, 128, 129]), ([107], [96, 97, 104, 110, 111, 112, 113, 114, 115, 116, 117, 118, 119, 121, 122, 123, 124, 125, 127, 128, 129]), ([108], [96, 97, 110, 111, 112, 113, 114, 115, 116, 117, 118, 119, 121, 122, 123, 124, 125, 127, 128, 129]), ([109], [110, 111, 112, 113, 114, 115, 116, 117, 118, 119, 121, 122, 123, 124, 125, 127, 128, 129]), ([110], [96, 97, 98, 99, 100, 101, 102, 103, 104, 105, 106, 107, 108, 109, 111, 112, 114, 115, 116, 117, 118, 121, 122, 123, 124, 125, 127, 128, 129]), ([111], [96, 97, 98, 99, 100, 101, 102, 103, 104, 105, 106, 107, 108, 109, 110, 114, 115, 116, 117, 118, 121, 122, 123, 124, 125, 127, 128, 129]), ([112], [96, 97, 98, 99, 100, 101, 102, 103, 104, 105, 106, 107, 108, 109, 110, 114, 115, 116, 117, 118, 121, 122, 123, 124, 125, 127, 128, 129]), ([113], [96, 97, 98, 99, 100, 101, 102, 103, 104, 105, 106, 107, 108, 109, 114, 115, 116, 117, 118, 121, 122, 123, 124, 125, 127, 128, 129]), ([114], [96, 97, 98, 99, 100, 101, 102, 103, 104, 105, 106, 107, 108, 109, 110, 111, 112, 113, 116, 117, 121, 122, 123, 124, 125, 127, 128, 129]), ([115], [96, 97, 98, 99, 100, 101, 102, 103, 104, 105, 106, 107, 108, 109, 110, 111, 112, 113, 116, 117, 121, 122, 123, 124, 125, 127, 128, 129]), ([116], [96, 97, 98, 99, 100, 101, 102, 103, 104, 105, 106, 107, 108, 109, 110, 111, 112, 113, 114, 115, 121, 122, 123, 124, 125, 127, 128, 129]), ([117], [96, 97, 98, 99, 100, 101, 102, 103, 104, 105, 106, 107, 108, 109, 110, 111, 112, 113, 114, 115, 121, 122, 123, 124, 125, 127, 128, 129]), ([118], [96, 97, 98, 99, 100, 101, 102, 103, 104, 105, 106, 107, 108, 109, 110, 111, 112, 113, 121, 122, 123, 124, 125, 127, 128, 129]), ([119], [96, 97, 98, 99, 100, 101, 102, 103, 104, 105, 106, 107, 108, 109, 121, 122, 123, 124, 125, 127, 128, 129]), ([120], [121, 122, 123, 124, 125, 127, 128, 129]), ([121], [96, 97, 98, 99, 100, 101, 102, 103, 104, 105, 106, 107, 108, 109, 110, 111, 112, 113, 114, 115, 116, 117, 118, 119, 120, 122, 127, 128, 129]), ([122], [96, 97, 98, 99, 100, 101, 102, 103, 104, 105, 106, 107, 108, 109, 110, 111, 112, 113, 114, 115, 116, 117, 118, 119, 120, 121, 123, 127, 128, 129]), ([123], [96, 97, 98, 99, 100, 101, 102, 103, 104, 105, 106, 107, 108, 109, 110, 111, 112, 113, 114, 115, 116, 117, 118, 119, 120, 122, 127, 128, 129]), ([124], [96, 97, 98, 99, 100, 101, 102, 103, 104, 105, 106, 107, 108, 109, 110, 111, 112, 113, 114, 115, 116, 117, 118, 119, 120, 127, 128, 129]), ([125], [96, 97, 98, 99, 100, 101, 102, 103, 104, 105, 106, 107, 108, 109, 110, 111, 112, 113, 114, 115, 116, 117, 118, 119, 120, 127, 128, 129]), ([126], [127, 128, 129]), ([127], [96, 97, 98, 99, 100, 101, 102, 103, 104, 105, 106, 107, 108, 109, 110, 111, 112, 113, 114, 115, 116, 117, 118, 119, 120, 121, 122, 123, 124, 125, 126]), ([128], [96, 97, 98, 99, 100, 101, 102, 103, 104, 105, 106, 107, 108, 109, 110, 111, 112, 113, 114, 115, 116, 117, 118, 119, 120, 121, 122, 123, 124, 125, 126]), ([129], [96, 97, 98, 99, 100, 101, 102, 103, 104, 105, 106, 107, 108, 109, 110, 111, 112, 113, 114, 115, 116, 117, 118, 119, 120, 121, 122, 123, 124, 125, 126]), ([130], []), ([17], [])] (by kernel_rfl) ?_
        refine CertK.vd (Y.ia0 (i := 7) ty28 ty27 (up0 rfl rfl rfl) rfl rfl rfl (by first | (with_reducible assumption) | omega | (simp only [lens, sblk_it1_l, sblk_it2_l, *]; first | done | omega) | decide | (split <;> simp only [lens, sblk_it1_l, sblk_it2_l, *]) | (with_reducible exact Lt.mono (by assumption) (by decide)) | (simp only [Cs.len]; done) | rfl)) rfl rfl ?_
        refine CertK.vd (Y.ldI ty27 rfl (up0 rfl rfl rfl) rfl rfl rfl (by first | (with_reducible assumption) | omega | (simp only [lens, sblk_it1_l, sblk_it2_l, *]; first | done | omega) | decide | (split <;> simp only [lens, sblk_it1_l, sblk_it2_l, *]) | (with_reducible exact Lt.mono (by assumption) (by decide)) | (simp only [Cs.len]; done) | rfl)) rfl rfl ?_
        refine CertK.vd (Y.move (up0 rfl rfl rfl) rfl rfl) rfl rfl ?_
        refine CertK.vd (Y.move (up0 rfl rfl rfl) rfl rfl) rfl rfl ?_
        refine CertK.vd (Y.callV (w_sturn _ _ (by first | (with_reducible assumption) | omega | (simp only [lens, sblk_it1_l, sblk_it2_l, *]; first | done | omega) | decide | (split <;> simp only [lens, sblk_it1_l, sblk_it2_l, *]) | (with_reducible exact Lt.mono (by assumption) (by decide)) | (simp only [Cs.len]; done) | rfl)) fnok49 (up0 rfl rfl rfl) rfl rfl (.cons _ _ _ _ rfl (.cons _ _ (.one (.n .i64 14)) _ rfl .nil)) (.cons _ _ _ _ (.same _) (.cons _ _ _ _ (.same _) .nil)) rfl rfl) rfl rfl ?_
        refine CertK.vd (Y.move (up0 rfl rfl rfl) rfl rfl) rfl rfl ?_
        refine CertK.vd (Y.move (up0 rfl rfl rfl) rfl rfl) rfl rfl ?_
        refine CertK.vd (Y.callV (w_sturn _ _ (by first | (with_reducible assumption) | omega | (simp only [lens, sblk_it1_l, sblk_it2_l, *]; first | done | omega) | decide | (split <;> simp only [lens, sblk_it1_l, sblk_it2_l, *]) | (with_reducible exact Lt.mono (by assumption) (by decide)) | (simp only [Cs.len]; done) | rfl)) fnok49 (up0 rfl rfl rfl) rfl rfl (.cons _ _ _ _ rfl (.cons _ _ (.one (.n .i64 18)) _ rfl .nil)) (.cons _ _ _ _ (.same _) (.cons _ _ _ _ (.same _) .nil)) rfl rfl) rfl rfl ?_
        refine CertK.vd (Y.xor u64s u64m (up0 rfl rfl rfl) rfl rfl rfl) rfl rfl ?_
        refine CertK.vd (Y.move (up0 rfl rfl rfl) rfl rfl) rfl rfl ?_
        refine CertK.vd (Y.move (up0 rfl rfl rfl) rfl rfl) rfl rfl ?_
        refine CertK.vd (Y.callV (w_sturn _ _ (by first | (with_reducible assumption) | omega | (simp only [lens, sblk_it1_l, sblk_it2_l, *]; first | done | omega) | decide | (split <;> simp only [lens, sblk_it1_l, sblk_it2_l, *]) | (with_reducible exact Lt.mono (by assumption) (by decide)) | (simp only [Cs.len]; done) | rfl)) fnok49 (up0 rfl rfl rfl) rfl rfl (.cons _ _ _ _ rfl (.cons _ _ (.one (.n .i64 41)) _ rfl .nil)) (.cons _ _ _ _ (.same _) (.cons _ _ _ _ (.same _) .nil)) rfl rfl) rfl rfl ?_
        refine CertK.vd (Y.xor u64s u64m (up0 rfl rfl rfl) rfl rfl rfl) rfl rfl ?_
        refine CertK.vd (Y.add u64s u64m (up0 rfl rfl rfl) rfl rfl rfl) rfl rfl ?_
        refine CertK.vd (Y.move (up0 rfl rfl rfl) rfl rfl) rfl rfl ?_
        refine CertK.vd (Y.ia0 (i := 5) ty28 ty27 (up0 rfl rfl rfl) rfl rfl rfl (by first | (with_reducible assumption) | omega | (simp only [lens, sblk_it1_l, sblk_it2_l, *]; first | done | omega) | decide | (split <;> simp only [lens, sblk_it1_l, sblk_it2_l, *]) | (with_reducible exact Lt.mono (by assumption) (by decide)) | (simp only [Cs.len]; done) | rfl)) rfl rfl ?_
        refine CertK.vd (Y.ldI ty27 rfl (up0 rfl rfl rfl) rfl rfl rfl (by first | (with_reducible assumption) | omega | (simp only [lens, sblk_it1_l, sblk_it2_l, *]; first | done | omega) | decide | (split <;> simp only [lens, sblk_it1_l, sblk_it2_l, *]) | (with_reducible exact Lt.mono (by assumption) (by decide)) | (simp only [Cs.len]; done) | rfl)) rfl rfl ?_
        refine CertK.vd (Y.and u64s u64m (up0 rfl rfl rfl) rfl rfl rfl) rfl rfl ?_
        refine CertK.vd (Y.move (up0 rfl rfl rfl) rfl rfl) rfl rfl ?_
        refine CertK.vd (Y.compl u64s u64m (up0 rfl rfl rfl) rfl rfl) rfl rfl ?_
        refine CertK.vd (Y.ia0 (i := 6) ty28 ty27 (up0 rfl rfl rfl) rfl rfl rfl (by first | (with_reducible assumption) | omega | (simp only [lens, sblk_it1_l, sblk_it2_l, *]; first | done | omega) | decide | (split <;> simp only [lens, sblk_it1_l, sblk_it2_l, *]) | (with_reducible exact Lt.mono (by assumption) (by decide)) | (simp only [Cs.len]; done) | rfl)) rfl rfl ?_
        refine CertK.vd (Y.ldI ty27 rfl (up0 rfl rfl rfl) rfl rfl rfl (by first | (with_reducible assumption) | omega | (simp only [lens, sblk_it1_l, sblk_it2_l, *]; first | done | omega) | decide | (split <;> simp only [lens, sblk_it1_l, sblk_it2_l, *]) | (with_reducible exact Lt.mono (by assumption) (by decide)) | (simp only [Cs.len]; done) | rfl)) rfl rfl ?_
        refine CertK.vd (Y.and u64s u64m (up0 rfl rfl rfl) rfl rfl rfl) rfl rfl ?_
        refine CertK.vd (Y.xor u64s u64m (up0 rfl rfl rfl) rfl rfl rfl) rfl rfl ?_
        refine CertK.vd (Y.add u64s u64m (up0 rfl rfl rfl) rfl rfl rfl) rfl rfl ?_
        refine CertK.vd (Y.move (up0 rfl rfl rfl) rfl rfl) rfl rfl ?_
        refine CertK.vd (Y.move (up0 rfl rfl rfl) rfl rfl) rfl rfl ?_
        refine CertK.vd (Y.nck (up0 rfl rfl rfl) rfl rfl) rfl rfl ?_
        refine CertK.vd (Y.ia0 ty35 ty27 (up0 rfl rfl rfl) rfl rfl rfl (by first | (with_reducible assumption) | omega | (simp only [lens, sblk_it1_l, sblk_it2_l, *]; first | done | omega) | decide | (split <;> simp only [lens, sblk_it1_l, sblk_it2_l, *]) | (with_reducible exact Lt.mono (by assumption) (by decide)) | (simp only [Cs.len]; done) | rfl)) rfl rfl ?_
        refine CertK.vd (Y.ldI ty27 rfl (up0 rfl rfl rfl) rfl rfl rfl (by first | (with_reducible assumption) | omega | (simp only [lens, sblk_it1_l, sblk_it2_l, *]; first | done | omega) | decide | (split <;> simp only [lens, sblk_it1_l, sblk_it2_l, *]) | (with_reducible exact Lt.mono (by assumption) (by decide)) | (simp only [Cs.len]; done) | rfl)) rfl rfl ?_
        refine CertK.vd (Y.add u64s u64m (up0 rfl rfl rfl) rfl rfl rfl) rfl rfl ?_
        refine CertK.vd (Y.move (up0 rfl rfl rfl) rfl rfl) rfl rfl ?_
        refine CertK.vd (Y.ia0 ty35 ty27 (up0 rfl rfl rfl) rfl rfl rfl (by first | (with_reducible assumption) | omega | (simp only [lens, sblk_it1_l, sblk_it2_l, *]; first | done | omega) | decide | (split <;> simp only [lens, sblk_it1_l, sblk_it2_l, *]) | (with_reducible exact Lt.mono (by assumption) (by decide)) | (simp only [Cs.len]; done) | rfl)) rfl rfl ?_
        refine CertK.vd (Y.ldI ty27 rfl (up0 rfl rfl rfl) rfl rfl rfl (by first | (with_reducible assumption) | omega | (simp only [lens, sblk_it1_l, sblk_it2_l, *]; first | done | omega) | decide | (split <;> simp only [lens, sblk_it1_l, sblk_it2_l, *]) | (with_reducible exact Lt.mono (by assumption) (by decide)) | (simp only [Cs.len]; done) | rfl)) rfl rfl ?_
        refine CertK.v (Y.add u64s u64m (up0 rfl rfl rfl) rfl rfl rfl) rfl ?_
        refine CertK.v (Y.assign (up0 rfl rfl rfl) rfl rfl) rfl ?_
        refine CertK.nil ?_
        refine Holds.seq ?_
        refine Holds.dr mx [([131], [132, 134, 135, 138, 139, 142, 143, 144, 145, 146, 147, 148, 149, 150, 151, 152, 153, 154, 155, 156]), ([132], [131, 134, 135, 138, 139, 142, 143, 144, 145, 146, 147, 148, 149, 150, 151, 152, 153, 154, 155, 156]), ([133], [134, 135, 138, 139, 142, 143, 144, 145, 146, 147, 148, 149, 150, 151, 152, 153, 154, 155, 156]), ([134], [131, 132, 133, 135, 138, 139, 142, 143, 144, 145, 146, 147, 148, 149, 150, 151, 152, 153, 154, 155, 156]), ([135], [131, 132, 133, 134, 138, 139, 142, 143, 144, 145, 146, 147, 148, 149, 150, 151, 152, 153, 154, 155, 156]), ([136], [138, 139, 142, 143, 144, 145, 146, 147, 148, 149, 150, 151, 152, 153, 154, 155, 156]), ([137], [138, 139, 140, 142, 143, 144, 145, 146, 147, 148, 149, 150, 151, 152, 153, 154, 155, 156]), ([138], [131, 132, 133, 134, 135, 136, 137, 139, 142, 143, 144, 145, 146, 147, 148, 149, 150, 151, 152, 153, 154, 155, 156]), ([139], [131, 132, 133, 134, 135, 136, 137, 138, 142, 143, 144, 145, 146, 147, 148, 149, 150, 151, 152, 153, 154, 155, 156]), ([140], [137, 142, 143, 144, 145, 146, 147, 148, 149, 150, 151, 152, 153, 154, 155, 156]), ([141], [142, 143, 144, 145, 146, 147, 148, 149, 150, 151, 152, 153, 154, 155, 156]), ([142], [131, 132, 133, 134, 135, 136, 137, 138, 139, 140, 141, 143, 144, 146, 147, 148, 149, 151, 152, 153, 154, 155]), ([143], [131, 132, 133, 134, 135, 136, 137, 138, 139, 140, 141, 142, 146, 147, 148, 149, 151, 152, 153, 154, 155]), ([144], [131, 132, 133, 134, 135, 136, 137, 138, 139, 140, 141, 142, 146, 147, 148, 149, 151, 152, 153, 154, 155]), ([145], [131, 132, 133, 134, 135, 136, 137, 138, 139, 140, 141, 146, 147, 148, 149, 151, 152, 153, 154, 155]), ([146], [131, 132, 133, 134, 135, 136, 137, 138, 139, 140, 141, 142, 143, 144, 145, 147, 148, 151, 152, 153, 154, 155]), ([147], [131, 132, 133, 134, 135, 136, 137, 138, 139, 140, 141, 142, 143, 144, 145, 146, 151, 152, 153, 154, 155]), ([148], [131, 132, 133, 134, 135, 136, 137, 138, 139, 140, 141, 142, 143, 144, 145, 146, 151, 152, 153, 154, 155]), ([149], [131, 132, 133, 134, 135, 136, 137, 138, 139, 140, 141, 142, 143, 144, 145, 151, 152, 153, 154, 155]), ([150], [131, 132, 133, 134, 135, 136, 137, 138, 139, 140, 141, 151, 152, 153, 154, 155]), ([151], [131, 132, 133, 134, 135, 136, 137, 138, 139, 140, 141, 142, 143, 144, 145, 146, 147, 148, 149, 150, 153, 154]), ([152], [131, 132, 133, 134, 135, 136, 137, 138, 139, 140, 141, 142, 143, 144, 145, 146, 147, 148, 149, 150, 153, 154]), ([153], [131, 132, 133, 134, 135, 136, 137, 138, 139, 140, 141, 142, 143, 144, 145, 146, 147, 148, 149, 150, 151, 152]), ([154], [131, 132, 133, 134, 135, 136, 137, 138, 139, 140, 141, 142, 143, 144, 145, 146, 147, 148, 149, 150, 151, 152]), ([155], [131, 132, 133, 134, 135, 136, 137, 138, 139, 140, 141, 142, 143, 144, 145, 146, 147, 148, 149, 150]), ([156], [131, 132, 133, 134, 135, 136, 137, 138, 139, 140, 141]), ([157], []), ([18], [])] (by kernel_rfl) ?_
        refine CertK.vd (Y.move (up0 rfl rfl rfl) rfl rfl) rfl rfl ?_
        refine CertK.vd (Y.move (up0 rfl rfl rfl) rfl rfl) rfl rfl ?_
        refine CertK.vd (Y.callV (w_sturn _ _ (by first | (with_reducible assumption) | omega | (simp only [lens, sblk_it1_l, sblk_it2_l, *]; first | done | omega) | decide | (split <;> simp only [lens, sblk_it1_l, sblk_it2_l, *]) | (with_reducible exact Lt.mono (by assumption) (by decide)) | (simp only [Cs.len]; done) | rfl)) fnok49 (up0 rfl rfl rfl) rfl rfl (.cons _ _ _ _ rfl (.cons _ _ (.one (.n .i64 28)) _ rfl .nil)) (.cons _ _ _ _ (.same _) (.cons _ _ _ _ (.same _) .nil)) rfl rfl) rfl rfl ?_
        refine CertK.vd (Y.move (up0 rfl rfl rfl) rfl rfl) rfl rfl ?_
        refine CertK.vd (Y.move (up0 rfl rfl rfl) rfl rfl) rfl rfl ?_
        refine CertK.vd (Y.callV (w_sturn _ _ (by first | (with_reducible assumption) | omega | (simp only [lens, sblk_it1_l, sblk_it2_l, *]; first | done | omega) | decide | (split <;> simp only [lens, sblk_it1_l, sblk_it2_l, *]) | (with_reducible exact Lt.mono (by assumption) (by decide)) | (simp only [Cs.len]; done) | rfl)) fnok49 (up0 rfl rfl rfl) rfl rfl (.cons _ _ _ _ rfl (.cons _ _ (.one (.n .i64 34)) _ rfl .nil)) (.cons _ _ _ _ (.same _) (.cons _ _ _ _ (.same _) .nil)) rfl rfl) rfl rfl ?_
        refine CertK.vd (Y.xor u64s u64m (up0 rfl rfl rfl) rfl rfl rfl) rfl rfl ?_
        refine CertK.vd (Y.move (up0 rfl rfl rfl) rfl rfl) rfl rfl ?_
        refine CertK.vd (Y.move (up0 rfl rfl rfl) rfl rfl) rfl rfl ?_
        refine CertK.vd (Y.callV (w_sturn _ _ (by first | (with_reducible assumption) | omega | (simp only [lens, sblk_it1_l, sblk_it2_l, *]; first | done | omega) | decide | (split <;> simp only [lens, sblk_it1_l, sblk_it2_l, *]) | (with_reducible exact Lt.mono (by assumption) (by decide)) | (simp only [Cs.len]; done) | rfl)) fnok49 (up0 rfl rfl rfl) rfl rfl (.cons _ _ _ _ rfl (.cons _ _ (.one (.n .i64 39)) _ rfl .nil)) (.cons _ _ _ _ (.same _) (.cons _ _ _ _ (.same _) .nil)) rfl rfl) rfl rfl ?_
        refine CertK.vd (Y.xor u64s u64m (up0 rfl rfl rfl) rfl rfl rfl) rfl rfl ?_
        refine CertK.vd (Y.move (up0 rfl rfl rfl) rfl rfl) rfl rfl ?_
        refine CertK.vd (Y.ia0 (i := 1) ty28 ty27 (up0 rfl rfl rfl) rfl rfl rfl (by first | (with_reducible assumption) | omega | (simp only [lens, sblk_it1_l, sblk_it2_l, *]; first | done | omega) | decide | (split <;> simp only [lens, sblk_it1_l, sblk_it2_l, *]) | (with_reducible exact Lt.mono (by assumption) (by decide)) | (simp only [Cs.len]; done) | rfl)) rfl rfl ?_
        refine CertK.vd (Y.ldI ty27 rfl (up0 rfl rfl rfl) rfl rfl rfl (by first | (with_reducible assumption) | omega | (simp only [lens, sblk_it1_l, sblk_it2_l, *]; first | done | omega) | decide | (split <;> simp only [lens, sblk_it1_l, sblk_it2_l, *]) | (with_reducible exact Lt.mono (by assumption) (by decide)) | (simp only [Cs.len]; done) | rfl)) rfl rfl ?_
        refine CertK.vd (Y.and u64s u64m (up0 rfl rfl rfl) rfl rfl rfl) rfl rfl ?_
        refine CertK.vd (Y.move (up0 rfl rfl rfl) rfl rfl) rfl rfl ?_
        refine CertK.vd (Y.ia0 (i := 2) ty28 ty27 (up0 rfl rfl rfl) rfl rfl rfl (by first | (with_reducible assumption) | omega | (simp only [lens, sblk_it1_l, sblk_it2_l, *]; first | done | omega) | decide | (split <;> simp only [lens, sblk_it1_l, sblk_it2_l, *]) | (with_reducible exact Lt.mono (by assumption) (by decide)) | (simp only [Cs.len]; done) | rfl)) rfl rfl ?_
        refine CertK.vd (Y.ldI ty27 rfl (up0 rfl rfl rfl) rfl rfl rfl (by first | (with_reducible assumption) | omega | (simp only [lens, sblk_it1_l, sblk_it2_l, *]; first | done | omega) | decide | (split <;> simp only [lens, sblk_it1_l, sblk_it2_l, *]) | (with_reducible exact Lt.mono (by assumption) (by decide)) | (simp only [Cs.len]; done) | rfl)) rfl rfl ?_
        refine CertK.vd (Y.and u64s u64m (up0 rfl rfl rfl) rfl rfl rfl) rfl rfl ?_
        refine CertK.vd (Y.xor u64s u64m (up0 rfl rfl rfl) rfl rfl rfl) rfl rfl ?_
        refine CertK.vd (Y.ia0 (i := 1) ty28 ty27 (up0 rfl rfl rfl) rfl rfl rfl (by first | (with_reducible assumption) | omega | (simp only [lens, sblk_it1_l, sblk_it2_l, *]; first | done | omega) | decide | (split <;> simp only [lens, sblk_it1_l, sblk_it2_l, *]) | (with_reducible exact Lt.mono (by assumption) (by decide)) | (simp only [Cs.len]; done) | rfl)) rfl rfl ?_
        refine CertK.vd (Y.ldI ty27 rfl (up0 rfl rfl rfl) rfl rfl rfl (by first | (with_reducible assumption) | omega | (simp only [lens, sblk_it1_l, sblk_it2_l, *]; first | done | omega) | decide | (split <;> simp only [lens, sblk_it1_l, sblk_it2_l, *]) | (with_reducible exact Lt.mono (by assumption) (by decide)) | (simp only [Cs.len]; done) | rfl)) rfl rfl ?_
        refine CertK.vd (Y.ia0 (i := 2) ty28 ty27 (up0 rfl rfl rfl) rfl rfl rfl (by first | (with_reducible assumption) | omega | (simp only [lens, sblk_it1_l, sblk_it2_l, *]; first | done | omega) | decide | (split <;> simp only [lens, sblk_it1_l, sblk_it2_l, *]) | (with_reducible exact Lt.mono (by assumption) (by decide)) | (simp only [Cs.len]; done) | rfl)) rfl rfl ?_
        refine CertK.vd (Y.ldI ty27 rfl (up0 rfl rfl rfl) rfl rfl rfl (by first | (with_reducible assumption) | omega | (simp only [lens, sblk_it1_l, sblk_it2_l, *]; first | done | omega) | decide | (split <;> simp only [lens, sblk_it1_l, sblk_it2_l, *]) | (with_reducible exact Lt.mono (by assumption) (by decide)) | (simp only [Cs.len]; done) | rfl)) rfl rfl ?_
        refine CertK.vd (Y.and u64s u64m (up0 rfl rfl rfl) rfl rfl rfl) rfl rfl ?_
        refine CertK.vd (Y.xor u64s u64m (up0 rfl rfl rfl) rfl rfl rfl) rfl rfl ?_
        refine CertK.v (Y.add u64s u64m (up0 rfl rfl rfl) rfl rfl rfl) rfl ?_
        refine CertK.v (Y.assign (up0 rfl rfl rfl) rfl rfl) rfl ?_
        refine CertK.nil ?_
        refine Holds.reg ?_
        refine OpsFrom.v (Y.move (up0 rfl rfl rfl) rfl rfl) rfl ?_
        refine OpsFrom.v (Y.move (up0 rfl rfl rfl) rfl rfl) rfl ?_
        refine OpsFrom.v (Y.add u64s u64m (up0 rfl rfl rfl) rfl rfl rfl) rfl ?_
        refine OpsFrom.v (Y.move (up0 rfl rfl rfl) rfl rfl) rfl ?_
        refine OpsFrom.v (Y.ia0 (i := 1) ty28 ty27 (up0 rfl rfl rfl) rfl rfl rfl (by first | (with_reducible assumption) | omega | (simp only [lens, sblk_it1_l, sblk_it2_l, *]; first | done | omega) | decide | (split <;> simp only [lens, sblk_it1_l, sblk_it2_l, *]) | (with_reducible exact Lt.mono (by assumption) (by decide)) | (simp only [Cs.len]; done) | rfl)) rfl ?_
        refine OpsFrom.v (Y.ldI ty27 rfl (up0 rfl rfl rfl) rfl rfl rfl (by first | (with_reducible assumption) | omega | (simp only [lens, sblk_it1_l, sblk_it2_l, *]; first | done | omega) | decide | (split <;> simp only [lens, sblk_it1_l, sblk_it2_l, *]) | (with_reducible exact Lt.mono (by assumption) (by decide)) | (simp only [Cs.len]; done) | rfl)) rfl ?_
        refine OpsFrom.v (Y.ia0 (i := 2) ty28 ty27 (up0 rfl rfl rfl) rfl rfl rfl (by first | (with_reducible assumption) | omega | (simp only [lens, sblk_it1_l, sblk_it2_l, *]; first | done | omega) | decide | (split <;> simp only [lens, sblk_it1_l, sblk_it2_l, *]) | (with_reducible exact Lt.mono (by assumption) (by decide)) | (simp only [Cs.len]; done) | rfl)) rfl ?_
        refine OpsFrom.v (Y.ldI ty27 rfl (up0 rfl rfl rfl) rfl rfl rfl (by first | (with_reducible assumption) | omega | (simp only [lens, sblk_it1_l, sblk_it2_l, *]; first | done | omega) | decide | (split <;> simp only [lens, sblk_it1_l, sblk_it2_l, *]) | (with_reducible exact Lt.mono (by assumption) (by decide)) | (simp only [Cs.len]; done) | rfl)) rfl ?_
        refine OpsFrom.v (Y.ia0 (i := 3) ty28 ty27 (up0 rfl rfl rfl) rfl rfl rfl (by first | (with_reducible assumption) | omega | (simp only [lens, sblk_it1_l, sblk_it2_l, *]; first | done | omega) | decide | (split <;> simp only [lens, sblk_it1_l, sblk_it2_l, *]) | (with_reducible exact Lt.mono (by assumption) (by decide)) | (simp only [Cs.len]; done) | rfl)) rfl ?_
        refine OpsFrom.v (Y.ldI ty27 rfl (up0 rfl rfl rfl) rfl rfl rfl (by first | (with_reducible assumption) | omega | (simp only [lens, sblk_it1_l, sblk_it2_l, *]; first | done | omega) | decide | (split <;> simp only [lens, sblk_it1_l, sblk_it2_l, *]) | (with_reducible exact Lt.mono (by assumption) (by decide)) | (simp only [Cs.len]; done) | rfl)) rfl ?_
        refine OpsFrom.v (Y.move (up0 rfl rfl rfl) rfl rfl) rfl ?_
        refine OpsFrom.v (Y.add u64s u64m (up0 rfl rfl rfl) rfl rfl rfl) rfl ?_
        refine OpsFrom.v (Y.move (up0 rfl rfl rfl) rfl rfl) rfl ?_
        refine OpsFrom.v (Y.ia0 (i := 5) ty28 ty27 (up0 rfl rfl rfl) rfl rfl rfl (by first | (with_reducible assumption) | omega | (simp only [lens, sblk_it1_l, sblk_it2_l, *]; first | done | omega) | decide | (split <;> simp only [lens, sblk_it1_l, sblk_it2_l, *]) | (with_reducible exact Lt.mono (by assumption) (by decide)) | (simp only [Cs.len]; done) | rfl)) rfl ?_
        refine OpsFrom.v (Y.ldI ty27 rfl (up0 rfl rfl rfl) rfl rfl rfl (by first | (with_reducible assumption) | omega | (simp only [lens, sblk_it1_l, sblk_it2_l, *]; first | done | omega) | decide | (split <;> simp only [lens, sblk_it1_l, sblk_it2_l, *]) | (with_reducible exact Lt.mono (by assumption) (by decide)) | (simp only [Cs.len]; done) | rfl)) rfl ?_
        refine OpsFrom.v (Y.ia0 (i := 6) ty28 ty27 (up0 rfl rfl rfl) rfl rfl rfl (by first | (with_reducible assumption) | omega | (simp only [lens, sblk_it1_l, sblk_it2_l, *]; first | done | omega) | decide | (split <;> simp only [lens, sblk_it1_l, sblk_it2_l, *]) | (with_reducible exact Lt.mono (by assumption) (by decide)) | (simp only [Cs.len]; done) | rfl)) rfl ?_
        refine OpsFrom.v (Y.ldI ty27 rfl (up0 rfl rfl rfl) rfl rfl rfl (by first | (with_reducible assumption) | omega | (simp only [lens, sblk_it1_l, sblk_it2_l, *]; first | done | omega) | decide | (split <;> simp only [lens, sblk_it1_l, sblk_it2_l, *]) | (with_reducible exact Lt.mono (by assumption) (by decide)) | (simp only [Cs.len]; done) | rfl)) rfl ?_
        refine OpsFrom.v (Y.buildA ty28 ty27 rfl (up0 rfl rfl rfl) rfl (.cons _ _ _ _ _ _ _ _ _ rfl rfl rfl rfl (Spl.n (by first | decide | (simp; done))) (.cons _ _ _ _ _ _ _ _ _ rfl rfl rfl rfl (Spl.n (by first | decide | (simp; done))) (.cons _ _ _ _ _ _ _ _ _ rfl rfl rfl rfl (Spl.n (by first | decide | (simp; done))) (.cons _ _ _ _ _ _ _ _ _ rfl rfl rfl rfl (Spl.n (by first | decide | (simp; done))) (.cons _ _ _ _ _ _ _ _ _ rfl rfl rfl rfl (Spl.n (by first | decide | (simp; done))) (.cons _ _ _ _ _ _ _ _ _ rfl rfl rfl rfl (Spl.n (by first | decide | (simp; done))) (.cons _ _ _ _ _ _ _ _ _ rfl rfl rfl rfl (Spl.n (by first | decide | (simp; done))) (.cons _ _ _ _ _ _ _ _ _ rfl rfl rfl rfl (Spl.n (by first | decide | (simp; done))) (.nil _)))))))))) rfl ?_
        refine OpsFrom.n (Y.stR ty28 (upN rfl rfl) rfl rfl rfl rfl rfl (by first | (with_reducible assumption) | omega | (simp only [lens, sblk_it1_l, sblk_it2_l, *]; first | done | omega) | decide | (split <;> simp only [lens, sblk_it1_l, sblk_it2_l, *]) | (with_reducible exact Lt.mono (by assumption) (by decide)) | (simp only [Cs.len]; done) | rfl) (by first | (with_reducible assumption) | omega | (simp only [lens, sblk_it1_l, sblk_it2_l, *]; first | done | omega) | decide | (split <;> simp only [lens, sblk_it1_l, sblk_it2_l, *]) | (with_reducible exact Lt.mono (by assumption) (by decide)) | (simp only [Cs.len]; done) | rfl) (by decide)) rfl rfl ?_
        refine OpsFrom.nil ?_
        refine Holds.reg ?_
        refine OpsFrom.v (Y.addI (b := 1) (up0 rfl rfl rfl) rfl rfl rfl (by first | (with_reducible assumption) | omega | (simp only [lens, sblk_it1_l, sblk_it2_l, *]; first | done | omega) | decide | (split <;> simp only [lens, sblk_it1_l, sblk_it2_l, *]) | (with_reducible exact Lt.mono (by assumption) (by decide)) | (simp only [Cs.len]; done) | rfl)) rfl ?_
        refine OpsFrom.v (Y.move (up0 rfl rfl rfl) rfl rfl) rfl ?_
        refine OpsFrom.nil ?_
        exact Holds.again (i3_ + 1) (by omega) (by omega) [] ⟨⟨rfl, rfl, rfl, rfl, rfl, (nEq (by omega)), trivial⟩, ⟨rfl, rfl, rfl, (hEq (by rw [sblk_it3_s]; unfold sblk_s3; first | (dsimp only; done) | rfl)), trivial⟩, rfl, rfl⟩
      · obtain rfl : i3_ = 80 := by omega
        have hn3 := sblk_n3 l_s b k 80
        refine Holds.exit ?_
        refine Holds.seq ?_
        refine Holds.reg ?_
        refine OpsFrom.v (Y.ldAll ty28 rfl (up0 rfl rfl rfl) rfl rfl rfl (by first | (with_reducible assumption) | omega | (simp only [lens, sblk_it1_l, sblk_it2_l, *]; first | done | omega) | decide | (split <;> simp only [lens, sblk_it1_l, sblk_it2_l, *]) | (with_reducible exact Lt.mono (by assumption) (by decide)) | (simp only [Cs.len]; done) | rfl) (by decide)) rfl ?_
        refine OpsFrom.v (Y.move (v := (.one (.n .i64 0))) (up0 rfl rfl rfl) rfl rfl) rfl ?_
        refine OpsFrom.nil ?_
        refine Holds.block ?_
        refine Holds.loop (fun (i4_ : Nat) => ⟨[(0, .one (.p 1000 0)), (177, .row (.ints .u64 (sblk_it3 b s k 80))), (178, .one (.n .i64 i4_))], [(1000, .own (.mix (St.cells (sblk_it4 b s k i4_)))), (1001, .own (.ints .u64 k))]⟩) (fun (i4_ : Nat) => i4_ ≤ 8) (fun (i4_ : Nat) => 8 - i4_) 0 (by first | (with_reducible assumption) | omega | (simp only [lens, sblk_it1_l, sblk_it2_l, *]; first | done | omega) | decide | (split <;> simp only [lens, sblk_it1_l, sblk_it2_l, *]) | (with_reducible exact Lt.mono (by assumption) (by decide)) | (simp only [Cs.len]; done) | rfl) [] ⟨⟨rfl, rfl, rfl, trivial⟩, ⟨(stEq (congrArg (fun (s : St) => s) (sblk_it4_z b s k)).symm), rfl, trivial⟩, rfl, rfl⟩ ?_
        intro i4_ k4_
        have hn4 := (sblk_n4 s b k i4_).trans l_s
        refine Holds.seq ?_
        refine Holds.reg ?_
        refine OpsFrom.v (Y.lss (b := 8) (up0 rfl rfl rfl) rfl rfl rfl) rfl ?_
        refine OpsFrom.nil ?_
        refine Holds.seq ?_
        refine Holds.condD rfl (fun h179 => ?_) (fun h179 => ?_)
        · refine Holds.skip ?_
          refine Holds.seq ?_
          refine Holds.block ?_
          refine Holds.seq ?_
          refine Holds.reg ?_
          refine OpsFrom.v (Y.move (up0 rfl rfl rfl) rfl rfl) rfl ?_
          refine OpsFrom.v (Y.idxI ty28 ty27 rfl (up0 rfl rfl rfl) rfl rfl rfl (by first | (with_reducible assumption) | omega | (simp only [lens, sblk_it1_l, sblk_it2_l, *]; first | done | omega) | decide | (split <;> simp only [lens, sblk_it1_l, sblk_it2_l, *]) | (with_reducible exact Lt.mono (by assumption) (by decide)) | (simp only [Cs.len]; done) | rfl) (by first | (with_reducible assumption) | omega | (simp only [lens, sblk_it1_l, sblk_it2_l, *]; first | done | omega) | decide | (split <;> simp only [lens, sblk_it1_l, sblk_it2_l, *]) | (with_reducible exact Lt.mono (by assumption) (by decide)) | (simp only [Cs.len]; done) | rfl)) rfl ?_
          refine OpsFrom.v (Y.assign (up0 rfl rfl rfl) rfl rfl) rfl ?_
          refine OpsFrom.v (Y.assign (up0 rfl rfl rfl) rfl rfl) rfl ?_
          refine OpsFrom.nil ?_
          refine Holds.dr mx [([182], [183, 188]), ([183], [182, 184, 185, 188, 190, 191]), ([184], [183, 188, 190, 191]), ([185], [183, 188, 190, 191]), ([186], [188, 190, 191]), ([187], [188, 190, 191]), ([188], [182, 183, 184, 185, 186, 187, 190, 191]), ([189], [190, 191]), ([190], [183, 184, 185, 186, 187, 188, 189]), ([191], [183, 184, 185, 186, 187, 188, 189]), ([192], []), ([1000], [])] (by kernel_rfl) ?_
          refine CertK.vd (Y.move (up0 rfl rfl rfl) rfl rfl) rfl rfl ?_
          refine CertK.vd (Y.move (up0 rfl rfl rfl) rfl rfl) rfl rfl ?_
          refine CertK.vd (Y.nck (up0 rfl rfl rfl) rfl rfl) rfl rfl ?_
          refine CertK.vd (Y.fa (f := 1) (fld := ⟨ "h", 28, 1, false, "", "fardel/sha", 8⟩) ty30 rfl ty28 (by decide) (up0 rfl rfl rfl) rfl rfl) rfl rfl ?_
          refine CertK.vd (Y.ia ty28 ty27 (up0 rfl rfl rfl) rfl rfl rfl (by first | (with_reducible assumption) | omega | (simp only [lens, sblk_it1_l, sblk_it2_l, *]; first | done | omega) | decide | (split <;> simp only [lens, sblk_it1_l, sblk_it2_l, *]) | (with_reducible exact Lt.mono (by assumption) (by decide)) | (simp only [Cs.len]; done) | rfl)) rfl rfl ?_
          refine CertK.vd (Y.ldHi ty27 rfl (up0 rfl rfl rfl) rfl rfl rfl (by first | (with_reducible assumption) | omega | (simp only [lens, sblk_it1_l, sblk_it2_l, *]; first | done | omega) | decide | (split <;> simp only [lens, sblk_it1_l, sblk_it2_l, *]) | (with_reducible exact Lt.mono (by assumption) (by decide)) | (simp only [Cs.len]; done) | rfl)) rfl rfl ?_
          refine CertK.vd (Y.move (up0 rfl rfl rfl) rfl rfl) rfl rfl ?_
          refine CertK.vd (Y.add u64s u64m (up0 rfl rfl rfl) rfl rfl rfl) rfl rfl ?_
          refine CertK.vd (Y.nck (up0 rfl rfl rfl) rfl rfl) rfl rfl ?_
          refine CertK.vd (Y.fa (f := 1) (fld := ⟨ "h", 28, 1, false, "", "fardel/sha", 8⟩) ty30 rfl ty28 (by decide) (up0 rfl rfl rfl) rfl rfl) rfl rfl ?_
          refine CertK.v (Y.ia ty28 ty27 (up0 rfl rfl rfl) rfl rfl rfl (by first | (with_reducible assumption) | omega | (simp only [lens, sblk_it1_l, sblk_it2_l, *]; first | done | omega) | decide | (split <;> simp only [lens, sblk_it1_l, sblk_it2_l, *]) | (with_reducible exact Lt.mono (by assumption) (by decide)) | (simp only [Cs.len]; done) | rfl)) rfl ?_
          refine CertK.n (Y.stHi ty27 (upN rfl rfl) rfl rfl rfl rfl (by first | (with_reducible assumption) | omega | (simp only [lens, sblk_it1_l, sblk_it2_l, *]; first | done | omega) | decide | (split <;> simp only [lens, sblk_it1_l, sblk_it2_l, *]) | (with_reducible exact Lt.mono (by assumption) (by decide)) | (simp only [Cs.len]; done) | rfl) (by first | (with_reducible assumption) | omega | (simp only [lens, sblk_it1_l, sblk_it2_l, *]; first | done | omega) | decide | (split <;> simp only [lens, sblk_it1_l, sblk_it2_l, *]) | (with_reducible exact Lt.mono (by assumption) (by decide)) | (simp only [Cs.len]; done) | rfl)) rfl rfl rfl rfl ?_
          refine CertK.nil ?_
          refine Holds.reg ?_
          refine OpsFrom.v (Y.addI (b := 1) (up0 rfl rfl rfl) rfl rfl rfl (by first | (with_reducible assumption) | omega | (simp only [lens, sblk_it1_l, sblk_it2_l, *]; first | done | omega) | decide | (split <;> simp only [lens, sblk_it1_l, sblk_it2_l, *]) | (with_reducible exact Lt.mono (by assumption) (by decide)) | (simp only [Cs.len]; done) | rfl)) rfl ?_
          refine OpsFrom.v (Y.move (up0 rfl rfl rfl) rfl rfl) rfl ?_
          refine OpsFrom.nil ?_
          exact Holds.again (i4_ + 1) (by omega) (by omega) [] ⟨⟨rfl, rfl, (nEq (by omega)), trivial⟩, ⟨(stEq (by rw [sblk_it4_s]; unfold sblk_s4; first | (dsimp only; done) | rfl)), rfl, trivial⟩, rfl, rfl⟩
        · obtain rfl : i4_ = 8 := by omega
          obtain ⟨M, hM⟩ : ∃ M, sblk_it4 b s k 8 = M := ⟨_, rfl⟩
          have hs1 : (sblk b s k).1 = M := by rw [← hM]; unfold sblk; rfl
          have hs2 : (sblk b s k).2 = k := by unfold sblk; rfl
          rw [hM, hs1, hs2]
          clear hs1 hs2 hM
          refine Holds.exit ?_
          exact Holds.retU (nt := 194) (.inr rfl) (fun _ _ _ _ hs => ResL.none.run hs rfl) rfl rfl (by intro x hx; simp only [List.mem_cons, List.mem_singleton, List.not_mem_nil, or_false] at hx; first | (subst hx; refine ⟨rfl, ?_, rfl⟩; first | exact Nat.succ_ne_zero 10 | (simp only [Cs.len]; simp [*, sblk_len1, sblk_it1_l])) | (rcases hx with rfl | rfl <;> (refine ⟨rfl, ?_, rfl⟩; first | exact Nat.succ_ne_zero 10 | (simp only [Cs.len]; simp [*, sblk_len1, sblk_it1_l]))))

theorem w_sblk (id0 id1 : Nat) (hne : id0 ≠ id1) (b : List Nat) (s : St) (k : List Nat) (l_b : b.length = 128) (l_s : s.h.length = 8) (l_k : k.length = 80) : UC Try.prog 41 [.one (.p id0 0), .one (.bs true .u8 b), .one (.p id1 0)] [(id0, .mix (St.cells s)), (id1, .ints .u64 k)] (.one .u) [(id0, .mix (St.cells ((sblk b s k).1))), (id1, .ints .u64 ((sblk b s k).2))] :=
  UC.rens [(1000, id0), (1001, id1)] (w_sblk0 b s k l_b l_s l_k) (noids2 rfl rfl) (noids2 rfl rfl) rfl (rens2 hne (by decide))
theorem sblk_l (b : List Nat) (s : St) (k : List Nat) : (sblk b s k).1.h.length = s.h.length := by unfold sblk; exact sblk_n4 s b k 8
theorem sblk_l2 (b : List Nat) (s : St) (k : List Nat) : (sblk b s k).2 = k := by unfold sblk; rfl
theorem sblk_1 (b : List Nat) (s : St) (k : List Nat) : (sblk b s k).1 = sblk_it4 b s k 8 := by unfold sblk; rfl
attribute [irreducible] sblk

end Go.Proofs.Ytjgcmfedofmkpaa
