/-
  Walks: whole numbers in digits: a product, and which is greater.
-/
import Derived.Test.YtjgcmfedofmkpaaFt
import Derived.Test.YtjgcmfedofmkpaaFc
namespace Go.Proofs.Ytjgcmfedofmkpaa
open Go Go.Fx
set_option linter.unusedVariables false
set_option linter.unusedSimpArgs false
def rtim_s2 (a : List Nat) (b : List Nat) (i1_ : Nat) (m1_ : List Nat) (i2_ : Nat) (m2_ : List Nat) : List Nat :=
  let v29_ : Nat := (a.getD i1_ 0) * (b.getD i2_ 0) % 18446744073709551616
  let v30_ : Nat := ((m2_.getD (i1_ + i2_) 0) + v29_) % 18446744073709551616
  m2_.set (i1_ + i2_) v30_
def rtim_it2 (a : List Nat) (b : List Nat) (i1_ : Nat) (m1_ : List Nat) (i2_ : Nat) : List Nat := iter (rtim_s2 a b i1_ m1_) i2_ m1_
theorem rtim_it2_z (a : List Nat) (b : List Nat) (i1_ : Nat) (m1_ : List Nat) : rtim_it2 a b i1_ m1_ 0 = m1_ := rfl
theorem rtim_it2_s (a : List Nat) (b : List Nat) (i1_ : Nat) (m1_ : List Nat) (i2_ : Nat) : rtim_it2 a b i1_ m1_ (i2_ + 1) = rtim_s2 a b i1_ m1_ i2_ (rtim_it2 a b i1_ m1_ i2_) := by unfold rtim_it2; exact iterS _ _ _
theorem rtim_it2_l (a : List Nat) (b : List Nat) (i1_ : Nat) (m1_ : List Nat) (i2_ : Nat) : ((rtim_it2 a b i1_ m1_ i2_)).length = (m1_ : List Nat).length := iter_inv (fun (s : List Nat) => (s).length = (m1_ : List Nat).length) (by simp) (fun i s h => by
  unfold rtim_s2
  first | (simp [h]; done) | (dsimp only; (repeat' split) <;> simp [h])) i2_
attribute [irreducible] rtim_it2
def rtim_s1 (a : List Nat) (b : List Nat) (i1_ : Nat) (m1_ : List Nat) : List Nat :=
  (rtim_it2 a b i1_ m1_ (20 - i1_))
def rtim_it1 (a : List Nat) (b : List Nat) (i1_ : Nat) : List Nat := iter (rtim_s1 a b) i1_ (List.replicate 20 0)
theorem rtim_it1_z (a : List Nat) (b : List Nat) : rtim_it1 a b 0 = List.replicate 20 0 := rfl
theorem rtim_it1_s (a : List Nat) (b : List Nat) (i1_ : Nat) : rtim_it1 a b (i1_ + 1) = rtim_s1 a b i1_ (rtim_it1 a b i1_) := by unfold rtim_it1; exact iterS _ _ _
theorem rtim_it1_l (a : List Nat) (b : List Nat) (i1_ : Nat) : ((rtim_it1 a b i1_)).length = (List.replicate 20 0 : List Nat).length := iter_inv (fun (s : List Nat) => (s).length = (List.replicate 20 0 : List Nat).length) (by simp) (fun i s h => by
  unfold rtim_s1
  first | (simp [rtim_it2_l, h]; done) | (dsimp only; (repeat' split) <;> simp [rtim_it2_l, h])) i1_
attribute [irreducible] rtim_it1
def rtim_s3 (a : List Nat) (b : List Nat) (i3_ : Nat) (m3_ : Nat × (List Nat)) : Nat × (List Nat) :=
  let v35_ : Nat := ((m3_.2.getD i3_ 0) + m3_.1) % 18446744073709551616
  (v35_ / 65536, m3_.2.set i3_ (v35_ % 65536))
def rtim_it3 (a : List Nat) (b : List Nat) (i3_ : Nat) : Nat × (List Nat) := iter (rtim_s3 a b) i3_ (0, (rtim_it1 a b 20))
theorem rtim_it3_z (a : List Nat) (b : List Nat) : rtim_it3 a b 0 = (0, (rtim_it1 a b 20)) := rfl
theorem rtim_it3_s (a : List Nat) (b : List Nat) (i3_ : Nat) : rtim_it3 a b (i3_ + 1) = rtim_s3 a b i3_ (rtim_it3 a b i3_) := by unfold rtim_it3; exact iterS _ _ _
theorem rtim_it3_l1 (a : List Nat) (b : List Nat) (i3_ : Nat) : ((rtim_it3 a b i3_).2).length = ((rtim_it1 a b 20) : List Nat).length := iter_inv (fun (s : Nat × (List Nat)) => (s.2).length = ((rtim_it1 a b 20) : List Nat).length) (by simp) (fun i s h => by
  unfold rtim_s3
  first | (simp [rtim_it2_l, rtim_it1_l, h]; done) | (dsimp only; (repeat' split) <;> simp [rtim_it2_l, rtim_it1_l, h])) i3_
def rtim (a : List Nat) (b : List Nat) : List Nat :=
  (rtim_it3 a b 20).2
theorem rtim_len (a : List Nat) (b : List Nat) (l_a : a.length = 20) (l_b : b.length = 20) : ((rtim a b)).length = 20 := by
  unfold rtim
  first | (simp [rtim_it2_l, rtim_it1_l, rtim_it3_l1]; done) | (simp [*, rtim_it2_l, rtim_it1_l, rtim_it3_l1]; done) | (dsimp only; (repeat' split) <;> simp [*, rtim_it2_l, rtim_it1_l, rtim_it3_l1])
theorem w_rtim (a : List Nat) (b : List Nat) (l_a : a.length = 20) (l_b : b.length = 20) : VC Try.prog 42 [.row (.ints .u64 a), .row (.ints .u64 b)] (.row (.ints .u64 (rtim a b))) := by
  refine VC.go Try.func42 rfl Try.ntmps42 rfl rfl fun O w => ?_
  refine Holds.seq ?_
  refine Holds.reg ?_
  refine OpsFrom.u (Y.boxR (d := 2) (up0 rfl rfl rfl) rfl rfl rfl) rfl rfl rfl ?_
  refine OpsFrom.u (Y.boxR (d := 3) (up0 rfl rfl rfl) rfl rfl rfl) rfl rfl rfl ?_
  refine OpsFrom.u (Y.alloc (d := 4) ty64 rfl rfl (up0 rfl rfl rfl) rfl) rfl rfl rfl ?_
  refine OpsFrom.nil ?_
  refine Holds.seq ?_
  refine Holds.reg ?_
  refine OpsFrom.v (Y.buildA ty64 ty27 rfl (up0 rfl rfl rfl) rfl (.nil _)) rfl ?_
  refine OpsFrom.u (Y.alloc (d := 5) ty64 rfl rfl (up0 rfl rfl rfl) rfl) rfl rfl rfl ?_
  refine OpsFrom.n (Y.stR ty64 (upN rfl rfl) rfl rfl rfl rfl rfl (by first | (with_reducible assumption) | omega | (simp only [lens, *]; first | done | omega) | decide | (split <;> simp only [lens, *]) | (with_reducible exact Lt.mono (by assumption) (by decide)) | (simp only [Cs.len]; done) | rfl) (by first | (with_reducible assumption) | omega | (simp only [lens, *]; first | done | omega) | decide | (split <;> simp only [lens, *]) | (with_reducible exact Lt.mono (by assumption) (by decide)) | (simp only [Cs.len]; done) | rfl) (by decide)) rfl rfl ?_
  refine OpsFrom.nil ?_
  refine Holds.seq ?_
  refine Holds.seq ?_
  refine Holds.reg ?_
  refine OpsFrom.v (Y.assign (v := (.one (.n .i64 0))) (up0 rfl rfl rfl) rfl rfl) rfl ?_
  refine OpsFrom.nil ?_
  refine Holds.block ?_
  refine Holds.loop (fun (i1_ : Nat) => ⟨[(2, .one (.p 2 0)), (3, .one (.p 3 0)), (4, .one (.p 4 0)), (5, .one (.p 5 0)), (6, .one (.n .i64 i1_))], [(2, .own (.ints .u64 a)), (3, .own (.ints .u64 b)), (4, .own (.ints .u64 (List.replicate 20 0))), (5, .own (.ints .u64 (rtim_it1 a b i1_)))]⟩) (fun (i1_ : Nat) => i1_ ≤ 20) (fun (i1_ : Nat) => 20 - i1_) 0 (by first | (with_reducible assumption) | omega | (simp only [lens, rtim_it1_l, *]; first | done | omega) | decide | (split <;> simp only [lens, rtim_it1_l, *]) | (with_reducible exact Lt.mono (by assumption) (by decide)) | (simp only [Cs.len]; done) | rfl) [] ⟨⟨rfl, rfl, rfl, rfl, rfl, trivial⟩, ⟨rfl, rfl, rfl, (hEq (congrArg (fun (s : List Nat) => s) (rtim_it1_z a b)).symm), trivial⟩, rfl, rfl⟩ ?_
  intro i1_ k1_
  refine Holds.seq ?_
  refine Holds.seq ?_
  refine Holds.reg ?_
  refine OpsFrom.v (Y.move (up0 rfl rfl rfl) rfl rfl) rfl ?_
  refine OpsFrom.v (Y.lss (b := 20) (up0 rfl rfl rfl) rfl rfl rfl) rfl ?_
  refine OpsFrom.nil ?_
  refine Holds.condD rfl (fun h13 => ?_) (fun h13 => ?_)
  · refine Holds.skip ?_
    refine Holds.seq ?_
    refine Holds.block ?_
    refine Holds.seq ?_
    refine Holds.reg ?_
    refine OpsFrom.v (Y.assign (v := (.one (.n .i64 0))) (up0 rfl rfl rfl) rfl rfl) rfl ?_
    refine OpsFrom.nil ?_
    refine Holds.block ?_
    refine Holds.loop (fun (i2_ : Nat) => ⟨[(2, .one (.p 2 0)), (3, .one (.p 3 0)), (4, .one (.p 4 0)), (5, .one (.p 5 0)), (6, .one (.n .i64 i1_)), (12, .one (.n .i64 i1_)), (13, .one (.b (decide (i1_ < 20)))), (7, .one (.n .i64 i2_))], [(2, .own (.ints .u64 a)), (3, .own (.ints .u64 b)), (4, .own (.ints .u64 (List.replicate 20 0))), (5, .own (.ints .u64 (rtim_it2 a b i1_ (rtim_it1 a b i1_) i2_)))]⟩) (fun (i2_ : Nat) => i2_ ≤ (20 - i1_)) (fun (i2_ : Nat) => (20 - i1_) - i2_) 0 (by first | (with_reducible assumption) | omega | (simp only [lens, rtim_it1_l, rtim_it2_l, *]; first | done | omega) | decide | (split <;> simp only [lens, rtim_it1_l, rtim_it2_l, *]) | (with_reducible exact Lt.mono (by assumption) (by decide)) | (simp only [Cs.len]; done) | rfl) [] ⟨⟨rfl, rfl, rfl, rfl, rfl, rfl, rfl, rfl, trivial⟩, ⟨rfl, rfl, rfl, (hEq (congrArg (fun (s : List Nat) => s) (rtim_it2_z a b i1_ (rtim_it1 a b i1_))).symm), trivial⟩, rfl, rfl⟩ ?_
    intro i2_ k2_
    refine Holds.seq ?_
    refine Holds.seq ?_
    refine Holds.reg ?_
    refine OpsFrom.v (Y.move (up0 rfl rfl rfl) rfl rfl) rfl ?_
    refine OpsFrom.v (Y.move (up0 rfl rfl rfl) rfl rfl) rfl ?_
    refine OpsFrom.v (Y.addI (up0 rfl rfl rfl) rfl rfl rfl (by first | (with_reducible assumption) | omega | (simp only [lens, rtim_it1_l, rtim_it2_l, *]; first | done | omega) | decide | (split <;> simp only [lens, rtim_it1_l, rtim_it2_l, *]) | (with_reducible exact Lt.mono (by assumption) (by decide)) | (simp only [Cs.len]; done) | rfl)) rfl ?_
    refine OpsFrom.v (Y.lss (b := 20) (up0 rfl rfl rfl) rfl rfl rfl) rfl ?_
    refine OpsFrom.nil ?_
    refine Holds.condD rfl (fun h19 => ?_) (fun h19 => ?_)
    · refine Holds.skip ?_
      refine Holds.seq ?_
      refine Holds.block ?_
      refine Holds.dr mx [([22], [23, 25, 26, 27, 28, 29, 30, 31, 32, 33, 34, 35, 36, 37]), ([23], [22, 25, 26, 27, 28, 29, 30, 31, 32, 33, 34, 35, 36, 37]), ([24], [25, 26, 27, 28, 29, 30, 31, 32, 33, 34, 35, 36, 37]), ([25], [22, 23, 24, 26, 30, 31, 32, 33, 34, 35, 36]), ([26], [22, 23, 24, 25, 30, 31, 32, 33, 34, 35, 36]), ([27], [22, 23, 24, 30, 31, 32, 33, 34, 35, 36]), ([28], [22, 23, 24, 30, 31, 32, 33, 34, 35, 36]), ([29], [22, 23, 24, 30, 31, 32, 33, 34, 35, 36]), ([30], [22, 23, 24, 25, 26, 27, 28, 29, 33, 34, 35]), ([31], [22, 23, 24, 25, 26, 27, 28, 29, 33, 34, 35]), ([32], [22, 23, 24, 25, 26, 27, 28, 29, 33, 34, 35]), ([33], [22, 23, 24, 25, 26, 27, 28, 29, 30, 31, 32]), ([34], [22, 23, 24, 25, 26, 27, 28, 29, 30, 31, 32]), ([35], [22, 23, 24, 25, 26, 27, 28, 29, 30, 31, 32]), ([36], [22, 23, 24, 25, 26, 27, 28, 29]), ([37], [22, 23, 24]), ([38], []), ([5], [])] (by kernel_rfl) ?_
      refine CertK.vd (Y.move (up0 rfl rfl rfl) rfl rfl) rfl rfl ?_
      refine CertK.vd (Y.move (up0 rfl rfl rfl) rfl rfl) rfl rfl ?_
      refine CertK.vd (Y.addI (up0 rfl rfl rfl) rfl rfl rfl (by first | (with_reducible assumption) | omega | (simp only [lens, rtim_it1_l, rtim_it2_l, *]; first | done | omega) | decide | (split <;> simp only [lens, rtim_it1_l, rtim_it2_l, *]) | (with_reducible exact Lt.mono (by assumption) (by decide)) | (simp only [Cs.len]; done) | rfl)) rfl rfl ?_
      refine CertK.vd (Y.move (up0 rfl rfl rfl) rfl rfl) rfl rfl ?_
      refine CertK.vd (Y.move (up0 rfl rfl rfl) rfl rfl) rfl rfl ?_
      refine CertK.vd (Y.addI (up0 rfl rfl rfl) rfl rfl rfl (by first | (with_reducible assumption) | omega | (simp only [lens, rtim_it1_l, rtim_it2_l, *]; first | done | omega) | decide | (split <;> simp only [lens, rtim_it1_l, rtim_it2_l, *]) | (with_reducible exact Lt.mono (by assumption) (by decide)) | (simp only [Cs.len]; done) | rfl)) rfl rfl ?_
      refine CertK.vd (Y.ia0 ty64 ty27 (up0 rfl rfl rfl) rfl rfl rfl (by first | (with_reducible assumption) | omega | (simp only [lens, rtim_it1_l, rtim_it2_l, *]; first | done | omega) | decide | (split <;> simp only [lens, rtim_it1_l, rtim_it2_l, *]) | (with_reducible exact Lt.mono (by assumption) (by decide)) | (simp only [Cs.len]; done) | rfl)) rfl rfl ?_
      refine CertK.vd (Y.ldI ty27 rfl (up0 rfl rfl rfl) rfl rfl rfl (by first | (with_reducible assumption) | omega | (simp only [lens, rtim_it1_l, rtim_it2_l, *]; first | done | omega) | decide | (split <;> simp only [lens, rtim_it1_l, rtim_it2_l, *]) | (with_reducible exact Lt.mono (by assumption) (by decide)) | (simp only [Cs.len]; done) | rfl)) rfl rfl ?_
      refine CertK.vd (Y.move (up0 rfl rfl rfl) rfl rfl) rfl rfl ?_
      refine CertK.vd (Y.ia0 ty64 ty27 (up0 rfl rfl rfl) rfl rfl rfl (by first | (with_reducible assumption) | omega | (simp only [lens, rtim_it1_l, rtim_it2_l, *]; first | done | omega) | decide | (split <;> simp only [lens, rtim_it1_l, rtim_it2_l, *]) | (with_reducible exact Lt.mono (by assumption) (by decide)) | (simp only [Cs.len]; done) | rfl)) rfl rfl ?_
      refine CertK.vd (Y.ldI ty27 rfl (up0 rfl rfl rfl) rfl rfl rfl (by first | (with_reducible assumption) | omega | (simp only [lens, rtim_it1_l, rtim_it2_l, *]; first | done | omega) | decide | (split <;> simp only [lens, rtim_it1_l, rtim_it2_l, *]) | (with_reducible exact Lt.mono (by assumption) (by decide)) | (simp only [Cs.len]; done) | rfl)) rfl rfl ?_
      refine CertK.vd (Y.move (up0 rfl rfl rfl) rfl rfl) rfl rfl ?_
      refine CertK.vd (Y.ia0 ty64 ty27 (up0 rfl rfl rfl) rfl rfl rfl (by first | (with_reducible assumption) | omega | (simp only [lens, rtim_it1_l, rtim_it2_l, *]; first | done | omega) | decide | (split <;> simp only [lens, rtim_it1_l, rtim_it2_l, *]) | (with_reducible exact Lt.mono (by assumption) (by decide)) | (simp only [Cs.len]; done) | rfl)) rfl rfl ?_
      refine CertK.vd (Y.ldI ty27 rfl (up0 rfl rfl rfl) rfl rfl rfl (by first | (with_reducible assumption) | omega | (simp only [lens, rtim_it1_l, rtim_it2_l, *]; first | done | omega) | decide | (split <;> simp only [lens, rtim_it1_l, rtim_it2_l, *]) | (with_reducible exact Lt.mono (by assumption) (by decide)) | (simp only [Cs.len]; done) | rfl)) rfl rfl ?_
      refine CertK.vd (Y.mul u64s u64m (up0 rfl rfl rfl) rfl rfl rfl) rfl rfl ?_
      refine CertK.vd (Y.add u64s u64m (up0 rfl rfl rfl) rfl rfl rfl) rfl rfl ?_
      refine CertK.v (Y.ia0 ty64 ty27 (up0 rfl rfl rfl) rfl rfl rfl (by first | (with_reducible assumption) | omega | (simp only [lens, rtim_it1_l, rtim_it2_l, *]; first | done | omega) | decide | (split <;> simp only [lens, rtim_it1_l, rtim_it2_l, *]) | (with_reducible exact Lt.mono (by assumption) (by decide)) | (simp only [Cs.len]; done) | rfl)) rfl ?_
      refine CertK.n (Y.stI ty27 (upN rfl rfl) rfl rfl rfl rfl (by first | (with_reducible assumption) | omega | (simp only [lens, rtim_it1_l, rtim_it2_l, *]; first | done | omega) | decide | (split <;> simp only [lens, rtim_it1_l, rtim_it2_l, *]) | (with_reducible exact Lt.mono (by assumption) (by decide)) | (simp only [Cs.len]; done) | rfl)) rfl rfl rfl rfl ?_
      refine CertK.nil ?_
      refine Holds.reg ?_
      refine OpsFrom.v (Y.move (up0 rfl rfl rfl) rfl rfl) rfl ?_
      refine OpsFrom.v (Y.addI (b := 1) (up0 rfl rfl rfl) rfl rfl rfl (by first | (with_reducible assumption) | omega | (simp only [lens, rtim_it1_l, rtim_it2_l, *]; first | done | omega) | decide | (split <;> simp only [lens, rtim_it1_l, rtim_it2_l, *]) | (with_reducible exact Lt.mono (by assumption) (by decide)) | (simp only [Cs.len]; done) | rfl)) rfl ?_
      refine OpsFrom.v (Y.assign (up0 rfl rfl rfl) rfl rfl) rfl ?_
      refine OpsFrom.nil ?_
      exact Holds.again (i2_ + 1) (by omega) (by omega) [] ⟨⟨rfl, rfl, rfl, rfl, rfl, rfl, rfl, (nEq (by omega)), trivial⟩, ⟨rfl, rfl, rfl, (hEq (by rw [rtim_it2_s]; unfold rtim_s2; first | (dsimp only; done) | rfl)), trivial⟩, rfl, rfl⟩
    · obtain rfl : i2_ = 20 - i1_ := by omega
      refine Holds.exit ?_
      refine Holds.reg ?_
      refine OpsFrom.v (Y.move (up0 rfl rfl rfl) rfl rfl) rfl ?_
      refine OpsFrom.v (Y.addI (b := 1) (up0 rfl rfl rfl) rfl rfl rfl (by first | (with_reducible assumption) | omega | (simp only [lens, rtim_it1_l, rtim_it2_l, *]; first | done | omega) | decide | (split <;> simp only [lens, rtim_it1_l, rtim_it2_l, *]) | (with_reducible exact Lt.mono (by assumption) (by decide)) | (simp only [Cs.len]; done) | rfl)) rfl ?_
      refine OpsFrom.v (Y.assign (up0 rfl rfl rfl) rfl rfl) rfl ?_
      refine OpsFrom.nil ?_
      exact Holds.again (i1_ + 1) (by omega) (by omega) [] ⟨⟨rfl, rfl, rfl, rfl, (nEq (by omega)), trivial⟩, ⟨rfl, rfl, rfl, (hEq (by rw [rtim_it1_s]; unfold rtim_s1; first | (dsimp only; done) | rfl)), trivial⟩, rfl, rfl⟩
  · obtain rfl : i1_ = 20 := by omega
    refine Holds.exit ?_
    refine Holds.seq ?_
    refine Holds.reg ?_
    refine OpsFrom.v (Y.assign (v := (.one (.n .u64 0))) (up0 rfl rfl rfl) rfl rfl) rfl ?_
    refine OpsFrom.nil ?_
    refine Holds.seq ?_
    refine Holds.seq ?_
    refine Holds.reg ?_
    refine OpsFrom.v (Y.assign (v := (.one (.n .i64 0))) (up0 rfl rfl rfl) rfl rfl) rfl ?_
    refine OpsFrom.nil ?_
    refine Holds.block ?_
    refine Holds.loop (fun (i3_ : Nat) => ⟨[(4, .one (.p 4 0)), (5, .one (.p 5 0)), (8, .one (.n .u64 ((rtim_it3 a b i3_).1))), (9, .one (.n .i64 i3_))], [(4, .own (.ints .u64 (List.replicate 20 0))), (5, .own (.ints .u64 ((rtim_it3 a b i3_).2)))]⟩) (fun (i3_ : Nat) => i3_ ≤ 20) (fun (i3_ : Nat) => 20 - i3_) 0 (by first | (with_reducible assumption) | omega | (simp only [lens, rtim_it1_l, rtim_it3_l1, *]; first | done | omega) | decide | (split <;> simp only [lens, rtim_it1_l, rtim_it3_l1, *]) | (with_reducible exact Lt.mono (by assumption) (by decide)) | (simp only [Cs.len]; done) | rfl) [] ⟨⟨rfl, rfl, (nEq (congrArg (fun (s : Nat × (List Nat)) => s.1) (rtim_it3_z a b)).symm), rfl, trivial⟩, ⟨rfl, (hEq (congrArg (fun (s : Nat × (List Nat)) => s.2) (rtim_it3_z a b)).symm), trivial⟩, rfl, rfl⟩ ?_
    intro i3_ k3_
    refine Holds.seq ?_
    refine Holds.seq ?_
    refine Holds.reg ?_
    refine OpsFrom.v (Y.move (up0 rfl rfl rfl) rfl rfl) rfl ?_
    refine OpsFrom.v (Y.lss (b := 20) (up0 rfl rfl rfl) rfl rfl rfl) rfl ?_
    refine OpsFrom.nil ?_
    refine Holds.condD rfl (fun h40 => ?_) (fun h40 => ?_)
    · refine Holds.skip ?_
      refine Holds.seq ?_
      refine Holds.block ?_
      refine Holds.seq ?_
      refine Holds.reg ?_
      refine OpsFrom.v (Y.move (up0 rfl rfl rfl) rfl rfl) rfl ?_
      refine OpsFrom.v (Y.ia0 ty64 ty27 (up0 rfl rfl rfl) rfl rfl rfl (by first | (with_reducible assumption) | omega | (simp only [lens, rtim_it1_l, rtim_it3_l1, *]; first | done | omega) | decide | (split <;> simp only [lens, rtim_it1_l, rtim_it3_l1, *]) | (with_reducible exact Lt.mono (by assumption) (by decide)) | (simp only [Cs.len]; done) | rfl)) rfl ?_
      refine OpsFrom.v (Y.ldI ty27 rfl (up0 rfl rfl rfl) rfl rfl rfl (by first | (with_reducible assumption) | omega | (simp only [lens, rtim_it1_l, rtim_it3_l1, *]; first | done | omega) | decide | (split <;> simp only [lens, rtim_it1_l, rtim_it3_l1, *]) | (with_reducible exact Lt.mono (by assumption) (by decide)) | (simp only [Cs.len]; done) | rfl)) rfl ?_
      refine OpsFrom.v (Y.move (up0 rfl rfl rfl) rfl rfl) rfl ?_
      refine OpsFrom.v (Y.add u64s u64m (up0 rfl rfl rfl) rfl rfl rfl) rfl ?_
      refine OpsFrom.v (Y.assign (up0 rfl rfl rfl) rfl rfl) rfl ?_
      refine OpsFrom.nil ?_
      refine Holds.seq ?_
      refine Holds.reg ?_
      refine OpsFrom.v (Y.move (up0 rfl rfl rfl) rfl rfl) rfl ?_
      refine OpsFrom.v (Y.move (up0 rfl rfl rfl) rfl rfl) rfl ?_
      refine OpsFrom.v (Y.rem (b := 65536) (up0 rfl rfl rfl) rfl rfl rfl (by decide)) rfl ?_
      refine OpsFrom.v (Y.ia0 ty64 ty27 (up0 rfl rfl rfl) rfl rfl rfl (by first | (with_reducible assumption) | omega | (simp only [lens, rtim_it1_l, rtim_it3_l1, *]; first | done | omega) | decide | (split <;> simp only [lens, rtim_it1_l, rtim_it3_l1, *]) | (with_reducible exact Lt.mono (by assumption) (by decide)) | (simp only [Cs.len]; done) | rfl)) rfl ?_
      refine OpsFrom.n (Y.stI ty27 (upN rfl rfl) rfl rfl rfl rfl (by first | (with_reducible assumption) | omega | (simp only [lens, rtim_it1_l, rtim_it3_l1, *]; first | done | omega) | decide | (split <;> simp only [lens, rtim_it1_l, rtim_it3_l1, *]) | (with_reducible exact Lt.mono (by assumption) (by decide)) | (simp only [Cs.len]; done) | rfl)) rfl rfl ?_
      refine OpsFrom.nil ?_
      refine Holds.reg ?_
      refine OpsFrom.v (Y.move (up0 rfl rfl rfl) rfl rfl) rfl ?_
      refine OpsFrom.v (Y.quo (b := 65536) u64s u64m (up0 rfl rfl rfl) rfl rfl rfl (by decide)) rfl ?_
      refine OpsFrom.v (Y.assign (up0 rfl rfl rfl) rfl rfl) rfl ?_
      refine OpsFrom.nil ?_
      refine Holds.reg ?_
      refine OpsFrom.v (Y.move (up0 rfl rfl rfl) rfl rfl) rfl ?_
      refine OpsFrom.v (Y.addI (b := 1) (up0 rfl rfl rfl) rfl rfl rfl (by first | (with_reducible assumption) | omega | (simp only [lens, rtim_it1_l, rtim_it3_l1, *]; first | done | omega) | decide | (split <;> simp only [lens, rtim_it1_l, rtim_it3_l1, *]) | (with_reducible exact Lt.mono (by assumption) (by decide)) | (simp only [Cs.len]; done) | rfl)) rfl ?_
      refine OpsFrom.v (Y.assign (up0 rfl rfl rfl) rfl rfl) rfl ?_
      refine OpsFrom.nil ?_
      exact Holds.again (i3_ + 1) (by omega) (by omega) [] ⟨⟨rfl, rfl, (nEq (by rw [rtim_it3_s]; unfold rtim_s3; first | (dsimp only; done) | rfl)), (nEq (by omega)), trivial⟩, ⟨rfl, (hEq (by rw [rtim_it3_s]; unfold rtim_s3; first | (dsimp only; done) | rfl)), trivial⟩, rfl, rfl⟩
    · obtain rfl : i3_ = 20 := by omega
      refine Holds.exit ?_
      refine Holds.seq ?_
      refine Holds.reg ?_
      refine OpsFrom.v (Y.ldAll ty64 rfl (up0 rfl rfl rfl) rfl rfl rfl (by first | (with_reducible assumption) | omega | (simp only [lens, rtim_it1_l, rtim_it3_l1, *]; first | done | omega) | decide | (split <;> simp only [lens, rtim_it1_l, rtim_it3_l1, *]) | (with_reducible exact Lt.mono (by assumption) (by decide)) | (simp only [Cs.len]; done) | rfl) (by decide)) rfl ?_
      refine OpsFrom.n (Y.stR ty64 (upN rfl rfl) rfl rfl rfl rfl rfl (by first | (with_reducible assumption) | omega | (simp only [lens, rtim_it1_l, rtim_it3_l1, *]; first | done | omega) | decide | (split <;> simp only [lens, rtim_it1_l, rtim_it3_l1, *]) | (with_reducible exact Lt.mono (by assumption) (by decide)) | (simp only [Cs.len]; done) | rfl) (by first | (with_reducible assumption) | omega | (simp only [lens, rtim_it1_l, rtim_it3_l1, *]; first | done | omega) | decide | (split <;> simp only [lens, rtim_it1_l, rtim_it3_l1, *]) | (with_reducible exact Lt.mono (by assumption) (by decide)) | (simp only [Cs.len]; done) | rfl) (by decide)) rfl rfl ?_
      refine OpsFrom.nil ?_
      refine Holds.ret ?_
      exact Holds.ret1 (.inl rfl) rfl (.rowN rfl rfl ty64 rfl (by first | (with_reducible assumption) | omega | (simp only [lens, rtim_it1_l, rtim_it3_l1, *]; first | done | omega) | decide | (split <;> simp only [lens, rtim_it1_l, rtim_it3_l1, *]) | (with_reducible exact Lt.mono (by assumption) (by decide)) | (simp only [Cs.len]; done) | rfl) (by decide)) (.same _) rfl

attribute [irreducible] rtim
theorem neg_case {n : Nat} (h : ¬ (0 : Int) ≤ (n : Int) - 1) : n = 0 := by omega
theorem above_end {x y : List Nat} (hx : x.length = 20) (hy : y.length = 20) (he : ∀ j, 0 ≤ j → j < 20 → x.getD j 0 = y.getD j 0) : false = decide (val 65536 y < val 65536 x) := by
  have : x = y := ext_getD (by omega) fun i hi => he i (Nat.zero_le _) (by omega)
  subst this
  simp
theorem above_now {x y : List Nat} (hx : x.length = 20) (hy : y.length = 20) (bx : Lt 65536 x) (bY : Lt 65536 y) {n : Nat} (hn : 0 < n) (hn2 : n ≤ 20) (he : ∀ j, n ≤ j → j < 20 → x.getD j 0 = y.getD j 0) (hne : x.getD (n - 1) 0 ≠ y.getD (n - 1) 0) :
    decide (y.getD (n - 1) 0 < x.getD (n - 1) 0) = decide (val 65536 y < val 65536 x) := by
  rw [decide_eq_decide]
  exact val_cmp bY.mem bx.mem (by omega) (by omega) (fun j h1 h2 => (he j (by omega) (by omega)).symm) (fun e => hne e.symm)
theorem w43 (x y : List Nat) (hx : x.length = 20) (hy : y.length = 20) (bx : Lt 65536 x) (bY : Lt 65536 y) : VC Try.prog 43 [.row (.ints .u64 x), .row (.ints .u64 y)] (.one (.b (decide (val 65536 y < val 65536 x)))) := by
  refine VC.go Try.func43 rfl Try.ntmps43 rfl rfl fun O w => ?_
  refine Holds.seq ?_
  refine Holds.reg ?_
  refine OpsFrom.u (Y.boxR (d := 2) (up0 rfl rfl rfl) rfl rfl rfl) rfl rfl rfl ?_
  refine OpsFrom.u (Y.boxR (d := 3) (up0 rfl rfl rfl) rfl rfl rfl) rfl rfl rfl ?_
  refine OpsFrom.v (Y.assign (up0 rfl rfl rfl) rfl rfl) rfl ?_
  refine OpsFrom.nil ?_
  refine Holds.seq ?_
  refine Holds.seq ?_
  refine Holds.reg ?_
  refine OpsFrom.v (Y.assign (v := (.one (.n .i64 19))) (up0 rfl rfl rfl) rfl rfl) rfl ?_
  refine OpsFrom.nil ?_
  refine Holds.block ?_
  refine Holds.toZ 5 rfl (((20 : Nat) : Int) - 1) (by decide) ?_
  refine Holds.loop (fun (n : Nat) => ⟨[(5, .one (.z ((n : Int) - 1))), (2, .one (.p 2 0)), (3, .one (.p 3 0))], [(2, .own (.ints .u64 x)), (3, .own (.ints .u64 y))]⟩) (fun (n : Nat) => n ≤ 20 ∧ ∀ j, n ≤ j → j < 20 → x.getD j 0 = y.getD j 0) (fun (n : Nat) => n) 20 ⟨by omega, fun j h1 h2 => by omega⟩ [] ⟨⟨rfl, rfl, rfl, trivial⟩, ⟨rfl, rfl, trivial⟩, rfl, rfl⟩ ?_
  intro n hok
  obtain ⟨hn, he⟩ := hok
  refine Holds.seq ?_
  refine Holds.seq ?_
  refine Holds.reg ?_
  refine OpsFrom.v (Y.move (up0 rfl rfl rfl) rfl rfl) rfl ?_
  refine OpsFrom.v (Y.geqZ (b := 0) (up0 rfl rfl rfl) rfl rfl rfl rfl rfl) rfl ?_
  refine OpsFrom.nil ?_
  refine Holds.condD rfl (fun h7 => ?_) (fun h7 => ?_)
  · refine Holds.nat 5 rfl (n - 1) (by omega) ?_
    refine Holds.skip ?_
    refine Holds.seq ?_
    refine Holds.block ?_
    refine Holds.seq ?_
    refine Holds.dr mx [([10], [13, 14, 15]), ([11], [13, 14, 15]), ([12], [13, 14, 15]), ([13], [10, 11, 12]), ([14], [10, 11, 12]), ([15], [10, 11, 12]), ([16], [])] (by kernel_rfl) ?_
    refine CertK.vd (Y.move (up0 rfl rfl rfl) rfl rfl) rfl rfl ?_
    refine CertK.vd (Y.ia0 ty64 ty27 (up0 rfl rfl rfl) rfl rfl rfl (by omega)) rfl rfl ?_
    refine CertK.vd (Y.ldI ty27 rfl (up0 rfl rfl rfl) rfl rfl rfl (by first | (with_reducible assumption) | omega | (simp only [*]; done) | (simp only [*]; omega) | (simp only [lens, *]; done) | (simp only [lens, *]; omega))) rfl rfl ?_
    refine CertK.vd (Y.move (up0 rfl rfl rfl) rfl rfl) rfl rfl ?_
    refine CertK.vd (Y.ia0 ty64 ty27 (up0 rfl rfl rfl) rfl rfl rfl (by omega)) rfl rfl ?_
    refine CertK.vd (Y.ldI ty27 rfl (up0 rfl rfl rfl) rfl rfl rfl (by first | (with_reducible assumption) | omega | (simp only [*]; done) | (simp only [*]; omega) | (simp only [lens, *]; done) | (simp only [lens, *]; omega))) rfl rfl ?_
    refine CertK.v (Y.neq (up0 rfl rfl rfl) rfl rfl rfl) rfl ?_
    refine CertK.nil ?_
    refine Holds.condD rfl (fun h16 => ?_) (fun h16 => ?_)
    · refine Holds.seq ?_
      refine Holds.dr mx [([17], [20, 21, 22]), ([18], [20, 21, 22]), ([19], [20, 21, 22]), ([20], [17, 18, 19]), ([21], [17, 18, 19]), ([22], [17, 18, 19]), ([23], []), ([4], [])] (by kernel_rfl) ?_
      refine CertK.vd (Y.move (up0 rfl rfl rfl) rfl rfl) rfl rfl ?_
      refine CertK.vd (Y.ia0 ty64 ty27 (up0 rfl rfl rfl) rfl rfl rfl (by omega)) rfl rfl ?_
      refine CertK.vd (Y.ldI ty27 rfl (up0 rfl rfl rfl) rfl rfl rfl (by first | (with_reducible assumption) | omega | (simp only [*]; done) | (simp only [*]; omega) | (simp only [lens, *]; done) | (simp only [lens, *]; omega))) rfl rfl ?_
      refine CertK.vd (Y.move (up0 rfl rfl rfl) rfl rfl) rfl rfl ?_
      refine CertK.vd (Y.ia0 ty64 ty27 (up0 rfl rfl rfl) rfl rfl rfl (by omega)) rfl rfl ?_
      refine CertK.vd (Y.ldI ty27 rfl (up0 rfl rfl rfl) rfl rfl rfl (by first | (with_reducible assumption) | omega | (simp only [*]; done) | (simp only [*]; omega) | (simp only [lens, *]; done) | (simp only [lens, *]; omega))) rfl rfl ?_
      refine CertK.v (Y.gtr (up0 rfl rfl rfl) rfl rfl rfl) rfl ?_
      refine CertK.v (Y.assign (up0 rfl rfl rfl) rfl rfl) rfl ?_
      refine CertK.nil ?_
      refine Holds.ret ?_
      first | exact Holds.ret1 (.inl rfl) rfl (.tmp _ _ rfl) (above_end hx hy he ▸ .same _) rfl | exact Holds.ret1 (.inl rfl) rfl (.tmp _ _ rfl) (above_now hx hy bx bY (by omega) hn he h16 ▸ .same _) rfl
    · refine Holds.skip ?_
      refine Holds.reg ?_
      refine OpsFrom.v (Y.move (up0 rfl rfl rfl) rfl rfl) rfl ?_
      refine OpsFrom.v (Y.subZ (b := 1) (up0 rfl rfl rfl) rfl rfl rfl rfl rfl (by omega) (by omega)) rfl ?_
      refine OpsFrom.v (Y.assign (up0 rfl rfl rfl) rfl rfl) rfl ?_
      refine OpsFrom.nil ?_
      exact Holds.again (n - 1) ⟨by omega, fun j h1 h2 => by
    by_cases hj : j = n - 1
    · subst hj; exact Decidable.not_not.1 h16
    · exact he j (by omega) h2⟩ (by omega) [] ⟨⟨rfl, rfl, rfl, trivial⟩, ⟨rfl, rfl, trivial⟩, rfl, rfl⟩
  · obtain rfl := neg_case h7
    refine Holds.exit ?_
    refine Holds.seq ?_
    refine Holds.reg ?_
    refine OpsFrom.v (Y.assign (up0 rfl rfl rfl) rfl rfl) rfl ?_
    refine OpsFrom.nil ?_
    refine Holds.ret ?_
    first | exact Holds.ret1 (.inl rfl) rfl (.tmp _ _ rfl) (above_end hx hy he ▸ .same _) rfl | exact Holds.ret1 (.inl rfl) rfl (.tmp _ _ rfl) (above_now hx hy bx bY (by omega) hn he h16 ▸ .same _) rfl

end Go.Proofs.Ytjgcmfedofmkpaa
