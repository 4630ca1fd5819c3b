/-
  Walks: the document: folding.
-/
import Derived.Test.YtnfiiclmbiiokaaPa
namespace Go.Proofs.Ytnfiiclmbiiokaa
open Go Go.Fx
set_option linter.unusedVariables false
set_option linter.unusedSimpArgs false
def rfold_s2 (m1_ : List Nat) (i2_ : Nat) (m2_ : Nat × (List Nat)) : Nat × (List Nat) :=
  let v45_ : Nat := ((m2_.2.getD i2_ 0) + m2_.1) % 18446744073709551616
  (v45_ / 65536, m2_.2.set i2_ (v45_ % 65536))
def rfold_it2 (m1_ : List Nat) (i2_ : Nat) : Nat × (List Nat) := iter (rfold_s2 m1_) i2_ (0, m1_)
theorem rfold_it2_z (m1_ : List Nat) : rfold_it2 m1_ 0 = (0, m1_) := rfl
theorem rfold_it2_s (m1_ : List Nat) (i2_ : Nat) : rfold_it2 m1_ (i2_ + 1) = rfold_s2 m1_ i2_ (rfold_it2 m1_ i2_) := by unfold rfold_it2; exact iterS _ _ _
theorem rfold_it2_l1 (m1_ : List Nat) (i2_ : Nat) : ((rfold_it2 m1_ i2_).2).length = (m1_ : List Nat).length := iter_inv (fun (s : Nat × (List Nat)) => (s.2).length = (m1_ : List Nat).length) (by simp) (fun i s h => by
  unfold rfold_s2
  first | (simp [h]; done) | (dsimp only; (repeat' split) <;> simp [h])) i2_
def rfold_s3 (m1_ : List Nat) (i3_ : Nat) (m3_ : List Nat) : List Nat :=
  let v53_ : Nat := 38 * (m3_.getD (i3_ + 16) 0) % 18446744073709551616
  let v54_ : Nat := ((m3_.getD i3_ 0) + v53_) % 18446744073709551616
  (m3_.set i3_ v54_).set (i3_ + 16) 0
def rfold_it3 (m1_ : List Nat) (i3_ : Nat) : List Nat := iter (rfold_s3 m1_) i3_ ((rfold_it2 m1_ 32).2)
theorem rfold_it3_z (m1_ : List Nat) : rfold_it3 m1_ 0 = (rfold_it2 m1_ 32).2 := rfl
theorem rfold_it3_s (m1_ : List Nat) (i3_ : Nat) : rfold_it3 m1_ (i3_ + 1) = rfold_s3 m1_ i3_ (rfold_it3 m1_ i3_) := by unfold rfold_it3; exact iterS _ _ _
theorem rfold_it3_l (m1_ : List Nat) (i3_ : Nat) : ((rfold_it3 m1_ i3_)).length = ((rfold_it2 m1_ 32).2 : List Nat).length := iter_inv (fun (s : List Nat) => (s).length = ((rfold_it2 m1_ 32).2 : List Nat).length) (by simp) (fun i s h => by
  unfold rfold_s3
  first | (simp [rfold_it2_l1, h]; done) | (dsimp only; (repeat' split) <;> simp [rfold_it2_l1, h])) i3_
def rfold_s1 (l : List Nat) (i1_ : Nat) (m1_ : List Nat) : List Nat :=
  (rfold_it3 m1_ 16)
def rfold_it1 (l : List Nat) (i1_ : Nat) : List Nat := iter (rfold_s1 l) i1_ l
theorem rfold_it1_z (l : List Nat) : rfold_it1 l 0 = l := rfl
theorem rfold_it1_s (l : List Nat) (i1_ : Nat) : rfold_it1 l (i1_ + 1) = rfold_s1 l i1_ (rfold_it1 l i1_) := by unfold rfold_it1; exact iterS _ _ _
theorem rfold_it1_l (l : List Nat) (i1_ : Nat) : ((rfold_it1 l i1_)).length = (l : List Nat).length := iter_inv (fun (s : List Nat) => (s).length = (l : List Nat).length) (by simp) (fun i s h => by
  unfold rfold_s1
  first | (simp [rfold_it2_l1, rfold_it3_l, h]; done) | (dsimp only; (repeat' split) <;> simp [rfold_it2_l1, rfold_it3_l, h])) i1_
def rfold_s4 (l : List Nat) (i4_ : Nat) (m4_ : Nat × (List Nat)) : Nat × (List Nat) :=
  let v60_ : Nat := (((rfold_it1 l 4).getD i4_ 0) + m4_.1) % 18446744073709551616
  (v60_ / 65536, m4_.2.set i4_ (v60_ % 65536))
def rfold_it4 (l : List Nat) (i4_ : Nat) : Nat × (List Nat) := iter (rfold_s4 l) i4_ (0, List.replicate 16 0)
theorem rfold_it4_z (l : List Nat) : rfold_it4 l 0 = (0, List.replicate 16 0) := rfl
theorem rfold_it4_s (l : List Nat) (i4_ : Nat) : rfold_it4 l (i4_ + 1) = rfold_s4 l i4_ (rfold_it4 l i4_) := by unfold rfold_it4; exact iterS _ _ _
theorem rfold_it4_l1 (l : List Nat) (i4_ : Nat) : ((rfold_it4 l i4_).2).length = (List.replicate 16 0 : List Nat).length := iter_inv (fun (s : Nat × (List Nat)) => (s.2).length = (List.replicate 16 0 : List Nat).length) (by simp) (fun i s h => by
  unfold rfold_s4
  first | (simp [rfold_it2_l1, rfold_it3_l, rfold_it1_l, h]; done) | (dsimp only; (repeat' split) <;> simp [rfold_it2_l1, rfold_it3_l, rfold_it1_l, h])) i4_
def rfold_s5 (l : List Nat) (i5_ : Nat) (m5_ : List Nat) : List Nat :=
  (rless m5_ rP)
def rfold_it5 (l : List Nat) (i5_ : Nat) : List Nat := iter (rfold_s5 l) i5_ ((rfold_it4 l 16).2)
theorem rfold_it5_z (l : List Nat) : rfold_it5 l 0 = (rfold_it4 l 16).2 := rfl
theorem rfold_it5_s (l : List Nat) (i5_ : Nat) : rfold_it5 l (i5_ + 1) = rfold_s5 l i5_ (rfold_it5 l i5_) := by unfold rfold_it5; exact iterS _ _ _
theorem rfold_d (l : List Nat) (i : Nat) : Lt 65536 (rfold_it4 l i).2 :=
  iter_inv (fun (s : Nat × List Nat) => Lt 65536 s.2) (Lt.replicate (by decide)) (fun i s h => by unfold rfold_s4; exact h.set (Nat.mod_lt _ (by decide))) i
theorem rfold_o (l : List Nat) : ∀ i, i ≤ val 65536 (rfold_it4 l 16).2 / 57896044618658097711785492504343953926634992332820282019728792003956564819949 → Lt 65536 (rfold_it5 l i) ∧ (rfold_it5 l i).length = 16 ∧ val 65536 (rfold_it5 l i) + i * 57896044618658097711785492504343953926634992332820282019728792003956564819949 = val 65536 (rfold_it4 l 16).2
  | 0, _ => ⟨rfold_d l 16, rfold_it4_l1 l 16, by rw [rfold_it5_z]; omega⟩
  | i + 1, h => by
    obtain ⟨h1, h2, h3⟩ := rfold_o l i (by omega)
    have h4 : val 65536 rP ≤ val 65536 (rfold_it5 l i) := by rw [rP_val]; omega
    rw [rfold_it5_s]
    unfold rfold_s5
    refine ⟨rless_lt h2 rP_len h1 rP_lt, rless_len _ _ h2 rP_len, ?_⟩
    rw [rless_val h2 rP_len h1 rP_lt h4, rP_val]
    rw [rP_val] at h4
    omega
theorem rfold_iff (l : List Nat) {i : Nat} (h : i ≤ val 65536 (rfold_it4 l 16).2 / 57896044618658097711785492504343953926634992332820282019728792003956564819949) : ((!decide (val 65536 (rfold_it5 l i) < val 65536 rP)) = true) ↔ i < val 65536 (rfold_it4 l 16).2 / 57896044618658097711785492504343953926634992332820282019728792003956564819949 := by
  obtain ⟨h1, h2, h3⟩ := rfold_o l i h
  rw [rP_val]
  simp only [Bool.not_eq_true', decide_eq_false_iff_not]
  omega
def rfold (l : List Nat) : List Nat :=
  let v64_ : List Nat := (rfold_it5 l (val 65536 (rfold_it4 l 16).2 / 57896044618658097711785492504343953926634992332820282019728792003956564819949))
  v64_
theorem w_rfold (l : List Nat) (l_l : l.length = 32) : VC Try.prog 45 [.row (.ints .u64 l)] (.row (.ints .u64 (rfold l))) := by
  refine VC.go Try.func45 rfl Try.ntmps45 rfl rfl fun O w => ?_
  refine Holds.seq ?_
  refine Holds.reg ?_
  refine OpsFrom.u (Y.boxR (d := 1) (up0 rfl rfl rfl) rfl rfl rfl) rfl rfl rfl ?_
  refine OpsFrom.u (Y.alloc (d := 2) ty31 rfl rfl (up0 rfl rfl rfl) rfl) rfl rfl rfl ?_
  refine OpsFrom.nil ?_
  refine Holds.seq ?_
  refine Holds.seq ?_
  refine Holds.reg ?_
  refine OpsFrom.v (Y.assign (v := (.one (.n .i64 0))) (up0 rfl rfl rfl) rfl rfl) rfl ?_
  refine OpsFrom.nil ?_
  refine Holds.block ?_
  refine Holds.loop (fun (i1_ : Nat) => ⟨[(1, .one (.p 1 0)), (2, .one (.p 2 0)), (3, .one (.n .i64 i1_))], [(1, .own (.ints .u64 (rfold_it1 l i1_))), (2, .own (.ints .u64 (List.replicate 16 0)))]⟩) (fun (i1_ : Nat) => i1_ ≤ 4) (fun (i1_ : Nat) => 4 - i1_) 0 (by first | (with_reducible assumption) | omega | (simp only [lens, rfold_it1_l, *]; first | done | omega) | decide | (split <;> simp only [lens, rfold_it1_l, *]) | (with_reducible exact Lt.mono (by assumption) (by decide)) | (simp only [Cs.len]; done) | rfl) [] ⟨⟨rfl, rfl, rfl, trivial⟩, ⟨(hEq (congrArg (fun (s : List Nat) => s) (rfold_it1_z l)).symm), rfl, trivial⟩, rfl, rfl⟩ ?_
  intro i1_ k1_
  refine Holds.seq ?_
  refine Holds.seq ?_
  refine Holds.reg ?_
  refine OpsFrom.v (Y.move (up0 rfl rfl rfl) rfl rfl) rfl ?_
  refine OpsFrom.v (Y.lss (b := 4) (up0 rfl rfl rfl) rfl rfl rfl) rfl ?_
  refine OpsFrom.nil ?_
  refine Holds.condD rfl (fun h14 => ?_) (fun h14 => ?_)
  · refine Holds.skip ?_
    refine Holds.seq ?_
    refine Holds.block ?_
    refine Holds.seq ?_
    refine Holds.reg ?_
    refine OpsFrom.v (Y.assign (v := (.one (.n .u64 0))) (up0 rfl rfl rfl) rfl rfl) rfl ?_
    refine OpsFrom.nil ?_
    refine Holds.seq ?_
    refine Holds.seq ?_
    refine Holds.reg ?_
    refine OpsFrom.v (Y.assign (v := (.one (.n .i64 0))) (up0 rfl rfl rfl) rfl rfl) rfl ?_
    refine OpsFrom.nil ?_
    refine Holds.block ?_
    refine Holds.loop (fun (i2_ : Nat) => ⟨[(1, .one (.p 1 0)), (2, .one (.p 2 0)), (3, .one (.n .i64 i1_)), (13, .one (.n .i64 i1_)), (14, .one (.b (decide (i1_ < 4)))), (4, .one (.n .u64 ((rfold_it2 (rfold_it1 l i1_) i2_).1))), (5, .one (.n .i64 i2_))], [(1, .own (.ints .u64 ((rfold_it2 (rfold_it1 l i1_) i2_).2))), (2, .own (.ints .u64 (List.replicate 16 0)))]⟩) (fun (i2_ : Nat) => i2_ ≤ 32) (fun (i2_ : Nat) => 32 - i2_) 0 (by first | (with_reducible assumption) | omega | (simp only [lens, rfold_it1_l, rfold_it2_l1, *]; first | done | omega) | decide | (split <;> simp only [lens, rfold_it1_l, rfold_it2_l1, *]) | (with_reducible exact Lt.mono (by assumption) (by decide)) | (simp only [Cs.len]; done) | rfl) [] ⟨⟨rfl, rfl, rfl, rfl, rfl, (nEq (congrArg (fun (s : Nat × (List Nat)) => s.1) (rfold_it2_z (rfold_it1 l i1_))).symm), rfl, trivial⟩, ⟨(hEq (congrArg (fun (s : Nat × (List Nat)) => s.2) (rfold_it2_z (rfold_it1 l i1_))).symm), rfl, trivial⟩, rfl, rfl⟩ ?_
    intro i2_ k2_
    refine Holds.seq ?_
    refine Holds.seq ?_
    refine Holds.reg ?_
    refine OpsFrom.v (Y.move (up0 rfl rfl rfl) rfl rfl) rfl ?_
    refine OpsFrom.v (Y.lss (b := 32) (up0 rfl rfl rfl) rfl rfl rfl) rfl ?_
    refine OpsFrom.nil ?_
    refine Holds.condD rfl (fun h18 => ?_) (fun h18 => ?_)
    · refine Holds.skip ?_
      refine Holds.seq ?_
      refine Holds.block ?_
      refine Holds.seq ?_
      refine Holds.reg ?_
      refine OpsFrom.v (Y.move (up0 rfl rfl rfl) rfl rfl) rfl ?_
      refine OpsFrom.v (Y.ia0 ty71 ty24 (up0 rfl rfl rfl) rfl rfl rfl (by first | (with_reducible assumption) | omega | (simp only [lens, rfold_it1_l, rfold_it2_l1, *]; first | done | omega) | decide | (split <;> simp only [lens, rfold_it1_l, rfold_it2_l1, *]) | (with_reducible exact Lt.mono (by assumption) (by decide)) | (simp only [Cs.len]; done) | rfl)) rfl ?_
      refine OpsFrom.v (Y.ldI ty24 rfl (up0 rfl rfl rfl) rfl rfl rfl (by first | (with_reducible assumption) | omega | (simp only [lens, rfold_it1_l, rfold_it2_l1, *]; first | done | omega) | decide | (split <;> simp only [lens, rfold_it1_l, rfold_it2_l1, *]) | (with_reducible exact Lt.mono (by assumption) (by decide)) | (simp only [Cs.len]; done) | rfl)) rfl ?_
      refine OpsFrom.v (Y.move (up0 rfl rfl rfl) rfl rfl) rfl ?_
      refine OpsFrom.v (Y.add u64s u64m (up0 rfl rfl rfl) rfl rfl rfl) rfl ?_
      refine OpsFrom.v (Y.assign (up0 rfl rfl rfl) rfl rfl) rfl ?_
      refine OpsFrom.nil ?_
      refine Holds.seq ?_
      refine Holds.reg ?_
      refine OpsFrom.v (Y.move (up0 rfl rfl rfl) rfl rfl) rfl ?_
      refine OpsFrom.v (Y.move (up0 rfl rfl rfl) rfl rfl) rfl ?_
      refine OpsFrom.v (Y.rem (b := 65536) (up0 rfl rfl rfl) rfl rfl rfl (by decide)) rfl ?_
      refine OpsFrom.v (Y.ia0 ty71 ty24 (up0 rfl rfl rfl) rfl rfl rfl (by first | (with_reducible assumption) | omega | (simp only [lens, rfold_it1_l, rfold_it2_l1, *]; first | done | omega) | decide | (split <;> simp only [lens, rfold_it1_l, rfold_it2_l1, *]) | (with_reducible exact Lt.mono (by assumption) (by decide)) | (simp only [Cs.len]; done) | rfl)) rfl ?_
      refine OpsFrom.n (Y.stI ty24 (upN rfl rfl) rfl rfl rfl rfl (by first | (with_reducible assumption) | omega | (simp only [lens, rfold_it1_l, rfold_it2_l1, *]; first | done | omega) | decide | (split <;> simp only [lens, rfold_it1_l, rfold_it2_l1, *]) | (with_reducible exact Lt.mono (by assumption) (by decide)) | (simp only [Cs.len]; done) | rfl)) rfl rfl ?_
      refine OpsFrom.nil ?_
      refine Holds.reg ?_
      refine OpsFrom.v (Y.move (up0 rfl rfl rfl) rfl rfl) rfl ?_
      refine OpsFrom.v (Y.quo (b := 65536) u64s u64m (up0 rfl rfl rfl) rfl rfl rfl (by decide)) rfl ?_
      refine OpsFrom.v (Y.assign (up0 rfl rfl rfl) rfl rfl) rfl ?_
      refine OpsFrom.nil ?_
      refine Holds.reg ?_
      refine OpsFrom.v (Y.move (up0 rfl rfl rfl) rfl rfl) rfl ?_
      refine OpsFrom.v (Y.addI (b := 1) (up0 rfl rfl rfl) rfl rfl rfl (by first | (with_reducible assumption) | omega | (simp only [lens, rfold_it1_l, rfold_it2_l1, *]; first | done | omega) | decide | (split <;> simp only [lens, rfold_it1_l, rfold_it2_l1, *]) | (with_reducible exact Lt.mono (by assumption) (by decide)) | (simp only [Cs.len]; done) | rfl)) rfl ?_
      refine OpsFrom.v (Y.assign (up0 rfl rfl rfl) rfl rfl) rfl ?_
      refine OpsFrom.nil ?_
      exact Holds.again (i2_ + 1) (by omega) (by omega) [] ⟨⟨rfl, rfl, rfl, rfl, rfl, (nEq (by rw [rfold_it2_s]; unfold rfold_s2; first | (dsimp only; done) | rfl)), (nEq (by omega)), trivial⟩, ⟨(hEq (by rw [rfold_it2_s]; unfold rfold_s2; first | (dsimp only; done) | rfl)), rfl, trivial⟩, rfl, rfl⟩
    · obtain rfl : i2_ = 32 := by omega
      refine Holds.exit ?_
      refine Holds.seq ?_
      refine Holds.reg ?_
      refine OpsFrom.v (Y.assign (v := (.one (.n .i64 0))) (up0 rfl rfl rfl) rfl rfl) rfl ?_
      refine OpsFrom.nil ?_
      refine Holds.block ?_
      refine Holds.loop (fun (i3_ : Nat) => ⟨[(1, .one (.p 1 0)), (2, .one (.p 2 0)), (3, .one (.n .i64 i1_)), (13, .one (.n .i64 i1_)), (14, .one (.b (decide (i1_ < 4)))), (4, .one (.n .u64 ((rfold_it2 (rfold_it1 l i1_) 32).1))), (5, .one (.n .i64 32)), (17, .one (.n .i64 32)), (18, .one (.b (decide (32 < 32)))), (7, .one (.n .i64 i3_))], [(1, .own (.ints .u64 (rfold_it3 (rfold_it1 l i1_) i3_))), (2, .own (.ints .u64 (List.replicate 16 0)))]⟩) (fun (i3_ : Nat) => i3_ ≤ 16) (fun (i3_ : Nat) => 16 - i3_) 0 (by first | (with_reducible assumption) | omega | (simp only [lens, rfold_it1_l, rfold_it2_l1, rfold_it3_l, *]; first | done | omega) | decide | (split <;> simp only [lens, rfold_it1_l, rfold_it2_l1, rfold_it3_l, *]) | (with_reducible exact Lt.mono (by assumption) (by decide)) | (simp only [Cs.len]; done) | rfl) [] ⟨⟨rfl, rfl, rfl, rfl, rfl, rfl, rfl, rfl, rfl, rfl, trivial⟩, ⟨(hEq (congrArg (fun (s : List Nat) => s) (rfold_it3_z (rfold_it1 l i1_))).symm), rfl, trivial⟩, rfl, rfl⟩ ?_
      intro i3_ k3_
      refine Holds.seq ?_
      refine Holds.seq ?_
      refine Holds.reg ?_
      refine OpsFrom.v (Y.move (up0 rfl rfl rfl) rfl rfl) rfl ?_
      refine OpsFrom.v (Y.lss (b := 16) (up0 rfl rfl rfl) rfl rfl rfl) rfl ?_
      refine OpsFrom.nil ?_
      refine Holds.condD rfl (fun h33 => ?_) (fun h33 => ?_)
      · refine Holds.skip ?_
        refine Holds.seq ?_
        refine Holds.block ?_
        refine Holds.seq ?_
        refine Holds.dr mx [([36], [37, 38, 39, 40, 41, 42, 43, 44, 45]), ([37], [36, 40, 41, 42, 43, 44]), ([38], [36, 40, 41, 42, 43, 44]), ([39], [36, 40, 41, 42, 43, 44]), ([40], [36, 37, 38, 39]), ([41], [36, 37, 38, 39]), ([42], [36, 37, 38, 39]), ([43], [36, 37, 38, 39]), ([44], [36, 37, 38, 39]), ([45], [36]), ([46], []), ([1], [])] (by kernel_rfl) ?_
        refine CertK.vd (Y.move (up0 rfl rfl rfl) rfl rfl) rfl rfl ?_
        refine CertK.vd (Y.move (up0 rfl rfl rfl) rfl rfl) rfl rfl ?_
        refine CertK.vd (Y.ia0 ty71 ty24 (up0 rfl rfl rfl) rfl rfl rfl (by first | (with_reducible assumption) | omega | (simp only [lens, rfold_it1_l, rfold_it2_l1, rfold_it3_l, *]; first | done | omega) | decide | (split <;> simp only [lens, rfold_it1_l, rfold_it2_l1, rfold_it3_l, *]) | (with_reducible exact Lt.mono (by assumption) (by decide)) | (simp only [Cs.len]; done) | rfl)) rfl rfl ?_
        refine CertK.vd (Y.ldI ty24 rfl (up0 rfl rfl rfl) rfl rfl rfl (by first | (with_reducible assumption) | omega | (simp only [lens, rfold_it1_l, rfold_it2_l1, rfold_it3_l, *]; first | done | omega) | decide | (split <;> simp only [lens, rfold_it1_l, rfold_it2_l1, rfold_it3_l, *]) | (with_reducible exact Lt.mono (by assumption) (by decide)) | (simp only [Cs.len]; done) | rfl)) rfl rfl ?_
        refine CertK.vd (Y.move (up0 rfl rfl rfl) rfl rfl) rfl rfl ?_
        refine CertK.vd (Y.addI (b := 16) (up0 rfl rfl rfl) rfl rfl rfl (by first | (with_reducible assumption) | omega | (simp only [lens, rfold_it1_l, rfold_it2_l1, rfold_it3_l, *]; first | done | omega) | decide | (split <;> simp only [lens, rfold_it1_l, rfold_it2_l1, rfold_it3_l, *]) | (with_reducible exact Lt.mono (by assumption) (by decide)) | (simp only [Cs.len]; done) | rfl)) rfl rfl ?_
        refine CertK.vd (Y.ia0 ty71 ty24 (up0 rfl rfl rfl) rfl rfl rfl (by first | (with_reducible assumption) | omega | (simp only [lens, rfold_it1_l, rfold_it2_l1, rfold_it3_l, *]; first | done | omega) | decide | (split <;> simp only [lens, rfold_it1_l, rfold_it2_l1, rfold_it3_l, *]) | (with_reducible exact Lt.mono (by assumption) (by decide)) | (simp only [Cs.len]; done) | rfl)) rfl rfl ?_
        refine CertK.vd (Y.ldI ty24 rfl (up0 rfl rfl rfl) rfl rfl rfl (by first | (with_reducible assumption) | omega | (simp only [lens, rfold_it1_l, rfold_it2_l1, rfold_it3_l, *]; first | done | omega) | decide | (split <;> simp only [lens, rfold_it1_l, rfold_it2_l1, rfold_it3_l, *]) | (with_reducible exact Lt.mono (by assumption) (by decide)) | (simp only [Cs.len]; done) | rfl)) rfl rfl ?_
        refine CertK.vd (Y.mul (a := 38) u64s u64m (up0 rfl rfl rfl) rfl rfl rfl) rfl rfl ?_
        refine CertK.vd (Y.add u64s u64m (up0 rfl rfl rfl) rfl rfl rfl) rfl rfl ?_
        refine CertK.v (Y.ia0 ty71 ty24 (up0 rfl rfl rfl) rfl rfl rfl (by first | (with_reducible assumption) | omega | (simp only [lens, rfold_it1_l, rfold_it2_l1, rfold_it3_l, *]; first | done | omega) | decide | (split <;> simp only [lens, rfold_it1_l, rfold_it2_l1, rfold_it3_l, *]) | (with_reducible exact Lt.mono (by assumption) (by decide)) | (simp only [Cs.len]; done) | rfl)) rfl ?_
        refine CertK.n (Y.stI ty24 (upN rfl rfl) rfl rfl rfl rfl (by first | (with_reducible assumption) | omega | (simp only [lens, rfold_it1_l, rfold_it2_l1, rfold_it3_l, *]; first | done | omega) | decide | (split <;> simp only [lens, rfold_it1_l, rfold_it2_l1, rfold_it3_l, *]) | (with_reducible exact Lt.mono (by assumption) (by decide)) | (simp only [Cs.len]; done) | rfl)) rfl rfl rfl rfl ?_
        refine CertK.nil ?_
        refine Holds.reg ?_
        refine OpsFrom.v (Y.move (up0 rfl rfl rfl) rfl rfl) rfl ?_
        refine OpsFrom.v (Y.addI (b := 16) (up0 rfl rfl rfl) rfl rfl rfl (by first | (with_reducible assumption) | omega | (simp only [lens, rfold_it1_l, rfold_it2_l1, rfold_it3_l, *]; first | done | omega) | decide | (split <;> simp only [lens, rfold_it1_l, rfold_it2_l1, rfold_it3_l, *]) | (with_reducible exact Lt.mono (by assumption) (by decide)) | (simp only [Cs.len]; done) | rfl)) rfl ?_
        refine OpsFrom.v (Y.ia0 ty71 ty24 (up0 rfl rfl rfl) rfl rfl rfl (by first | (with_reducible assumption) | omega | (simp only [lens, rfold_it1_l, rfold_it2_l1, rfold_it3_l, *]; first | done | omega) | decide | (split <;> simp only [lens, rfold_it1_l, rfold_it2_l1, rfold_it3_l, *]) | (with_reducible exact Lt.mono (by assumption) (by decide)) | (simp only [Cs.len]; done) | rfl)) rfl ?_
        refine OpsFrom.n (Y.stI ty24 (upN rfl rfl) rfl rfl rfl rfl (by first | (with_reducible assumption) | omega | (simp only [lens, rfold_it1_l, rfold_it2_l1, rfold_it3_l, *]; first | done | omega) | decide | (split <;> simp only [lens, rfold_it1_l, rfold_it2_l1, rfold_it3_l, *]) | (with_reducible exact Lt.mono (by assumption) (by decide)) | (simp only [Cs.len]; done) | rfl)) rfl rfl ?_
        refine OpsFrom.nil ?_
        refine Holds.reg ?_
        refine OpsFrom.v (Y.move (up0 rfl rfl rfl) rfl rfl) rfl ?_
        refine OpsFrom.v (Y.addI (b := 1) (up0 rfl rfl rfl) rfl rfl rfl (by first | (with_reducible assumption) | omega | (simp only [lens, rfold_it1_l, rfold_it2_l1, rfold_it3_l, *]; first | done | omega) | decide | (split <;> simp only [lens, rfold_it1_l, rfold_it2_l1, rfold_it3_l, *]) | (with_reducible exact Lt.mono (by assumption) (by decide)) | (simp only [Cs.len]; done) | rfl)) rfl ?_
        refine OpsFrom.v (Y.assign (up0 rfl rfl rfl) rfl rfl) rfl ?_
        refine OpsFrom.nil ?_
        exact Holds.again (i3_ + 1) (by omega) (by omega) [] ⟨⟨rfl, rfl, rfl, rfl, rfl, rfl, rfl, rfl, rfl, (nEq (by omega)), trivial⟩, ⟨(hEq (by rw [rfold_it3_s]; unfold rfold_s3; first | (dsimp only; done) | rfl)), rfl, trivial⟩, rfl, rfl⟩
      · obtain rfl : i3_ = 16 := by omega
        refine Holds.exit ?_
        refine Holds.reg ?_
        refine OpsFrom.v (Y.move (up0 rfl rfl rfl) rfl rfl) rfl ?_
        refine OpsFrom.v (Y.addI (b := 1) (up0 rfl rfl rfl) rfl rfl rfl (by first | (with_reducible assumption) | omega | (simp only [lens, rfold_it1_l, rfold_it2_l1, rfold_it3_l, *]; first | done | omega) | decide | (split <;> simp only [lens, rfold_it1_l, rfold_it2_l1, rfold_it3_l, *]) | (with_reducible exact Lt.mono (by assumption) (by decide)) | (simp only [Cs.len]; done) | rfl)) rfl ?_
        refine OpsFrom.v (Y.assign (up0 rfl rfl rfl) rfl rfl) rfl ?_
        refine OpsFrom.nil ?_
        exact Holds.again (i1_ + 1) (by omega) (by omega) [] ⟨⟨rfl, rfl, (nEq (by omega)), trivial⟩, ⟨(hEq (by rw [rfold_it1_s]; unfold rfold_s1; first | (dsimp only; done) | rfl)), rfl, trivial⟩, rfl, rfl⟩
  · obtain rfl : i1_ = 4 := by omega
    refine Holds.exit ?_
    refine Holds.seq ?_
    refine Holds.reg ?_
    refine OpsFrom.v (Y.assign (v := (.one (.n .u64 0))) (up0 rfl rfl rfl) rfl rfl) rfl ?_
    refine OpsFrom.nil ?_
    refine Holds.seq ?_
    refine Holds.reg ?_
    refine OpsFrom.v (Y.buildA ty31 ty24 rfl (up0 rfl rfl rfl) rfl (.nil _)) rfl ?_
    refine OpsFrom.u (Y.alloc (d := 9) ty31 rfl rfl (up0 rfl rfl rfl) rfl) rfl rfl rfl ?_
    refine OpsFrom.n (Y.stR ty31 (upN rfl rfl) rfl rfl rfl rfl rfl (by first | (with_reducible assumption) | omega | (simp only [lens, rfold_it1_l, *]; first | done | omega) | decide | (split <;> simp only [lens, rfold_it1_l, *]) | (with_reducible exact Lt.mono (by assumption) (by decide)) | (simp only [Cs.len]; done) | rfl) (by first | (with_reducible assumption) | omega | (simp only [lens, rfold_it1_l, *]; first | done | omega) | decide | (split <;> simp only [lens, rfold_it1_l, *]) | (with_reducible exact Lt.mono (by assumption) (by decide)) | (simp only [Cs.len]; done) | rfl) (by decide)) rfl rfl ?_
    refine OpsFrom.nil ?_
    refine Holds.seq ?_
    refine Holds.seq ?_
    refine Holds.reg ?_
    refine OpsFrom.v (Y.assign (v := (.one (.n .i64 0))) (up0 rfl rfl rfl) rfl rfl) rfl ?_
    refine OpsFrom.nil ?_
    refine Holds.block ?_
    refine Holds.loop (fun (i4_ : Nat) => ⟨[(1, .one (.p 1 0)), (2, .one (.p 2 0)), (8, .one (.n .u64 ((rfold_it4 l i4_).1))), (9, .one (.p 9 0)), (10, .one (.n .i64 i4_))], [(1, .own (.ints .u64 (rfold_it1 l 4))), (2, .own (.ints .u64 (List.replicate 16 0))), (9, .own (.ints .u64 ((rfold_it4 l i4_).2)))]⟩) (fun (i4_ : Nat) => i4_ ≤ 16) (fun (i4_ : Nat) => 16 - i4_) 0 (by first | (with_reducible assumption) | omega | (simp only [lens, rfold_it1_l, rfold_it4_l1, *]; first | done | omega) | decide | (split <;> simp only [lens, rfold_it1_l, rfold_it4_l1, *]) | (with_reducible exact Lt.mono (by assumption) (by decide)) | (simp only [Cs.len]; done) | rfl) [] ⟨⟨rfl, rfl, (nEq (congrArg (fun (s : Nat × (List Nat)) => s.1) (rfold_it4_z l)).symm), rfl, rfl, trivial⟩, ⟨rfl, rfl, (hEq (congrArg (fun (s : Nat × (List Nat)) => s.2) (rfold_it4_z l)).symm), trivial⟩, rfl, rfl⟩ ?_
    intro i4_ k4_
    refine Holds.seq ?_
    refine Holds.seq ?_
    refine Holds.reg ?_
    refine OpsFrom.v (Y.move (up0 rfl rfl rfl) rfl rfl) rfl ?_
    refine OpsFrom.v (Y.lss (b := 16) (up0 rfl rfl rfl) rfl rfl rfl) rfl ?_
    refine OpsFrom.nil ?_
    refine Holds.condD rfl (fun h52 => ?_) (fun h52 => ?_)
    · refine Holds.skip ?_
      refine Holds.seq ?_
      refine Holds.block ?_
      refine Holds.seq ?_
      refine Holds.reg ?_
      refine OpsFrom.v (Y.move (up0 rfl rfl rfl) rfl rfl) rfl ?_
      refine OpsFrom.v (Y.ia0 ty71 ty24 (up0 rfl rfl rfl) rfl rfl rfl (by first | (with_reducible assumption) | omega | (simp only [lens, rfold_it1_l, rfold_it4_l1, *]; first | done | omega) | decide | (split <;> simp only [lens, rfold_it1_l, rfold_it4_l1, *]) | (with_reducible exact Lt.mono (by assumption) (by decide)) | (simp only [Cs.len]; done) | rfl)) rfl ?_
      refine OpsFrom.v (Y.ldI ty24 rfl (up0 rfl rfl rfl) rfl rfl rfl (by first | (with_reducible assumption) | omega | (simp only [lens, rfold_it1_l, rfold_it4_l1, *]; first | done | omega) | decide | (split <;> simp only [lens, rfold_it1_l, rfold_it4_l1, *]) | (with_reducible exact Lt.mono (by assumption) (by decide)) | (simp only [Cs.len]; done) | rfl)) rfl ?_
      refine OpsFrom.v (Y.move (up0 rfl rfl rfl) rfl rfl) rfl ?_
      refine OpsFrom.v (Y.add u64s u64m (up0 rfl rfl rfl) rfl rfl rfl) rfl ?_
      refine OpsFrom.v (Y.assign (up0 rfl rfl rfl) rfl rfl) rfl ?_
      refine OpsFrom.nil ?_
      refine Holds.seq ?_
      refine Holds.reg ?_
      refine OpsFrom.v (Y.move (up0 rfl rfl rfl) rfl rfl) rfl ?_
      refine OpsFrom.v (Y.move (up0 rfl rfl rfl) rfl rfl) rfl ?_
      refine OpsFrom.v (Y.rem (b := 65536) (up0 rfl rfl rfl) rfl rfl rfl (by decide)) rfl ?_
      refine OpsFrom.v (Y.ia0 ty31 ty24 (up0 rfl rfl rfl) rfl rfl rfl (by first | (with_reducible assumption) | omega | (simp only [lens, rfold_it1_l, rfold_it4_l1, *]; first | done | omega) | decide | (split <;> simp only [lens, rfold_it1_l, rfold_it4_l1, *]) | (with_reducible exact Lt.mono (by assumption) (by decide)) | (simp only [Cs.len]; done) | rfl)) rfl ?_
      refine OpsFrom.n (Y.stI ty24 (upN rfl rfl) rfl rfl rfl rfl (by first | (with_reducible assumption) | omega | (simp only [lens, rfold_it1_l, rfold_it4_l1, *]; first | done | omega) | decide | (split <;> simp only [lens, rfold_it1_l, rfold_it4_l1, *]) | (with_reducible exact Lt.mono (by assumption) (by decide)) | (simp only [Cs.len]; done) | rfl)) rfl rfl ?_
      refine OpsFrom.nil ?_
      refine Holds.reg ?_
      refine OpsFrom.v (Y.move (up0 rfl rfl rfl) rfl rfl) rfl ?_
      refine OpsFrom.v (Y.quo (b := 65536) u64s u64m (up0 rfl rfl rfl) rfl rfl rfl (by decide)) rfl ?_
      refine OpsFrom.v (Y.assign (up0 rfl rfl rfl) rfl rfl) rfl ?_
      refine OpsFrom.nil ?_
      refine Holds.reg ?_
      refine OpsFrom.v (Y.move (up0 rfl rfl rfl) rfl rfl) rfl ?_
      refine OpsFrom.v (Y.addI (b := 1) (up0 rfl rfl rfl) rfl rfl rfl (by first | (with_reducible assumption) | omega | (simp only [lens, rfold_it1_l, rfold_it4_l1, *]; first | done | omega) | decide | (split <;> simp only [lens, rfold_it1_l, rfold_it4_l1, *]) | (with_reducible exact Lt.mono (by assumption) (by decide)) | (simp only [Cs.len]; done) | rfl)) rfl ?_
      refine OpsFrom.v (Y.assign (up0 rfl rfl rfl) rfl rfl) rfl ?_
      refine OpsFrom.nil ?_
      exact Holds.again (i4_ + 1) (by omega) (by omega) [] ⟨⟨rfl, rfl, (nEq (by rw [rfold_it4_s]; unfold rfold_s4; first | (dsimp only; done) | rfl)), rfl, (nEq (by omega)), trivial⟩, ⟨rfl, rfl, (hEq (by rw [rfold_it4_s]; unfold rfold_s4; first | (dsimp only; done) | rfl)), trivial⟩, rfl, rfl⟩
    · obtain rfl : i4_ = 16 := by omega
      refine Holds.exit ?_
      refine Holds.seq ?_
      refine Holds.reg ?_
      refine OpsFrom.v (Y.callV w_rP fnok48 (up0 rfl rfl rfl) rfl rfl .nil .nil rfl rfl) rfl ?_
      refine OpsFrom.u (Y.alloc (d := 12) ty31 rfl rfl (up0 rfl rfl rfl) rfl) rfl rfl rfl ?_
      refine OpsFrom.n (Y.stR ty31 (upN rfl rfl) rfl rfl rfl rfl rfl (by first | (with_reducible assumption) | omega | (simp only [lens, rfold_it1_l, rfold_it4_l1, rP_len, *]; first | done | omega) | decide | (split <;> simp only [lens, rfold_it1_l, rfold_it4_l1, rP_len, *]) | (with_reducible exact Lt.mono (by assumption) (by decide)) | (simp only [Cs.len]; done) | rfl) (by first | (with_reducible assumption) | omega | (simp only [lens, rfold_it1_l, rfold_it4_l1, rP_len, *]; first | done | omega) | decide | (split <;> simp only [lens, rfold_it1_l, rfold_it4_l1, rP_len, *]) | (with_reducible exact Lt.mono (by assumption) (by decide)) | (simp only [Cs.len]; done) | rfl) (by decide)) rfl rfl ?_
      refine OpsFrom.nil ?_
      refine Holds.seq ?_
      refine Holds.block ?_
      refine Holds.loop (fun (i5_ : Nat) => ⟨[(2, .one (.p 2 0)), (9, .one (.p 9 0)), (12, .one (.p 12 0))], [(2, .own (.ints .u64 (List.replicate 16 0))), (9, .own (.ints .u64 (rfold_it5 l i5_))), (12, .own (.ints .u64 rP))]⟩) (fun (i5_ : Nat) => i5_ ≤ (val 65536 (rfold_it4 l 16).2 / 57896044618658097711785492504343953926634992332820282019728792003956564819949)) (fun (i5_ : Nat) => (val 65536 (rfold_it4 l 16).2 / 57896044618658097711785492504343953926634992332820282019728792003956564819949) - i5_) 0 (by first | (with_reducible assumption) | omega | (simp only [lens, rfold_it1_l, rfold_it4_l1, rP_len, *]; first | done | omega) | decide | (split <;> simp only [lens, rfold_it1_l, rfold_it4_l1, rP_len, *]) | (with_reducible exact Lt.mono (by assumption) (by decide)) | (simp only [Cs.len]; done) | rfl) [] ⟨⟨rfl, rfl, rfl, trivial⟩, ⟨rfl, (hEq (congrArg (fun (s : List Nat) => s) (rfold_it5_z l)).symm), rfl, trivial⟩, rfl, rfl⟩ ?_
      intro i5_ k5_
      have ho := (rfold_o l i5_ k5_).1
      have hol := (rfold_o l i5_ k5_).2.1
      have hpl := rP_lt
      refine Holds.seq ?_
      refine Holds.seq ?_
      refine Holds.reg ?_
      refine OpsFrom.v (Y.ldAll ty31 rfl (up0 rfl rfl rfl) rfl rfl rfl (by first | (with_reducible assumption) | omega | (simp only [lens, rfold_it1_l, rfold_it4_l1, rP_len, *]; first | done | omega) | decide | (split <;> simp only [lens, rfold_it1_l, rfold_it4_l1, rP_len, *]) | (with_reducible exact Lt.mono (by assumption) (by decide)) | (simp only [Cs.len]; done) | rfl) (by decide)) rfl ?_
      refine OpsFrom.v (Y.ldAll ty31 rfl (up0 rfl rfl rfl) rfl rfl rfl (by first | (with_reducible assumption) | omega | (simp only [lens, rfold_it1_l, rfold_it4_l1, rP_len, *]; first | done | omega) | decide | (split <;> simp only [lens, rfold_it1_l, rfold_it4_l1, rP_len, *]) | (with_reducible exact Lt.mono (by assumption) (by decide)) | (simp only [Cs.len]; done) | rfl) (by decide)) rfl ?_
      refine OpsFrom.v (Y.callV (w59 _ _ (by first | (with_reducible assumption) | omega | (simp only [lens, rfold_it1_l, rfold_it4_l1, rP_len, *]; first | done | omega) | decide | (split <;> simp only [lens, rfold_it1_l, rfold_it4_l1, rP_len, *]) | (with_reducible exact Lt.mono (by assumption) (by decide)) | (simp only [Cs.len]; done) | rfl) (by first | (with_reducible assumption) | omega | (simp only [lens, rfold_it1_l, rfold_it4_l1, rP_len, *]; first | done | omega) | decide | (split <;> simp only [lens, rfold_it1_l, rfold_it4_l1, rP_len, *]) | (with_reducible exact Lt.mono (by assumption) (by decide)) | (simp only [Cs.len]; done) | rfl) (by first | (with_reducible assumption) | omega | (simp only [lens, rfold_it1_l, rfold_it4_l1, rP_len, *]; first | done | omega) | decide | (split <;> simp only [lens, rfold_it1_l, rfold_it4_l1, rP_len, *]) | (with_reducible exact Lt.mono (by assumption) (by decide)) | (simp only [Cs.len]; done) | rfl) (by first | (with_reducible assumption) | omega | (simp only [lens, rfold_it1_l, rfold_it4_l1, rP_len, *]; first | done | omega) | decide | (split <;> simp only [lens, rfold_it1_l, rfold_it4_l1, rP_len, *]) | (with_reducible exact Lt.mono (by assumption) (by decide)) | (simp only [Cs.len]; done) | rfl)) fnok59 (up0 rfl rfl rfl) rfl rfl (.cons _ _ _ _ rfl (.cons _ _ _ _ rfl .nil)) (.cons _ _ _ _ (.same _) (.cons _ _ _ _ (.same _) .nil)) rfl rfl) rfl ?_
      refine OpsFrom.v (Y.not (up0 rfl rfl rfl) rfl rfl) rfl ?_
      refine OpsFrom.nil ?_
      refine Holds.cond _ rfl (fun h70 => ?_) (fun h70 => ?_)
      · have h5c := (rfold_iff l k5_).1 h70
        refine Holds.skip ?_
        refine Holds.block ?_
        refine Holds.reg ?_
        refine OpsFrom.v (Y.ldAll ty31 rfl (up0 rfl rfl rfl) rfl rfl rfl (by first | (with_reducible assumption) | omega | (simp only [lens, rfold_it1_l, rfold_it4_l1, rP_len, *]; first | done | omega) | decide | (split <;> simp only [lens, rfold_it1_l, rfold_it4_l1, rP_len, *]) | (with_reducible exact Lt.mono (by assumption) (by decide)) | (simp only [Cs.len]; done) | rfl) (by decide)) rfl ?_
        refine OpsFrom.v (Y.ldAll ty31 rfl (up0 rfl rfl rfl) rfl rfl rfl (by first | (with_reducible assumption) | omega | (simp only [lens, rfold_it1_l, rfold_it4_l1, rP_len, *]; first | done | omega) | decide | (split <;> simp only [lens, rfold_it1_l, rfold_it4_l1, rP_len, *]) | (with_reducible exact Lt.mono (by assumption) (by decide)) | (simp only [Cs.len]; done) | rfl) (by decide)) rfl ?_
        refine OpsFrom.v (Y.callV (w_rless _ _ (by first | (with_reducible assumption) | omega | (simp only [lens, rfold_it1_l, rfold_it4_l1, rP_len, rless_len, *]; first | done | omega) | decide | (split <;> simp only [lens, rfold_it1_l, rfold_it4_l1, rP_len, rless_len, *]) | (with_reducible exact Lt.mono (by assumption) (by decide)) | (simp only [Cs.len]; done) | rfl) (by first | (with_reducible assumption) | omega | (simp only [lens, rfold_it1_l, rfold_it4_l1, rP_len, rless_len, *]; first | done | omega) | decide | (split <;> simp only [lens, rfold_it1_l, rfold_it4_l1, rP_len, rless_len, *]) | (with_reducible exact Lt.mono (by assumption) (by decide)) | (simp only [Cs.len]; done) | rfl) (by first | (with_reducible assumption) | omega | (simp only [lens, rfold_it1_l, rfold_it4_l1, rP_len, rless_len, *]; first | done | omega) | decide | (split <;> simp only [lens, rfold_it1_l, rfold_it4_l1, rP_len, rless_len, *]) | (with_reducible exact Lt.mono (by assumption) (by decide)) | (simp only [Cs.len]; done) | rfl) (by first | (with_reducible assumption) | omega | (simp only [lens, rfold_it1_l, rfold_it4_l1, rP_len, rless_len, *]; first | done | omega) | decide | (split <;> simp only [lens, rfold_it1_l, rfold_it4_l1, rP_len, rless_len, *]) | (with_reducible exact Lt.mono (by assumption) (by decide)) | (simp only [Cs.len]; done) | rfl)) fnok47 (up0 rfl rfl rfl) rfl rfl (.cons _ _ _ _ rfl (.cons _ _ _ _ rfl .nil)) (.cons _ _ _ _ (.same _) (.cons _ _ _ _ (.same _) .nil)) rfl rfl) rfl ?_
        refine OpsFrom.n (Y.stR ty31 (upN rfl rfl) rfl rfl rfl rfl rfl (by first | (with_reducible assumption) | omega | (simp only [lens, rfold_it1_l, rfold_it4_l1, rP_len, rless_len, *]; first | done | omega) | decide | (split <;> simp only [lens, rfold_it1_l, rfold_it4_l1, rP_len, rless_len, *]) | (with_reducible exact Lt.mono (by assumption) (by decide)) | (simp only [Cs.len]; done) | rfl) (by first | (with_reducible assumption) | omega | (simp only [lens, rfold_it1_l, rfold_it4_l1, rP_len, rless_len, *]; first | done | omega) | decide | (split <;> simp only [lens, rfold_it1_l, rfold_it4_l1, rP_len, rless_len, *]) | (with_reducible exact Lt.mono (by assumption) (by decide)) | (simp only [Cs.len]; done) | rfl) (by decide)) rfl rfl ?_
        refine OpsFrom.nil ?_
        exact Holds.again (i5_ + 1) (by omega) (by omega) [] ⟨⟨rfl, rfl, rfl, trivial⟩, ⟨rfl, (hEq (by rw [rfold_it5_s]; unfold rfold_s5; first | (dsimp only; done) | rfl)), rfl, trivial⟩, rfl, rfl⟩
      · have h5c : ¬ (i5_ < (val 65536 (rfold_it4 l 16).2 / 57896044618658097711785492504343953926634992332820282019728792003956564819949)) := by
          intro q
          have q2 := (rfold_iff l k5_).2 q
          first | exact h70 q2 | exact q2 h70 | (rw [h70] at q2; cases q2)
        obtain rfl : i5_ = val 65536 (rfold_it4 l 16).2 / 57896044618658097711785492504343953926634992332820282019728792003956564819949 := by omega
        refine Holds.exit ?_
        refine Holds.seq ?_
        refine Holds.reg ?_
        refine OpsFrom.v (Y.ldAll ty31 rfl (up0 rfl rfl rfl) rfl rfl rfl (by first | (with_reducible assumption) | omega | (simp only [lens, rfold_it1_l, rfold_it4_l1, rP_len, *]; first | done | omega) | decide | (split <;> simp only [lens, rfold_it1_l, rfold_it4_l1, rP_len, *]) | (with_reducible exact Lt.mono (by assumption) (by decide)) | (simp only [Cs.len]; done) | rfl) (by decide)) rfl ?_
        refine OpsFrom.n (Y.stR ty31 (upN rfl rfl) rfl rfl rfl rfl rfl (by first | (with_reducible assumption) | omega | (simp only [lens, rfold_it1_l, rfold_it4_l1, rP_len, *]; first | done | omega) | decide | (split <;> simp only [lens, rfold_it1_l, rfold_it4_l1, rP_len, *]) | (with_reducible exact Lt.mono (by assumption) (by decide)) | (simp only [Cs.len]; done) | rfl) (by first | (with_reducible assumption) | omega | (simp only [lens, rfold_it1_l, rfold_it4_l1, rP_len, *]; first | done | omega) | decide | (split <;> simp only [lens, rfold_it1_l, rfold_it4_l1, rP_len, *]) | (with_reducible exact Lt.mono (by assumption) (by decide)) | (simp only [Cs.len]; done) | rfl) (by decide)) rfl rfl ?_
        refine OpsFrom.nil ?_
        refine Holds.ret ?_
        exact Holds.ret1 (.inl rfl) rfl (.rowN rfl rfl ty31 rfl (by first | (with_reducible assumption) | omega | (simp only [lens, rfold_it1_l, rfold_it4_l1, rP_len, *]; first | done | omega) | decide | (split <;> simp only [lens, rfold_it1_l, rfold_it4_l1, rP_len, *]) | (with_reducible exact Lt.mono (by assumption) (by decide)) | (simp only [Cs.len]; done) | rfl) (by decide)) (.same _) rfl

theorem rfold_l (l : List Nat) : (rfold l).length = 16 := by unfold rfold; exact (rfold_o l _ (Nat.le_refl _)).2.1
theorem rfold_lt (l : List Nat) : Lt 65536 (rfold l) := by unfold rfold; exact (rfold_o l _ (Nat.le_refl _)).1
attribute [irreducible] rfold

end Go.Proofs.Ytnfiiclmbiiokaa
