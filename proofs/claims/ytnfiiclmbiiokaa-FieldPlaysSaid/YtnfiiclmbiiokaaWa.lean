/-
  Walks: carries, words, the least limbs.
-/
import Derived.Test.YtnfiiclmbiiokaaFt
namespace Go.Proofs.Ytnfiiclmbiiokaa
open Go Go.Fx
set_option linter.unusedVariables false
set_option linter.unusedSimpArgs false
def car_s1 (l : List Nat) (i1_ : Nat) (m1_ : (List Nat) × (List Nat)) : (List Nat) × (List Nat) :=
  let v5_ : List Nat := m1_.2.set i1_ ((m1_.1.getD i1_ 0) / 2 ^ 51)
  let v6_ : List Nat := m1_.1.set i1_ ((m1_.1.getD i1_ 0) &&& 2251799813685247)
  (v6_, v5_)
def car_it1 (l : List Nat) (i1_ : Nat) : (List Nat) × (List Nat) := iter (car_s1 l) i1_ (l, List.replicate 5 0)
theorem car_it1_z (l : List Nat) : car_it1 l 0 = (l, List.replicate 5 0) := rfl
theorem car_it1_s (l : List Nat) (i1_ : Nat) : car_it1 l (i1_ + 1) = car_s1 l i1_ (car_it1 l i1_) := by unfold car_it1; exact iterS _ _ _
theorem car_it1_l0 (l : List Nat) (i1_ : Nat) : ((car_it1 l i1_).1).length = (l : List Nat).length := iter_inv (fun (s : (List Nat) × (List Nat)) => (s.1).length = (l : List Nat).length) (by simp) (fun i s h => by
  unfold car_s1
  first | (simp [h]; done) | (dsimp only; (repeat' split) <;> simp [h])) i1_
theorem car_it1_l1 (l : List Nat) (i1_ : Nat) : ((car_it1 l i1_).2).length = (List.replicate 5 0 : List Nat).length := iter_inv (fun (s : (List Nat) × (List Nat)) => (s.2).length = (List.replicate 5 0 : List Nat).length) (by simp) (fun i s h => by
  unfold car_s1
  first | (simp [h]; done) | (dsimp only; (repeat' split) <;> simp [h])) i1_
def car_s2 (l : List Nat) (i2_ : Nat) (m2_ : List Nat) : List Nat :=
  let v15_ : Nat := ((m2_.getD (i2_ + 1) 0) + (((car_it1 l 5).2).getD i2_ 0)) % 18446744073709551616
  m2_.set (i2_ + 1) v15_
def car_it2 (l : List Nat) (i2_ : Nat) : List Nat := iter (car_s2 l) i2_ (((car_it1 l 5).1).set 0 (((((car_it1 l 5).1).getD 0 0) + (19 * (((car_it1 l 5).2).getD 4 0) % 18446744073709551616)) % 18446744073709551616))
theorem car_it2_z (l : List Nat) : car_it2 l 0 = ((car_it1 l 5).1).set 0 (((((car_it1 l 5).1).getD 0 0) + (19 * (((car_it1 l 5).2).getD 4 0) % 18446744073709551616)) % 18446744073709551616) := rfl
theorem car_it2_s (l : List Nat) (i2_ : Nat) : car_it2 l (i2_ + 1) = car_s2 l i2_ (car_it2 l i2_) := by unfold car_it2; exact iterS _ _ _
theorem car_it2_l (l : List Nat) (i2_ : Nat) : ((car_it2 l i2_)).length = (((car_it1 l 5).1).set 0 (((((car_it1 l 5).1).getD 0 0) + (19 * (((car_it1 l 5).2).getD 4 0) % 18446744073709551616)) % 18446744073709551616) : List Nat).length := iter_inv (fun (s : List Nat) => (s).length = (((car_it1 l 5).1).set 0 (((((car_it1 l 5).1).getD 0 0) + (19 * (((car_it1 l 5).2).getD 4 0) % 18446744073709551616)) % 18446744073709551616) : List Nat).length) (by simp) (fun i s h => by
  unfold car_s2
  first | (simp [car_it1_l0, car_it1_l1, h]; done) | (dsimp only; (repeat' split) <;> simp [car_it1_l0, car_it1_l1, h])) i2_
def car (l : List Nat) : List Nat :=
  (car_it2 l 4)
theorem car_len (l : List Nat) (l_l : l.length = 5) : ((car l)).length = 5 := by
  unfold car
  first | (simp [car_it1_l0, car_it1_l1, car_it2_l]; done) | (simp [*, car_it1_l0, car_it1_l1, car_it2_l]; done) | (dsimp only; (repeat' split) <;> simp [*, car_it1_l0, car_it1_l1, car_it2_l])
theorem w_car (l : List Nat) (l_l : l.length = 5) : VC Try.prog 44 [.row (.ints .u64 l)] (.row (.ints .u64 (car l))) := by
  refine VC.go Try.func44 rfl Try.ntmps44 rfl rfl fun O w => ?_
  refine Holds.seq ?_
  refine Holds.reg ?_
  refine OpsFrom.u (Y.boxR (d := 1) (up0 rfl rfl rfl) rfl rfl rfl) rfl rfl rfl ?_
  refine OpsFrom.u (Y.alloc (d := 2) ty27 rfl rfl (up0 rfl rfl rfl) rfl) rfl rfl rfl ?_
  refine OpsFrom.nil ?_
  refine Holds.seq ?_
  refine Holds.reg ?_
  refine OpsFrom.u (Y.alloc (d := 3) ty25 rfl rfl (up0 rfl rfl rfl) rfl) rfl rfl rfl ?_
  refine OpsFrom.nil ?_
  refine Holds.seq ?_
  refine Holds.seq ?_
  refine Holds.reg ?_
  refine OpsFrom.v (Y.move (v := (.one (.n .i64 0))) (up0 rfl rfl rfl) rfl rfl) rfl ?_
  refine OpsFrom.nil ?_
  refine Holds.block ?_
  refine Holds.loop (fun (i1_ : Nat) => ⟨[(1, .one (.p 1 0)), (2, .one (.p 2 0)), (3, .one (.p 3 0)), (6, .one (.n .i64 i1_))], [(1, .own (.ints .u64 ((car_it1 l i1_).1))), (2, .own (.ints .u64 (List.replicate 5 0))), (3, .own (.ints .u64 ((car_it1 l i1_).2)))]⟩) (fun (i1_ : Nat) => i1_ ≤ 5) (fun (i1_ : Nat) => 5 - i1_) 0 (by first | (with_reducible assumption) | omega | (simp only [lens, car_it1_l0, car_it1_l1, *]; first | done | omega) | decide | (split <;> simp only [lens, car_it1_l0, car_it1_l1, *]) | (with_reducible exact Lt.mono (by assumption) (by decide)) | (simp only [Cs.len]; done) | rfl) [] ⟨⟨rfl, rfl, rfl, rfl, trivial⟩, ⟨(hEq (congrArg (fun (s : (List Nat) × (List Nat)) => s.1) (car_it1_z l)).symm), rfl, (hEq (congrArg (fun (s : (List Nat) × (List Nat)) => s.2) (car_it1_z l)).symm), trivial⟩, rfl, rfl⟩ ?_
  intro i1_ k1_
  refine Holds.seq ?_
  refine Holds.reg ?_
  refine OpsFrom.v (Y.lss (b := 5) (up0 rfl rfl rfl) rfl rfl rfl) rfl ?_
  refine OpsFrom.nil ?_
  refine Holds.seq ?_
  refine Holds.condD rfl (fun h7 => ?_) (fun h7 => ?_)
  · refine Holds.skip ?_
    refine Holds.seq ?_
    refine Holds.block ?_
    refine Holds.seq ?_
    refine Holds.reg ?_
    refine OpsFrom.v (Y.move (up0 rfl rfl rfl) rfl rfl) rfl ?_
    refine OpsFrom.v (Y.assign (up0 rfl rfl rfl) rfl rfl) rfl ?_
    refine OpsFrom.nil ?_
    refine Holds.seq ?_
    refine Holds.reg ?_
    refine OpsFrom.v (Y.move (up0 rfl rfl rfl) rfl rfl) rfl ?_
    refine OpsFrom.v (Y.move (up0 rfl rfl rfl) rfl rfl) rfl ?_
    refine OpsFrom.v (Y.ia0 ty25 ty24 (up0 rfl rfl rfl) rfl rfl rfl (by first | (with_reducible assumption) | omega | (simp only [lens, car_it1_l0, car_it1_l1, *]; first | done | omega) | decide | (split <;> simp only [lens, car_it1_l0, car_it1_l1, *]) | (with_reducible exact Lt.mono (by assumption) (by decide)) | (simp only [Cs.len]; done) | rfl)) rfl ?_
    refine OpsFrom.v (Y.ldI ty24 rfl (up0 rfl rfl rfl) rfl rfl rfl (by first | (with_reducible assumption) | omega | (simp only [lens, car_it1_l0, car_it1_l1, *]; first | done | omega) | decide | (split <;> simp only [lens, car_it1_l0, car_it1_l1, *]) | (with_reducible exact Lt.mono (by assumption) (by decide)) | (simp only [Cs.len]; done) | rfl)) rfl ?_
    refine OpsFrom.v (Y.shr (b := 51) u64s u64m (up0 rfl rfl rfl) rfl rfl rfl) rfl ?_
    refine OpsFrom.v (Y.ia0 ty25 ty24 (up0 rfl rfl rfl) rfl rfl rfl (by first | (with_reducible assumption) | omega | (simp only [lens, car_it1_l0, car_it1_l1, *]; first | done | omega) | decide | (split <;> simp only [lens, car_it1_l0, car_it1_l1, *]) | (with_reducible exact Lt.mono (by assumption) (by decide)) | (simp only [Cs.len]; done) | rfl)) rfl ?_
    refine OpsFrom.n (Y.stI ty24 (upN rfl rfl) rfl rfl rfl rfl (by first | (with_reducible assumption) | omega | (simp only [lens, car_it1_l0, car_it1_l1, *]; first | done | omega) | decide | (split <;> simp only [lens, car_it1_l0, car_it1_l1, *]) | (with_reducible exact Lt.mono (by assumption) (by decide)) | (simp only [Cs.len]; done) | rfl)) rfl rfl ?_
    refine OpsFrom.nil ?_
    refine Holds.reg ?_
    refine OpsFrom.v (Y.move (up0 rfl rfl rfl) rfl rfl) rfl ?_
    refine OpsFrom.v (Y.ia0 ty25 ty24 (up0 rfl rfl rfl) rfl rfl rfl (by first | (with_reducible assumption) | omega | (simp only [lens, car_it1_l0, car_it1_l1, *]; first | done | omega) | decide | (split <;> simp only [lens, car_it1_l0, car_it1_l1, *]) | (with_reducible exact Lt.mono (by assumption) (by decide)) | (simp only [Cs.len]; done) | rfl)) rfl ?_
    refine OpsFrom.v (Y.ldI ty24 rfl (up0 rfl rfl rfl) rfl rfl rfl (by first | (with_reducible assumption) | omega | (simp only [lens, car_it1_l0, car_it1_l1, *]; first | done | omega) | decide | (split <;> simp only [lens, car_it1_l0, car_it1_l1, *]) | (with_reducible exact Lt.mono (by assumption) (by decide)) | (simp only [Cs.len]; done) | rfl)) rfl ?_
    refine OpsFrom.v (Y.and (b := 2251799813685247) u64s u64m (up0 rfl rfl rfl) rfl rfl rfl) rfl ?_
    refine OpsFrom.v (Y.ia0 ty25 ty24 (up0 rfl rfl rfl) rfl rfl rfl (by first | (with_reducible assumption) | omega | (simp only [lens, car_it1_l0, car_it1_l1, *]; first | done | omega) | decide | (split <;> simp only [lens, car_it1_l0, car_it1_l1, *]) | (with_reducible exact Lt.mono (by assumption) (by decide)) | (simp only [Cs.len]; done) | rfl)) rfl ?_
    refine OpsFrom.n (Y.stI ty24 (upN rfl rfl) rfl rfl rfl rfl (by first | (with_reducible assumption) | omega | (simp only [lens, car_it1_l0, car_it1_l1, *]; first | done | omega) | decide | (split <;> simp only [lens, car_it1_l0, car_it1_l1, *]) | (with_reducible exact Lt.mono (by assumption) (by decide)) | (simp only [Cs.len]; done) | rfl)) rfl rfl ?_
    refine OpsFrom.nil ?_
    refine Holds.reg ?_
    refine OpsFrom.v (Y.addI (b := 1) (up0 rfl rfl rfl) rfl rfl rfl (by first | (with_reducible assumption) | omega | (simp only [lens, car_it1_l0, car_it1_l1, *]; first | done | omega) | decide | (split <;> simp only [lens, car_it1_l0, car_it1_l1, *]) | (with_reducible exact Lt.mono (by assumption) (by decide)) | (simp only [Cs.len]; done) | rfl)) rfl ?_
    refine OpsFrom.v (Y.move (up0 rfl rfl rfl) rfl rfl) rfl ?_
    refine OpsFrom.nil ?_
    exact Holds.again (i1_ + 1) (by omega) (by omega) [] ⟨⟨rfl, rfl, rfl, (nEq (by omega)), trivial⟩, ⟨(hEq (by rw [car_it1_s]; unfold car_s1; first | (dsimp only; done) | rfl)), rfl, (hEq (by rw [car_it1_s]; unfold car_s1; first | (dsimp only; done) | rfl)), trivial⟩, rfl, rfl⟩
  · obtain rfl : i1_ = 5 := by omega
    refine Holds.exit ?_
    refine Holds.seq ?_
    refine Holds.reg ?_
    refine OpsFrom.v (Y.ia0 (i := 0) ty25 ty24 (up0 rfl rfl rfl) rfl rfl rfl (by first | (with_reducible assumption) | omega | (simp only [lens, car_it1_l0, car_it1_l1, *]; first | done | omega) | decide | (split <;> simp only [lens, car_it1_l0, car_it1_l1, *]) | (with_reducible exact Lt.mono (by assumption) (by decide)) | (simp only [Cs.len]; done) | rfl)) rfl ?_
    refine OpsFrom.v (Y.ldI ty24 rfl (up0 rfl rfl rfl) rfl rfl rfl (by first | (with_reducible assumption) | omega | (simp only [lens, car_it1_l0, car_it1_l1, *]; first | done | omega) | decide | (split <;> simp only [lens, car_it1_l0, car_it1_l1, *]) | (with_reducible exact Lt.mono (by assumption) (by decide)) | (simp only [Cs.len]; done) | rfl)) rfl ?_
    refine OpsFrom.v (Y.ia0 (i := 4) ty25 ty24 (up0 rfl rfl rfl) rfl rfl rfl (by first | (with_reducible assumption) | omega | (simp only [lens, car_it1_l0, car_it1_l1, *]; first | done | omega) | decide | (split <;> simp only [lens, car_it1_l0, car_it1_l1, *]) | (with_reducible exact Lt.mono (by assumption) (by decide)) | (simp only [Cs.len]; done) | rfl)) rfl ?_
    refine OpsFrom.v (Y.ldI ty24 rfl (up0 rfl rfl rfl) rfl rfl rfl (by first | (with_reducible assumption) | omega | (simp only [lens, car_it1_l0, car_it1_l1, *]; first | done | omega) | decide | (split <;> simp only [lens, car_it1_l0, car_it1_l1, *]) | (with_reducible exact Lt.mono (by assumption) (by decide)) | (simp only [Cs.len]; done) | rfl)) rfl ?_
    refine OpsFrom.v (Y.mul (a := 19) u64s u64m (up0 rfl rfl rfl) rfl rfl rfl) rfl ?_
    refine OpsFrom.v (Y.add u64s u64m (up0 rfl rfl rfl) rfl rfl rfl) rfl ?_
    refine OpsFrom.v (Y.ia0 (i := 0) ty25 ty24 (up0 rfl rfl rfl) rfl rfl rfl (by first | (with_reducible assumption) | omega | (simp only [lens, car_it1_l0, car_it1_l1, *]; first | done | omega) | decide | (split <;> simp only [lens, car_it1_l0, car_it1_l1, *]) | (with_reducible exact Lt.mono (by assumption) (by decide)) | (simp only [Cs.len]; done) | rfl)) rfl ?_
    refine OpsFrom.n (Y.stI ty24 (upN rfl rfl) rfl rfl rfl rfl (by first | (with_reducible assumption) | omega | (simp only [lens, car_it1_l0, car_it1_l1, *]; first | done | omega) | decide | (split <;> simp only [lens, car_it1_l0, car_it1_l1, *]) | (with_reducible exact Lt.mono (by assumption) (by decide)) | (simp only [Cs.len]; done) | rfl)) rfl rfl ?_
    refine OpsFrom.nil ?_
    refine Holds.seq ?_
    refine Holds.seq ?_
    refine Holds.reg ?_
    refine OpsFrom.v (Y.move (v := (.one (.n .i64 0))) (up0 rfl rfl rfl) rfl rfl) rfl ?_
    refine OpsFrom.nil ?_
    refine Holds.block ?_
    refine Holds.loop (fun (i2_ : Nat) => ⟨[(1, .one (.p 1 0)), (2, .one (.p 2 0)), (3, .one (.p 3 0)), (28, .one (.n .i64 i2_))], [(1, .own (.ints .u64 (car_it2 l i2_))), (2, .own (.ints .u64 (List.replicate 5 0))), (3, .own (.ints .u64 ((car_it1 l 5).2)))]⟩) (fun (i2_ : Nat) => i2_ ≤ 4) (fun (i2_ : Nat) => 4 - i2_) 0 (by first | (with_reducible assumption) | omega | (simp only [lens, car_it1_l0, car_it1_l1, car_it2_l, *]; first | done | omega) | decide | (split <;> simp only [lens, car_it1_l0, car_it1_l1, car_it2_l, *]) | (with_reducible exact Lt.mono (by assumption) (by decide)) | (simp only [Cs.len]; done) | rfl) [] ⟨⟨rfl, rfl, rfl, rfl, trivial⟩, ⟨(hEq (congrArg (fun (s : List Nat) => s) (car_it2_z l)).symm), rfl, rfl, trivial⟩, rfl, rfl⟩ ?_
    intro i2_ k2_
    refine Holds.seq ?_
    refine Holds.reg ?_
    refine OpsFrom.v (Y.lss (b := 4) (up0 rfl rfl rfl) rfl rfl rfl) rfl ?_
    refine OpsFrom.nil ?_
    refine Holds.seq ?_
    refine Holds.condD rfl (fun h29 => ?_) (fun h29 => ?_)
    · refine Holds.skip ?_
      refine Holds.seq ?_
      refine Holds.block ?_
      refine Holds.seq ?_
      refine Holds.reg ?_
      refine OpsFrom.v (Y.move (up0 rfl rfl rfl) rfl rfl) rfl ?_
      refine OpsFrom.v (Y.assign (up0 rfl rfl rfl) rfl rfl) rfl ?_
      refine OpsFrom.nil ?_
      refine Holds.dr mx [([31], [35, 36, 37]), ([32], [35, 36, 37]), ([33], [35, 36, 37]), ([34], [35, 36, 37]), ([35], [31, 32, 33, 34]), ([36], [31, 32, 33, 34]), ([37], [31, 32, 33, 34]), ([38], []), ([39], []), ([1], [])] (by kernel_rfl) ?_
      refine CertK.vd (Y.move (up0 rfl rfl rfl) rfl rfl) rfl rfl ?_
      refine CertK.vd (Y.addI (b := 1) (up0 rfl rfl rfl) rfl rfl rfl (by first | (with_reducible assumption) | omega | (simp only [lens, car_it1_l0, car_it1_l1, car_it2_l, *]; first | done | omega) | decide | (split <;> simp only [lens, car_it1_l0, car_it1_l1, car_it2_l, *]) | (with_reducible exact Lt.mono (by assumption) (by decide)) | (simp only [Cs.len]; done) | rfl)) rfl rfl ?_
      refine CertK.vd (Y.ia0 ty25 ty24 (up0 rfl rfl rfl) rfl rfl rfl (by first | (with_reducible assumption) | omega | (simp only [lens, car_it1_l0, car_it1_l1, car_it2_l, *]; first | done | omega) | decide | (split <;> simp only [lens, car_it1_l0, car_it1_l1, car_it2_l, *]) | (with_reducible exact Lt.mono (by assumption) (by decide)) | (simp only [Cs.len]; done) | rfl)) rfl rfl ?_
      refine CertK.vd (Y.ldI ty24 rfl (up0 rfl rfl rfl) rfl rfl rfl (by first | (with_reducible assumption) | omega | (simp only [lens, car_it1_l0, car_it1_l1, car_it2_l, *]; first | done | omega) | decide | (split <;> simp only [lens, car_it1_l0, car_it1_l1, car_it2_l, *]) | (with_reducible exact Lt.mono (by assumption) (by decide)) | (simp only [Cs.len]; done) | rfl)) rfl rfl ?_
      refine CertK.vd (Y.move (up0 rfl rfl rfl) rfl rfl) rfl rfl ?_
      refine CertK.vd (Y.ia0 ty25 ty24 (up0 rfl rfl rfl) rfl rfl rfl (by first | (with_reducible assumption) | omega | (simp only [lens, car_it1_l0, car_it1_l1, car_it2_l, *]; first | done | omega) | decide | (split <;> simp only [lens, car_it1_l0, car_it1_l1, car_it2_l, *]) | (with_reducible exact Lt.mono (by assumption) (by decide)) | (simp only [Cs.len]; done) | rfl)) rfl rfl ?_
      refine CertK.vd (Y.ldI ty24 rfl (up0 rfl rfl rfl) rfl rfl rfl (by first | (with_reducible assumption) | omega | (simp only [lens, car_it1_l0, car_it1_l1, car_it2_l, *]; first | done | omega) | decide | (split <;> simp only [lens, car_it1_l0, car_it1_l1, car_it2_l, *]) | (with_reducible exact Lt.mono (by assumption) (by decide)) | (simp only [Cs.len]; done) | rfl)) rfl rfl ?_
      refine CertK.v (Y.add u64s u64m (up0 rfl rfl rfl) rfl rfl rfl) rfl ?_
      refine CertK.v (Y.ia0 ty25 ty24 (up0 rfl rfl rfl) rfl rfl rfl (by first | (with_reducible assumption) | omega | (simp only [lens, car_it1_l0, car_it1_l1, car_it2_l, *]; first | done | omega) | decide | (split <;> simp only [lens, car_it1_l0, car_it1_l1, car_it2_l, *]) | (with_reducible exact Lt.mono (by assumption) (by decide)) | (simp only [Cs.len]; done) | rfl)) rfl ?_
      refine CertK.n (Y.stI ty24 (upN rfl rfl) rfl rfl rfl rfl (by first | (with_reducible assumption) | omega | (simp only [lens, car_it1_l0, car_it1_l1, car_it2_l, *]; first | done | omega) | decide | (split <;> simp only [lens, car_it1_l0, car_it1_l1, car_it2_l, *]) | (with_reducible exact Lt.mono (by assumption) (by decide)) | (simp only [Cs.len]; done) | rfl)) rfl rfl rfl rfl ?_
      refine CertK.nil ?_
      refine Holds.reg ?_
      refine OpsFrom.v (Y.addI (b := 1) (up0 rfl rfl rfl) rfl rfl rfl (by first | (with_reducible assumption) | omega | (simp only [lens, car_it1_l0, car_it1_l1, car_it2_l, *]; first | done | omega) | decide | (split <;> simp only [lens, car_it1_l0, car_it1_l1, car_it2_l, *]) | (with_reducible exact Lt.mono (by assumption) (by decide)) | (simp only [Cs.len]; done) | rfl)) rfl ?_
      refine OpsFrom.v (Y.move (up0 rfl rfl rfl) rfl rfl) rfl ?_
      refine OpsFrom.nil ?_
      exact Holds.again (i2_ + 1) (by omega) (by omega) [] ⟨⟨rfl, rfl, rfl, (nEq (by omega)), trivial⟩, ⟨(hEq (by rw [car_it2_s]; unfold car_s2; first | (dsimp only; done) | rfl)), rfl, rfl, trivial⟩, rfl, rfl⟩
    · obtain rfl : i2_ = 4 := by omega
      refine Holds.exit ?_
      refine Holds.seq ?_
      refine Holds.reg ?_
      refine OpsFrom.v (Y.ldAll ty25 rfl (up0 rfl rfl rfl) rfl rfl rfl (by first | (with_reducible assumption) | omega | (simp only [lens, car_it1_l0, car_it1_l1, car_it2_l, *]; first | done | omega) | decide | (split <;> simp only [lens, car_it1_l0, car_it1_l1, car_it2_l, *]) | (with_reducible exact Lt.mono (by assumption) (by decide)) | (simp only [Cs.len]; done) | rfl) (by decide)) rfl ?_
      refine OpsFrom.v (Y.buildT [(0, 5)] ty27 rfl (by kernel_rfl) (up0 rfl rfl rfl) rfl (.cons _ _ _ _ _ _ _ _ _ rfl rfl rfl (by unfold AV.clen Cs.len; exact (by first | (with_reducible assumption) | omega | (simp only [lens, car_it1_l0, car_it1_l1, car_it2_l, *]; first | done | omega) | decide | (split <;> simp only [lens, car_it1_l0, car_it1_l1, car_it2_l, *]) | (with_reducible exact Lt.mono (by assumption) (by decide)) | (simp only [Cs.len]; done) | rfl)) (Spl.all (by first | (with_reducible assumption) | omega | (simp only [lens, car_it1_l0, car_it1_l1, car_it2_l, *]; first | done | omega) | decide | (split <;> simp only [lens, car_it1_l0, car_it1_l1, car_it2_l, *]) | (with_reducible exact Lt.mono (by assumption) (by decide)) | (simp only [Cs.len]; done) | rfl)) (.nil _))) rfl ?_
      refine OpsFrom.n (Y.stR ty27 (upN rfl rfl) rfl rfl rfl rfl rfl (by first | (with_reducible assumption) | omega | (simp only [lens, car_it1_l0, car_it1_l1, car_it2_l, *]; first | done | omega) | decide | (split <;> simp only [lens, car_it1_l0, car_it1_l1, car_it2_l, *]) | (with_reducible exact Lt.mono (by assumption) (by decide)) | (simp only [Cs.len]; done) | rfl) (by first | (with_reducible assumption) | omega | (simp only [lens, car_it1_l0, car_it1_l1, car_it2_l, *]; first | done | omega) | decide | (split <;> simp only [lens, car_it1_l0, car_it1_l1, car_it2_l, *]) | (with_reducible exact Lt.mono (by assumption) (by decide)) | (simp only [Cs.len]; done) | rfl) (by decide)) rfl rfl ?_
      refine OpsFrom.nil ?_
      refine Holds.ret ?_
      exact Holds.ret1 (.inl rfl) rfl (.rowN rfl rfl ty27 rfl (by first | (with_reducible assumption) | omega | (simp only [lens, car_it1_l0, car_it1_l1, car_it2_l, *]; first | done | omega) | decide | (split <;> simp only [lens, car_it1_l0, car_it1_l1, car_it2_l, *]) | (with_reducible exact Lt.mono (by assumption) (by decide)) | (simp only [Cs.len]; done) | rfl) (by decide)) (.same _) rfl

def wrd_s1 (b : List Nat) (i1_ : Nat) (m1_ : Nat) : Nat :=
  let v3_ : Nat := (b.getD i1_ 0) * 2 ^ (8 * i1_) % 18446744073709551616
  m1_ ||| v3_
def wrd_it1 (b : List Nat) (i1_ : Nat) : Nat := iter (wrd_s1 b) i1_ 0
theorem wrd_it1_z (b : List Nat) : wrd_it1 b 0 = 0 := rfl
theorem wrd_it1_s (b : List Nat) (i1_ : Nat) : wrd_it1 b (i1_ + 1) = wrd_s1 b i1_ (wrd_it1 b i1_) := by unfold wrd_it1; exact iterS _ _ _
def wrd (b : List Nat) : Nat :=
  (wrd_it1 b 8)
theorem w_wrd (b : List Nat) (l_b : b.length = 8) : VC Try.prog 43 [.one (.bs false .u8 b)] (.one (.n .u64 (wrd b))) := by
  refine VC.go Try.func43 rfl Try.ntmps43 rfl rfl fun O w => ?_
  refine Holds.seq ?_
  refine Holds.reg ?_
  refine OpsFrom.v (Y.assign (v := (.one (.n .u64 0))) (up0 rfl rfl rfl) rfl rfl) rfl ?_
  refine OpsFrom.nil ?_
  refine Holds.seq ?_
  refine Holds.seq ?_
  refine Holds.reg ?_
  refine OpsFrom.v (Y.move (v := (.one (.n .i64 0))) (up0 rfl rfl rfl) rfl rfl) rfl ?_
  refine OpsFrom.nil ?_
  refine Holds.block ?_
  refine Holds.loop (fun (i1_ : Nat) => ⟨[(0, .one (.bs false .u8 b)), (2, .one (.n .u64 (wrd_it1 b i1_))), (4, .one (.n .i64 i1_))], []⟩) (fun (i1_ : Nat) => i1_ ≤ 8) (fun (i1_ : Nat) => 8 - i1_) 0 (by first | (with_reducible assumption) | omega | (simp only [lens, *]; first | done | omega) | decide | (split <;> simp only [lens, *]) | (with_reducible exact Lt.mono (by assumption) (by decide)) | (simp only [Cs.len]; done) | rfl) [] ⟨⟨rfl, (nEq (congrArg (fun (s : Nat) => s) (wrd_it1_z b)).symm), rfl, trivial⟩, trivial, rfl, rfl⟩ ?_
  intro i1_ k1_
  refine Holds.seq ?_
  refine Holds.reg ?_
  refine OpsFrom.v (Y.lss (b := 8) (up0 rfl rfl rfl) rfl rfl rfl) rfl ?_
  refine OpsFrom.nil ?_
  refine Holds.seq ?_
  refine Holds.condD rfl (fun h5 => ?_) (fun h5 => ?_)
  · refine Holds.skip ?_
    refine Holds.seq ?_
    refine Holds.block ?_
    refine Holds.seq ?_
    refine Holds.reg ?_
    refine OpsFrom.v (Y.move (up0 rfl rfl rfl) rfl rfl) rfl ?_
    refine OpsFrom.v (Y.assign (up0 rfl rfl rfl) rfl rfl) rfl ?_
    refine OpsFrom.nil ?_
    refine Holds.reg ?_
    refine OpsFrom.v (Y.move (up0 rfl rfl rfl) rfl rfl) rfl ?_
    refine OpsFrom.v (Y.move (up0 rfl rfl rfl) rfl rfl) rfl ?_
    refine OpsFrom.v (Y.move (up0 rfl rfl rfl) rfl rfl) rfl ?_
    refine OpsFrom.v (Y.iaBs ty67 ty5 (up0 rfl rfl rfl) rfl rfl rfl (by first | (with_reducible assumption) | omega | (simp only [lens, *]; first | done | omega) | decide | (split <;> simp only [lens, *]) | (with_reducible exact Lt.mono (by assumption) (by decide)) | (simp only [Cs.len]; done) | rfl)) rfl ?_
    refine OpsFrom.v (Y.ldPc ty5 rfl (up0 rfl rfl rfl) rfl rfl) rfl ?_
    refine OpsFrom.v (Y.convUp ty5.u ty24.u rfl rfl (by decide) (up0 rfl rfl rfl) rfl rfl) rfl ?_
    refine OpsFrom.v (Y.move (up0 rfl rfl rfl) rfl rfl) rfl ?_
    refine OpsFrom.v (Y.mulI (a := 8) (up0 rfl rfl rfl) rfl rfl rfl (by first | (with_reducible assumption) | omega | (simp only [lens, *]; first | done | omega) | decide | (split <;> simp only [lens, *]) | (with_reducible exact Lt.mono (by assumption) (by decide)) | (simp only [Cs.len]; done) | rfl)) rfl ?_
    refine OpsFrom.v (Y.shl u64s u64m (up0 rfl rfl rfl) rfl rfl rfl) rfl ?_
    refine OpsFrom.v (Y.or u64s u64m (up0 rfl rfl rfl) rfl rfl rfl) rfl ?_
    refine OpsFrom.v (Y.assign (up0 rfl rfl rfl) rfl rfl) rfl ?_
    refine OpsFrom.nil ?_
    refine Holds.reg ?_
    refine OpsFrom.v (Y.addI (b := 1) (up0 rfl rfl rfl) rfl rfl rfl (by first | (with_reducible assumption) | omega | (simp only [lens, *]; first | done | omega) | decide | (split <;> simp only [lens, *]) | (with_reducible exact Lt.mono (by assumption) (by decide)) | (simp only [Cs.len]; done) | rfl)) rfl ?_
    refine OpsFrom.v (Y.move (up0 rfl rfl rfl) rfl rfl) rfl ?_
    refine OpsFrom.nil ?_
    exact Holds.again (i1_ + 1) (by omega) (by omega) [] ⟨⟨rfl, (nEq (by rw [wrd_it1_s]; unfold wrd_s1; first | (dsimp only; done) | rfl)), (nEq (by omega)), trivial⟩, trivial, rfl, rfl⟩
  · obtain rfl : i1_ = 8 := by omega
    refine Holds.exit ?_
    refine Holds.seq ?_
    refine Holds.reg ?_
    refine OpsFrom.v (Y.move (up0 rfl rfl rfl) rfl rfl) rfl ?_
    refine OpsFrom.v (Y.assign (up0 rfl rfl rfl) rfl rfl) rfl ?_
    refine OpsFrom.nil ?_
    refine Holds.ret ?_
    exact Holds.ret1 (.inl rfl) rfl (.tmp _ _ rfl) (.same _) rfl

def least_s1 (x : List Nat) (i1_ : Nat) (m1_ : Nat) : Nat :=
  let v4_ : Nat := (((car (car x)).getD (i1_ + 1) 0) + m1_) % 18446744073709551616
  v4_ / 2 ^ 51
def least_it1 (x : List Nat) (i1_ : Nat) : Nat := iter (least_s1 x) i1_ (((((car (car x)).getD 0 0) + 19) % 18446744073709551616) / 2 ^ 51)
theorem least_it1_z (x : List Nat) : least_it1 x 0 = ((((car (car x)).getD 0 0) + 19) % 18446744073709551616) / 2 ^ 51 := rfl
theorem least_it1_s (x : List Nat) (i1_ : Nat) : least_it1 x (i1_ + 1) = least_s1 x i1_ (least_it1 x i1_) := by unfold least_it1; exact iterS _ _ _
def least_s2 (x : List Nat) (i2_ : Nat) (m2_ : List Nat) : List Nat :=
  let v15_ : Nat := ((m2_.getD (i2_ + 1) 0) + ((m2_.getD i2_ 0) / 2 ^ 51)) % 18446744073709551616
  let v16_ : Nat := ((m2_.set (i2_ + 1) v15_).getD i2_ 0) &&& 2251799813685247
  (m2_.set (i2_ + 1) v15_).set i2_ v16_
def least_it2 (x : List Nat) (i2_ : Nat) : List Nat := iter (least_s2 x) i2_ ((car (car x)).set 0 ((((car (car x)).getD 0 0) + (19 * (least_it1 x 4) % 18446744073709551616)) % 18446744073709551616))
theorem least_it2_z (x : List Nat) : least_it2 x 0 = (car (car x)).set 0 ((((car (car x)).getD 0 0) + (19 * (least_it1 x 4) % 18446744073709551616)) % 18446744073709551616) := rfl
theorem least_it2_s (x : List Nat) (i2_ : Nat) : least_it2 x (i2_ + 1) = least_s2 x i2_ (least_it2 x i2_) := by unfold least_it2; exact iterS _ _ _
theorem least_it2_l (x : List Nat) (i2_ : Nat) : ((least_it2 x i2_)).length = ((car (car x)).set 0 ((((car (car x)).getD 0 0) + (19 * (least_it1 x 4) % 18446744073709551616)) % 18446744073709551616) : List Nat).length := iter_inv (fun (s : List Nat) => (s).length = ((car (car x)).set 0 ((((car (car x)).getD 0 0) + (19 * (least_it1 x 4) % 18446744073709551616)) % 18446744073709551616) : List Nat).length) (by simp) (fun i s h => by
  unfold least_s2
  first | (simp [car_len, h]; done) | (dsimp only; (repeat' split) <;> simp [car_len, h])) i2_
def least (x : List Nat) : List Nat :=
  let v19_ : Nat := ((least_it2 x 4).getD 4 0) &&& 2251799813685247
  (least_it2 x 4).set 4 v19_
theorem least_len (x : List Nat) (l_x : x.length = 5) : ((least x)).length = 5 := by
  unfold least
  first | (simp [car_len, least_it2_l]; done) | (simp [*, car_len, least_it2_l]; done) | (dsimp only; (repeat' split) <;> simp [*, car_len, least_it2_l])
theorem w_least (x : List Nat) (l_x : x.length = 5) : VC Try.prog 46 [.row (.ints .u64 x)] (.row (.ints .u64 (least x))) := by
  refine VC.go Try.func46 rfl Try.ntmps46 rfl rfl fun O w => ?_
  refine Holds.seq ?_
  refine Holds.reg ?_
  refine OpsFrom.u (Y.boxR (d := 1) (up0 rfl rfl rfl) rfl rfl rfl) rfl rfl rfl ?_
  refine OpsFrom.u (Y.alloc (d := 2) ty25 rfl rfl (up0 rfl rfl rfl) rfl) rfl rfl rfl ?_
  refine OpsFrom.nil ?_
  refine Holds.seq ?_
  refine Holds.reg ?_
  refine OpsFrom.v (Y.fa (f := 0) (fld := ⟨ "l", 25, 0, false, "", "fardel/field", 0⟩) ty27 rfl ty25 (by decide) (up0 rfl rfl rfl) rfl rfl) rfl ?_
  refine OpsFrom.v (Y.ldAll ty25 rfl (up0 rfl rfl rfl) rfl rfl rfl (by first | (with_reducible assumption) | omega | (simp only [lens, *]; first | done | omega) | decide | (split <;> simp only [lens, *]) | (with_reducible exact Lt.mono (by assumption) (by decide)) | (simp only [Cs.len]; done) | rfl) (by decide)) rfl ?_
  refine OpsFrom.v (Y.callV (w_car _ (by first | (with_reducible assumption) | omega | (simp only [lens, car_len, *]; first | done | omega) | decide | (split <;> simp only [lens, car_len, *]) | (with_reducible exact Lt.mono (by assumption) (by decide)) | (simp only [Cs.len]; done) | rfl)) fnok44 (up0 rfl rfl rfl) rfl rfl (.cons _ _ _ _ rfl .nil) (.cons _ _ _ _ (.same _) .nil) rfl rfl) rfl ?_
  refine OpsFrom.v (Y.fieldAll (f := 0) (fld := ⟨ "l", 25, 0, false, "", "fardel/field", 0⟩) ty27 rfl rfl ty25 rfl (up0 rfl rfl rfl) rfl rfl (by first | (with_reducible assumption) | omega | (simp only [lens, car_len, *]; first | done | omega) | decide | (split <;> simp only [lens, car_len, *]) | (with_reducible exact Lt.mono (by assumption) (by decide)) | (simp only [Cs.len]; done) | rfl)) rfl ?_
  refine OpsFrom.v (Y.callV (w_car _ (by first | (with_reducible assumption) | omega | (simp only [lens, car_len, *]; first | done | omega) | decide | (split <;> simp only [lens, car_len, *]) | (with_reducible exact Lt.mono (by assumption) (by decide)) | (simp only [Cs.len]; done) | rfl)) fnok44 (up0 rfl rfl rfl) rfl rfl (.cons _ _ _ _ rfl .nil) (.cons _ _ _ _ (.same _) .nil) rfl rfl) rfl ?_
  refine OpsFrom.v (Y.fieldAll (f := 0) (fld := ⟨ "l", 25, 0, false, "", "fardel/field", 0⟩) ty27 rfl rfl ty25 rfl (up0 rfl rfl rfl) rfl rfl (by first | (with_reducible assumption) | omega | (simp only [lens, car_len, *]; first | done | omega) | decide | (split <;> simp only [lens, car_len, *]) | (with_reducible exact Lt.mono (by assumption) (by decide)) | (simp only [Cs.len]; done) | rfl)) rfl ?_
  refine OpsFrom.u (Y.alloc (d := 3) ty25 rfl rfl (up0 rfl rfl rfl) rfl) rfl rfl rfl ?_
  refine OpsFrom.n (Y.stR ty25 (upN rfl rfl) rfl rfl rfl rfl rfl (by first | (with_reducible assumption) | omega | (simp only [lens, car_len, *]; first | done | omega) | decide | (split <;> simp only [lens, car_len, *]) | (with_reducible exact Lt.mono (by assumption) (by decide)) | (simp only [Cs.len]; done) | rfl) (by first | (with_reducible assumption) | omega | (simp only [lens, car_len, *]; first | done | omega) | decide | (split <;> simp only [lens, car_len, *]) | (with_reducible exact Lt.mono (by assumption) (by decide)) | (simp only [Cs.len]; done) | rfl) (by decide)) rfl rfl ?_
  refine OpsFrom.nil ?_
  refine Holds.seq ?_
  refine Holds.reg ?_
  refine OpsFrom.v (Y.ia0 (i := 0) ty25 ty24 (up0 rfl rfl rfl) rfl rfl rfl (by first | (with_reducible assumption) | omega | (simp only [lens, car_len, *]; first | done | omega) | decide | (split <;> simp only [lens, car_len, *]) | (with_reducible exact Lt.mono (by assumption) (by decide)) | (simp only [Cs.len]; done) | rfl)) rfl ?_
  refine OpsFrom.v (Y.ldI ty24 rfl (up0 rfl rfl rfl) rfl rfl rfl (by first | (with_reducible assumption) | omega | (simp only [lens, car_len, *]; first | done | omega) | decide | (split <;> simp only [lens, car_len, *]) | (with_reducible exact Lt.mono (by assumption) (by decide)) | (simp only [Cs.len]; done) | rfl)) rfl ?_
  refine OpsFrom.v (Y.add (b := 19) u64s u64m (up0 rfl rfl rfl) rfl rfl rfl) rfl ?_
  refine OpsFrom.v (Y.shr (b := 51) u64s u64m (up0 rfl rfl rfl) rfl rfl rfl) rfl ?_
  refine OpsFrom.v (Y.assign (up0 rfl rfl rfl) rfl rfl) rfl ?_
  refine OpsFrom.nil ?_
  refine Holds.seq ?_
  refine Holds.seq ?_
  refine Holds.reg ?_
  refine OpsFrom.v (Y.move (v := (.one (.n .i64 0))) (up0 rfl rfl rfl) rfl rfl) rfl ?_
  refine OpsFrom.nil ?_
  refine Holds.block ?_
  refine Holds.loop (fun (i1_ : Nat) => ⟨[(2, .one (.p 2 0)), (3, .one (.p 3 0)), (4, .one (.n .u64 (least_it1 x i1_))), (17, .one (.n .i64 i1_))], [(2, .own (.ints .u64 (List.replicate 5 0))), (3, .own (.ints .u64 (car (car x))))]⟩) (fun (i1_ : Nat) => i1_ ≤ 4) (fun (i1_ : Nat) => 4 - i1_) 0 (by first | (with_reducible assumption) | omega | (simp only [lens, car_len, *]; first | done | omega) | decide | (split <;> simp only [lens, car_len, *]) | (with_reducible exact Lt.mono (by assumption) (by decide)) | (simp only [Cs.len]; done) | rfl) [] ⟨⟨rfl, rfl, (nEq (congrArg (fun (s : Nat) => s) (least_it1_z x)).symm), rfl, trivial⟩, ⟨rfl, rfl, trivial⟩, rfl, rfl⟩ ?_
  intro i1_ k1_
  refine Holds.seq ?_
  refine Holds.reg ?_
  refine OpsFrom.v (Y.lss (b := 4) (up0 rfl rfl rfl) rfl rfl rfl) rfl ?_
  refine OpsFrom.nil ?_
  refine Holds.seq ?_
  refine Holds.condD rfl (fun h18 => ?_) (fun h18 => ?_)
  · refine Holds.skip ?_
    refine Holds.seq ?_
    refine Holds.block ?_
    refine Holds.seq ?_
    refine Holds.reg ?_
    refine OpsFrom.v (Y.move (up0 rfl rfl rfl) rfl rfl) rfl ?_
    refine OpsFrom.v (Y.assign (up0 rfl rfl rfl) rfl rfl) rfl ?_
    refine OpsFrom.nil ?_
    refine Holds.reg ?_
    refine OpsFrom.v (Y.move (up0 rfl rfl rfl) rfl rfl) rfl ?_
    refine OpsFrom.v (Y.addI (b := 1) (up0 rfl rfl rfl) rfl rfl rfl (by first | (with_reducible assumption) | omega | (simp only [lens, car_len, *]; first | done | omega) | decide | (split <;> simp only [lens, car_len, *]) | (with_reducible exact Lt.mono (by assumption) (by decide)) | (simp only [Cs.len]; done) | rfl)) rfl ?_
    refine OpsFrom.v (Y.ia0 ty25 ty24 (up0 rfl rfl rfl) rfl rfl rfl (by first | (with_reducible assumption) | omega | (simp only [lens, car_len, *]; first | done | omega) | decide | (split <;> simp only [lens, car_len, *]) | (with_reducible exact Lt.mono (by assumption) (by decide)) | (simp only [Cs.len]; done) | rfl)) rfl ?_
    refine OpsFrom.v (Y.ldI ty24 rfl (up0 rfl rfl rfl) rfl rfl rfl (by first | (with_reducible assumption) | omega | (simp only [lens, car_len, *]; first | done | omega) | decide | (split <;> simp only [lens, car_len, *]) | (with_reducible exact Lt.mono (by assumption) (by decide)) | (simp only [Cs.len]; done) | rfl)) rfl ?_
    refine OpsFrom.v (Y.move (up0 rfl rfl rfl) rfl rfl) rfl ?_
    refine OpsFrom.v (Y.add u64s u64m (up0 rfl rfl rfl) rfl rfl rfl) rfl ?_
    refine OpsFrom.v (Y.shr (b := 51) u64s u64m (up0 rfl rfl rfl) rfl rfl rfl) rfl ?_
    refine OpsFrom.v (Y.assign (up0 rfl rfl rfl) rfl rfl) rfl ?_
    refine OpsFrom.nil ?_
    refine Holds.reg ?_
    refine OpsFrom.v (Y.addI (b := 1) (up0 rfl rfl rfl) rfl rfl rfl (by first | (with_reducible assumption) | omega | (simp only [lens, car_len, *]; first | done | omega) | decide | (split <;> simp only [lens, car_len, *]) | (with_reducible exact Lt.mono (by assumption) (by decide)) | (simp only [Cs.len]; done) | rfl)) rfl ?_
    refine OpsFrom.v (Y.move (up0 rfl rfl rfl) rfl rfl) rfl ?_
    refine OpsFrom.nil ?_
    exact Holds.again (i1_ + 1) (by omega) (by omega) [] ⟨⟨rfl, rfl, (nEq (by rw [least_it1_s]; unfold least_s1; first | (dsimp only; done) | rfl)), (nEq (by omega)), trivial⟩, ⟨rfl, rfl, trivial⟩, rfl, rfl⟩
  · obtain rfl : i1_ = 4 := by omega
    refine Holds.exit ?_
    refine Holds.seq ?_
    refine Holds.reg ?_
    refine OpsFrom.v (Y.ia0 (i := 0) ty25 ty24 (up0 rfl rfl rfl) rfl rfl rfl (by first | (with_reducible assumption) | omega | (simp only [lens, car_len, *]; first | done | omega) | decide | (split <;> simp only [lens, car_len, *]) | (with_reducible exact Lt.mono (by assumption) (by decide)) | (simp only [Cs.len]; done) | rfl)) rfl ?_
    refine OpsFrom.v (Y.ldI ty24 rfl (up0 rfl rfl rfl) rfl rfl rfl (by first | (with_reducible assumption) | omega | (simp only [lens, car_len, *]; first | done | omega) | decide | (split <;> simp only [lens, car_len, *]) | (with_reducible exact Lt.mono (by assumption) (by decide)) | (simp only [Cs.len]; done) | rfl)) rfl ?_
    refine OpsFrom.v (Y.move (up0 rfl rfl rfl) rfl rfl) rfl ?_
    refine OpsFrom.v (Y.mul (a := 19) u64s u64m (up0 rfl rfl rfl) rfl rfl rfl) rfl ?_
    refine OpsFrom.v (Y.add u64s u64m (up0 rfl rfl rfl) rfl rfl rfl) rfl ?_
    refine OpsFrom.v (Y.ia0 (i := 0) ty25 ty24 (up0 rfl rfl rfl) rfl rfl rfl (by first | (with_reducible assumption) | omega | (simp only [lens, car_len, *]; first | done | omega) | decide | (split <;> simp only [lens, car_len, *]) | (with_reducible exact Lt.mono (by assumption) (by decide)) | (simp only [Cs.len]; done) | rfl)) rfl ?_
    refine OpsFrom.n (Y.stI ty24 (upN rfl rfl) rfl rfl rfl rfl (by first | (with_reducible assumption) | omega | (simp only [lens, car_len, *]; first | done | omega) | decide | (split <;> simp only [lens, car_len, *]) | (with_reducible exact Lt.mono (by assumption) (by decide)) | (simp only [Cs.len]; done) | rfl)) rfl rfl ?_
    refine OpsFrom.nil ?_
    refine Holds.seq ?_
    refine Holds.seq ?_
    refine Holds.reg ?_
    refine OpsFrom.v (Y.move (v := (.one (.n .i64 0))) (up0 rfl rfl rfl) rfl rfl) rfl ?_
    refine OpsFrom.nil ?_
    refine Holds.block ?_
    refine Holds.loop (fun (i2_ : Nat) => ⟨[(2, .one (.p 2 0)), (3, .one (.p 3 0)), (34, .one (.n .i64 i2_))], [(2, .own (.ints .u64 (List.replicate 5 0))), (3, .own (.ints .u64 (least_it2 x i2_)))]⟩) (fun (i2_ : Nat) => i2_ ≤ 4) (fun (i2_ : Nat) => 4 - i2_) 0 (by first | (with_reducible assumption) | omega | (simp only [lens, car_len, least_it2_l, *]; first | done | omega) | decide | (split <;> simp only [lens, car_len, least_it2_l, *]) | (with_reducible exact Lt.mono (by assumption) (by decide)) | (simp only [Cs.len]; done) | rfl) [] ⟨⟨rfl, rfl, rfl, trivial⟩, ⟨rfl, (hEq (congrArg (fun (s : List Nat) => s) (least_it2_z x)).symm), trivial⟩, rfl, rfl⟩ ?_
    intro i2_ k2_
    refine Holds.seq ?_
    refine Holds.reg ?_
    refine OpsFrom.v (Y.lss (b := 4) (up0 rfl rfl rfl) rfl rfl rfl) rfl ?_
    refine OpsFrom.nil ?_
    refine Holds.seq ?_
    refine Holds.condD rfl (fun h35 => ?_) (fun h35 => ?_)
    · refine Holds.skip ?_
      refine Holds.seq ?_
      refine Holds.block ?_
      refine Holds.seq ?_
      refine Holds.reg ?_
      refine OpsFrom.v (Y.move (up0 rfl rfl rfl) rfl rfl) rfl ?_
      refine OpsFrom.v (Y.assign (up0 rfl rfl rfl) rfl rfl) rfl ?_
      refine OpsFrom.nil ?_
      refine Holds.seq ?_
      refine Holds.dr mx [([37], [41, 42, 43, 44]), ([38], [41, 42, 43, 44]), ([39], [41, 42, 43, 44]), ([40], [41, 42, 43, 44]), ([41], [37, 38, 39, 40]), ([42], [37, 38, 39, 40]), ([43], [37, 38, 39, 40]), ([44], [37, 38, 39, 40]), ([45], []), ([46], []), ([3], [])] (by kernel_rfl) ?_
      refine CertK.vd (Y.move (up0 rfl rfl rfl) rfl rfl) rfl rfl ?_
      refine CertK.vd (Y.addI (b := 1) (up0 rfl rfl rfl) rfl rfl rfl (by first | (with_reducible assumption) | omega | (simp only [lens, car_len, least_it2_l, *]; first | done | omega) | decide | (split <;> simp only [lens, car_len, least_it2_l, *]) | (with_reducible exact Lt.mono (by assumption) (by decide)) | (simp only [Cs.len]; done) | rfl)) rfl rfl ?_
      refine CertK.vd (Y.ia0 ty25 ty24 (up0 rfl rfl rfl) rfl rfl rfl (by first | (with_reducible assumption) | omega | (simp only [lens, car_len, least_it2_l, *]; first | done | omega) | decide | (split <;> simp only [lens, car_len, least_it2_l, *]) | (with_reducible exact Lt.mono (by assumption) (by decide)) | (simp only [Cs.len]; done) | rfl)) rfl rfl ?_
      refine CertK.vd (Y.ldI ty24 rfl (up0 rfl rfl rfl) rfl rfl rfl (by first | (with_reducible assumption) | omega | (simp only [lens, car_len, least_it2_l, *]; first | done | omega) | decide | (split <;> simp only [lens, car_len, least_it2_l, *]) | (with_reducible exact Lt.mono (by assumption) (by decide)) | (simp only [Cs.len]; done) | rfl)) rfl rfl ?_
      refine CertK.vd (Y.move (up0 rfl rfl rfl) rfl rfl) rfl rfl ?_
      refine CertK.vd (Y.ia0 ty25 ty24 (up0 rfl rfl rfl) rfl rfl rfl (by first | (with_reducible assumption) | omega | (simp only [lens, car_len, least_it2_l, *]; first | done | omega) | decide | (split <;> simp only [lens, car_len, least_it2_l, *]) | (with_reducible exact Lt.mono (by assumption) (by decide)) | (simp only [Cs.len]; done) | rfl)) rfl rfl ?_
      refine CertK.vd (Y.ldI ty24 rfl (up0 rfl rfl rfl) rfl rfl rfl (by first | (with_reducible assumption) | omega | (simp only [lens, car_len, least_it2_l, *]; first | done | omega) | decide | (split <;> simp only [lens, car_len, least_it2_l, *]) | (with_reducible exact Lt.mono (by assumption) (by decide)) | (simp only [Cs.len]; done) | rfl)) rfl rfl ?_
      refine CertK.vd (Y.shr (b := 51) u64s u64m (up0 rfl rfl rfl) rfl rfl rfl) rfl rfl ?_
      refine CertK.v (Y.add u64s u64m (up0 rfl rfl rfl) rfl rfl rfl) rfl ?_
      refine CertK.v (Y.ia0 ty25 ty24 (up0 rfl rfl rfl) rfl rfl rfl (by first | (with_reducible assumption) | omega | (simp only [lens, car_len, least_it2_l, *]; first | done | omega) | decide | (split <;> simp only [lens, car_len, least_it2_l, *]) | (with_reducible exact Lt.mono (by assumption) (by decide)) | (simp only [Cs.len]; done) | rfl)) rfl ?_
      refine CertK.n (Y.stI ty24 (upN rfl rfl) rfl rfl rfl rfl (by first | (with_reducible assumption) | omega | (simp only [lens, car_len, least_it2_l, *]; first | done | omega) | decide | (split <;> simp only [lens, car_len, least_it2_l, *]) | (with_reducible exact Lt.mono (by assumption) (by decide)) | (simp only [Cs.len]; done) | rfl)) rfl rfl rfl rfl ?_
      refine CertK.nil ?_
      refine Holds.reg ?_
      refine OpsFrom.v (Y.move (up0 rfl rfl rfl) rfl rfl) rfl ?_
      refine OpsFrom.v (Y.ia0 ty25 ty24 (up0 rfl rfl rfl) rfl rfl rfl (by first | (with_reducible assumption) | omega | (simp only [lens, car_len, least_it2_l, *]; first | done | omega) | decide | (split <;> simp only [lens, car_len, least_it2_l, *]) | (with_reducible exact Lt.mono (by assumption) (by decide)) | (simp only [Cs.len]; done) | rfl)) rfl ?_
      refine OpsFrom.v (Y.ldI ty24 rfl (up0 rfl rfl rfl) rfl rfl rfl (by first | (with_reducible assumption) | omega | (simp only [lens, car_len, least_it2_l, *]; first | done | omega) | decide | (split <;> simp only [lens, car_len, least_it2_l, *]) | (with_reducible exact Lt.mono (by assumption) (by decide)) | (simp only [Cs.len]; done) | rfl)) rfl ?_
      refine OpsFrom.v (Y.and (b := 2251799813685247) u64s u64m (up0 rfl rfl rfl) rfl rfl rfl) rfl ?_
      refine OpsFrom.v (Y.ia0 ty25 ty24 (up0 rfl rfl rfl) rfl rfl rfl (by first | (with_reducible assumption) | omega | (simp only [lens, car_len, least_it2_l, *]; first | done | omega) | decide | (split <;> simp only [lens, car_len, least_it2_l, *]) | (with_reducible exact Lt.mono (by assumption) (by decide)) | (simp only [Cs.len]; done) | rfl)) rfl ?_
      refine OpsFrom.n (Y.stI ty24 (upN rfl rfl) rfl rfl rfl rfl (by first | (with_reducible assumption) | omega | (simp only [lens, car_len, least_it2_l, *]; first | done | omega) | decide | (split <;> simp only [lens, car_len, least_it2_l, *]) | (with_reducible exact Lt.mono (by assumption) (by decide)) | (simp only [Cs.len]; done) | rfl)) rfl rfl ?_
      refine OpsFrom.nil ?_
      refine Holds.reg ?_
      refine OpsFrom.v (Y.addI (b := 1) (up0 rfl rfl rfl) rfl rfl rfl (by first | (with_reducible assumption) | omega | (simp only [lens, car_len, least_it2_l, *]; first | done | omega) | decide | (split <;> simp only [lens, car_len, least_it2_l, *]) | (with_reducible exact Lt.mono (by assumption) (by decide)) | (simp only [Cs.len]; done) | rfl)) rfl ?_
      refine OpsFrom.v (Y.move (up0 rfl rfl rfl) rfl rfl) rfl ?_
      refine OpsFrom.nil ?_
      exact Holds.again (i2_ + 1) (by omega) (by omega) [] ⟨⟨rfl, rfl, (nEq (by omega)), trivial⟩, ⟨rfl, (hEq (by rw [least_it2_s]; unfold least_s2; first | (dsimp only; done) | rfl)), trivial⟩, rfl, rfl⟩
    · obtain rfl : i2_ = 4 := by omega
      refine Holds.exit ?_
      refine Holds.seq ?_
      refine Holds.reg ?_
      refine OpsFrom.v (Y.ia0 (i := 4) ty25 ty24 (up0 rfl rfl rfl) rfl rfl rfl (by first | (with_reducible assumption) | omega | (simp only [lens, car_len, least_it2_l, *]; first | done | omega) | decide | (split <;> simp only [lens, car_len, least_it2_l, *]) | (with_reducible exact Lt.mono (by assumption) (by decide)) | (simp only [Cs.len]; done) | rfl)) rfl ?_
      refine OpsFrom.v (Y.ldI ty24 rfl (up0 rfl rfl rfl) rfl rfl rfl (by first | (with_reducible assumption) | omega | (simp only [lens, car_len, least_it2_l, *]; first | done | omega) | decide | (split <;> simp only [lens, car_len, least_it2_l, *]) | (with_reducible exact Lt.mono (by assumption) (by decide)) | (simp only [Cs.len]; done) | rfl)) rfl ?_
      refine OpsFrom.v (Y.and (b := 2251799813685247) u64s u64m (up0 rfl rfl rfl) rfl rfl rfl) rfl ?_
      refine OpsFrom.v (Y.ia0 (i := 4) ty25 ty24 (up0 rfl rfl rfl) rfl rfl rfl (by first | (with_reducible assumption) | omega | (simp only [lens, car_len, least_it2_l, *]; first | done | omega) | decide | (split <;> simp only [lens, car_len, least_it2_l, *]) | (with_reducible exact Lt.mono (by assumption) (by decide)) | (simp only [Cs.len]; done) | rfl)) rfl ?_
      refine OpsFrom.n (Y.stI ty24 (upN rfl rfl) rfl rfl rfl rfl (by first | (with_reducible assumption) | omega | (simp only [lens, car_len, least_it2_l, *]; first | done | omega) | decide | (split <;> simp only [lens, car_len, least_it2_l, *]) | (with_reducible exact Lt.mono (by assumption) (by decide)) | (simp only [Cs.len]; done) | rfl)) rfl rfl ?_
      refine OpsFrom.nil ?_
      refine Holds.seq ?_
      refine Holds.reg ?_
      refine OpsFrom.v (Y.ldAll ty25 rfl (up0 rfl rfl rfl) rfl rfl rfl (by first | (with_reducible assumption) | omega | (simp only [lens, car_len, least_it2_l, *]; first | done | omega) | decide | (split <;> simp only [lens, car_len, least_it2_l, *]) | (with_reducible exact Lt.mono (by assumption) (by decide)) | (simp only [Cs.len]; done) | rfl) (by decide)) rfl ?_
      refine OpsFrom.n (Y.stR ty25 (upN rfl rfl) rfl rfl rfl rfl rfl (by first | (with_reducible assumption) | omega | (simp only [lens, car_len, least_it2_l, *]; first | done | omega) | decide | (split <;> simp only [lens, car_len, least_it2_l, *]) | (with_reducible exact Lt.mono (by assumption) (by decide)) | (simp only [Cs.len]; done) | rfl) (by first | (with_reducible assumption) | omega | (simp only [lens, car_len, least_it2_l, *]; first | done | omega) | decide | (split <;> simp only [lens, car_len, least_it2_l, *]) | (with_reducible exact Lt.mono (by assumption) (by decide)) | (simp only [Cs.len]; done) | rfl) (by decide)) rfl rfl ?_
      refine OpsFrom.nil ?_
      refine Holds.ret ?_
      exact Holds.ret1 (.inl rfl) rfl (.rowN rfl rfl ty25 rfl (by first | (with_reducible assumption) | omega | (simp only [lens, car_len, least_it2_l, *]; first | done | omega) | decide | (split <;> simp only [lens, car_len, least_it2_l, *]) | (with_reducible exact Lt.mono (by assumption) (by decide)) | (simp only [Cs.len]; done) | rfl) (by decide)) (.same _) rfl

theorem car_l (l : List Nat) : (car l).length = l.length := by unfold car; rw [car_it2_l, List.length_set, car_it1_l0]
attribute [irreducible] car wrd least

end Go.Proofs.Ytnfiiclmbiiokaa
