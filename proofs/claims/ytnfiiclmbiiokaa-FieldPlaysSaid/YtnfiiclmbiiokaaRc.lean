/-
  Walks: the document: sums and products.
-/
import Derived.Test.YtnfiiclmbiiokaaRb
namespace Go.Proofs.Ytnfiiclmbiiokaa
open Go Go.Fx
set_option linter.unusedVariables false
set_option linter.unusedSimpArgs false
def rof (n : Nat) : List Nat :=
  let v1_ : List Nat := ((List.replicate 32 0).set 0 (n % 65536)).set 1 ((n / 65536) % 65536)
  (rfold v1_)
theorem rof_len (n : Nat)  : ((rof n)).length = 16 := by
  unfold rof
  first | (simp [rfold_l]; done) | (simp [*, rfold_l]; done) | (dsimp only; (repeat' split) <;> simp [*, rfold_l])
theorem w_rof (n : Nat)  : VC Try.prog 23 [.one (.n .u64 n)] (.row (.ints .u64 (rof n))) := by
  refine VC.go Try.func23 rfl Try.ntmps23 rfl rfl fun O w => ?_
  refine Holds.seq ?_
  refine Holds.reg ?_
  refine OpsFrom.u (Y.alloc (d := 2) ty31 rfl rfl (up0 rfl rfl rfl) rfl) rfl rfl rfl ?_
  refine OpsFrom.nil ?_
  refine Holds.seq ?_
  refine Holds.reg ?_
  refine OpsFrom.v (Y.buildA ty71 ty24 rfl (up0 rfl rfl rfl) rfl (.nil _)) rfl ?_
  refine OpsFrom.u (Y.alloc (d := 3) ty71 rfl rfl (up0 rfl rfl rfl) rfl) rfl rfl rfl ?_
  refine OpsFrom.n (Y.stR ty71 (upN rfl rfl) rfl rfl rfl rfl rfl (by first | (with_reducible assumption) | omega | (simp only [lens, *]; first | done | omega) | decide | (split <;> simp only [lens, *]) | (with_reducible exact Lt.mono (by assumption) (by decide)) | (simp only [Cs.len]; done) | rfl) (by first | (with_reducible assumption) | omega | (simp only [lens, *]; first | done | omega) | decide | (split <;> simp only [lens, *]) | (with_reducible exact Lt.mono (by assumption) (by decide)) | (simp only [Cs.len]; done) | rfl) (by decide)) rfl rfl ?_
  refine OpsFrom.nil ?_
  refine Holds.seq ?_
  refine Holds.reg ?_
  refine OpsFrom.v (Y.move (up0 rfl rfl rfl) rfl rfl) rfl ?_
  refine OpsFrom.v (Y.rem (b := 65536) (up0 rfl rfl rfl) rfl rfl rfl (by decide)) rfl ?_
  refine OpsFrom.v (Y.ia0 (i := 0) ty71 ty24 (up0 rfl rfl rfl) rfl rfl rfl (by first | (with_reducible assumption) | omega | (simp only [lens, *]; first | done | omega) | decide | (split <;> simp only [lens, *]) | (with_reducible exact Lt.mono (by assumption) (by decide)) | (simp only [Cs.len]; done) | rfl)) rfl ?_
  refine OpsFrom.n (Y.stI ty24 (upN rfl rfl) rfl rfl rfl rfl (by first | (with_reducible assumption) | omega | (simp only [lens, *]; first | done | omega) | decide | (split <;> simp only [lens, *]) | (with_reducible exact Lt.mono (by assumption) (by decide)) | (simp only [Cs.len]; done) | rfl)) rfl rfl ?_
  refine OpsFrom.nil ?_
  refine Holds.seq ?_
  refine Holds.reg ?_
  refine OpsFrom.v (Y.move (up0 rfl rfl rfl) rfl rfl) rfl ?_
  refine OpsFrom.v (Y.quo (b := 65536) u64s u64m (up0 rfl rfl rfl) rfl rfl rfl (by decide)) rfl ?_
  refine OpsFrom.v (Y.rem (b := 65536) (up0 rfl rfl rfl) rfl rfl rfl (by decide)) rfl ?_
  refine OpsFrom.v (Y.ia0 (i := 1) ty71 ty24 (up0 rfl rfl rfl) rfl rfl rfl (by first | (with_reducible assumption) | omega | (simp only [lens, *]; first | done | omega) | decide | (split <;> simp only [lens, *]) | (with_reducible exact Lt.mono (by assumption) (by decide)) | (simp only [Cs.len]; done) | rfl)) rfl ?_
  refine OpsFrom.n (Y.stI ty24 (upN rfl rfl) rfl rfl rfl rfl (by first | (with_reducible assumption) | omega | (simp only [lens, *]; first | done | omega) | decide | (split <;> simp only [lens, *]) | (with_reducible exact Lt.mono (by assumption) (by decide)) | (simp only [Cs.len]; done) | rfl)) rfl rfl ?_
  refine OpsFrom.nil ?_
  refine Holds.seq ?_
  refine Holds.reg ?_
  refine OpsFrom.v (Y.ldAll ty71 rfl (up0 rfl rfl rfl) rfl rfl rfl (by first | (with_reducible assumption) | omega | (simp only [lens, *]; first | done | omega) | decide | (split <;> simp only [lens, *]) | (with_reducible exact Lt.mono (by assumption) (by decide)) | (simp only [Cs.len]; done) | rfl) (by decide)) rfl ?_
  refine OpsFrom.v (Y.callV (w_rfold _ (by first | (with_reducible assumption) | omega | (simp only [lens, rfold_l, *]; first | done | omega) | decide | (split <;> simp only [lens, rfold_l, *]) | (with_reducible exact Lt.mono (by assumption) (by decide)) | (simp only [Cs.len]; done) | rfl)) fnok45 (up0 rfl rfl rfl) rfl rfl (.cons _ _ _ _ rfl .nil) (.cons _ _ _ _ (.same _) .nil) rfl rfl) rfl ?_
  refine OpsFrom.n (Y.stR ty31 (upN rfl rfl) rfl rfl rfl rfl rfl (by first | (with_reducible assumption) | omega | (simp only [lens, rfold_l, *]; first | done | omega) | decide | (split <;> simp only [lens, rfold_l, *]) | (with_reducible exact Lt.mono (by assumption) (by decide)) | (simp only [Cs.len]; done) | rfl) (by first | (with_reducible assumption) | omega | (simp only [lens, rfold_l, *]; first | done | omega) | decide | (split <;> simp only [lens, rfold_l, *]) | (with_reducible exact Lt.mono (by assumption) (by decide)) | (simp only [Cs.len]; done) | rfl) (by decide)) rfl rfl ?_
  refine OpsFrom.nil ?_
  refine Holds.ret ?_
  exact Holds.ret1 (.inl rfl) rfl (.rowN rfl rfl ty31 rfl (by first | (with_reducible assumption) | omega | (simp only [lens, rfold_l, *]; first | done | omega) | decide | (split <;> simp only [lens, rfold_l, *]) | (with_reducible exact Lt.mono (by assumption) (by decide)) | (simp only [Cs.len]; done) | rfl) (by decide)) (.same _) rfl

def rload_s1 (b : List Nat) (i1_ : Nat) (m1_ : List Nat) : List Nat :=
  let v5_ : Nat := 256 * (b.getD ((2 * i1_) + 1) 0) % 18446744073709551616
  let v6_ : Nat := ((b.getD (2 * i1_) 0) + v5_) % 18446744073709551616
  m1_.set i1_ v6_
def rload_it1 (b : List Nat) (i1_ : Nat) : List Nat := iter (rload_s1 b) i1_ (List.replicate 32 0)
theorem rload_it1_z (b : List Nat) : rload_it1 b 0 = List.replicate 32 0 := rfl
theorem rload_it1_s (b : List Nat) (i1_ : Nat) : rload_it1 b (i1_ + 1) = rload_s1 b i1_ (rload_it1 b i1_) := by unfold rload_it1; exact iterS _ _ _
theorem rload_it1_l (b : List Nat) (i1_ : Nat) : ((rload_it1 b i1_)).length = (List.replicate 32 0 : List Nat).length := iter_inv (fun (s : List Nat) => (s).length = (List.replicate 32 0 : List Nat).length) (by simp) (fun i s h => by
  unfold rload_s1
  first | (simp [h]; done) | (dsimp only; (repeat' split) <;> simp [h])) i1_
def rload (b : List Nat) : List Nat :=
  (rfold (rload_it1 b 16))
theorem rload_len (b : List Nat) (l_b : b.length = 32) : ((rload b)).length = 16 := by
  unfold rload
  first | (simp [rload_it1_l, rfold_l]; done) | (simp [*, rload_it1_l, rfold_l]; done) | (dsimp only; (repeat' split) <;> simp [*, rload_it1_l, rfold_l])
theorem w_rload (b : List Nat) (l_b : b.length = 32) : VC Try.prog 18 [.row (.ints .u8 b)] (.row (.ints .u64 (rload b))) := by
  refine VC.go Try.func18 rfl Try.ntmps18 rfl rfl fun O w => ?_
  refine Holds.seq ?_
  refine Holds.reg ?_
  refine OpsFrom.u (Y.boxR (d := 1) (up0 rfl rfl rfl) rfl rfl rfl) rfl rfl rfl ?_
  refine OpsFrom.u (Y.alloc (d := 2) ty31 rfl rfl (up0 rfl rfl rfl) rfl) rfl rfl rfl ?_
  refine OpsFrom.nil ?_
  refine Holds.seq ?_
  refine Holds.reg ?_
  refine OpsFrom.v (Y.buildA ty71 ty24 rfl (up0 rfl rfl rfl) rfl (.nil _)) rfl ?_
  refine OpsFrom.u (Y.alloc (d := 3) ty71 rfl rfl (up0 rfl rfl rfl) rfl) rfl rfl rfl ?_
  refine OpsFrom.n (Y.stR ty71 (upN rfl rfl) rfl rfl rfl rfl rfl (by first | (with_reducible assumption) | omega | (simp only [lens, *]; first | done | omega) | decide | (split <;> simp only [lens, *]) | (with_reducible exact Lt.mono (by assumption) (by decide)) | (simp only [Cs.len]; done) | rfl) (by first | (with_reducible assumption) | omega | (simp only [lens, *]; first | done | omega) | decide | (split <;> simp only [lens, *]) | (with_reducible exact Lt.mono (by assumption) (by decide)) | (simp only [Cs.len]; done) | rfl) (by decide)) rfl rfl ?_
  refine OpsFrom.nil ?_
  refine Holds.seq ?_
  refine Holds.seq ?_
  refine Holds.reg ?_
  refine OpsFrom.v (Y.assign (v := (.one (.n .i64 0))) (up0 rfl rfl rfl) rfl rfl) rfl ?_
  refine OpsFrom.nil ?_
  refine Holds.block ?_
  refine Holds.loop (fun (i1_ : Nat) => ⟨[(1, .one (.p 1 0)), (2, .one (.p 2 0)), (3, .one (.p 3 0)), (4, .one (.n .i64 i1_))], [(1, .own (.ints .u8 b)), (2, .own (.ints .u64 (List.replicate 16 0))), (3, .own (.ints .u64 (rload_it1 b i1_)))]⟩) (fun (i1_ : Nat) => i1_ ≤ 16) (fun (i1_ : Nat) => 16 - i1_) 0 (by first | (with_reducible assumption) | omega | (simp only [lens, rload_it1_l, *]; first | done | omega) | decide | (split <;> simp only [lens, rload_it1_l, *]) | (with_reducible exact Lt.mono (by assumption) (by decide)) | (simp only [Cs.len]; done) | rfl) [] ⟨⟨rfl, rfl, rfl, rfl, trivial⟩, ⟨rfl, rfl, (hEq (congrArg (fun (s : List Nat) => s) (rload_it1_z b)).symm), trivial⟩, rfl, rfl⟩ ?_
  intro i1_ k1_
  refine Holds.seq ?_
  refine Holds.seq ?_
  refine Holds.reg ?_
  refine OpsFrom.v (Y.move (up0 rfl rfl rfl) rfl rfl) rfl ?_
  refine OpsFrom.v (Y.lss (b := 16) (up0 rfl rfl rfl) rfl rfl rfl) rfl ?_
  refine OpsFrom.nil ?_
  refine Holds.condD rfl (fun h7 => ?_) (fun h7 => ?_)
  · refine Holds.skip ?_
    refine Holds.seq ?_
    refine Holds.block ?_
    refine Holds.dr mx [([10], [11, 12, 13, 14, 15, 16, 17, 18, 19, 20, 21, 22, 23]), ([11], [10, 16, 17, 18, 19, 20, 21, 22]), ([12], [10, 16, 17, 18, 19, 20, 21, 22]), ([13], [10, 16, 17, 18, 19, 20, 21, 22]), ([14], [10, 16, 17, 18, 19, 20, 21, 22]), ([15], [10, 16, 17, 18, 19, 20, 21, 22]), ([16], [10, 11, 12, 13, 14, 15]), ([17], [10, 11, 12, 13, 14, 15]), ([18], [10, 11, 12, 13, 14, 15]), ([19], [10, 11, 12, 13, 14, 15]), ([20], [10, 11, 12, 13, 14, 15]), ([21], [10, 11, 12, 13, 14, 15]), ([22], [10, 11, 12, 13, 14, 15]), ([23], [10]), ([24], []), ([3], [])] (by kernel_rfl) ?_
    refine CertK.vd (Y.move (up0 rfl rfl rfl) rfl rfl) rfl rfl ?_
    refine CertK.vd (Y.move (up0 rfl rfl rfl) rfl rfl) rfl rfl ?_
    refine CertK.vd (Y.mulI (a := 2) (up0 rfl rfl rfl) rfl rfl rfl (by first | (with_reducible assumption) | omega | (simp only [lens, rload_it1_l, *]; first | done | omega) | decide | (split <;> simp only [lens, rload_it1_l, *]) | (with_reducible exact Lt.mono (by assumption) (by decide)) | (simp only [Cs.len]; done) | rfl)) rfl rfl ?_
    refine CertK.vd (Y.ia0 ty22 ty5 (up0 rfl rfl rfl) rfl rfl rfl (by first | (with_reducible assumption) | omega | (simp only [lens, rload_it1_l, *]; first | done | omega) | decide | (split <;> simp only [lens, rload_it1_l, *]) | (with_reducible exact Lt.mono (by assumption) (by decide)) | (simp only [Cs.len]; done) | rfl)) rfl rfl ?_
    refine CertK.vd (Y.ldI ty5 rfl (up0 rfl rfl rfl) rfl rfl rfl (by first | (with_reducible assumption) | omega | (simp only [lens, rload_it1_l, *]; first | done | omega) | decide | (split <;> simp only [lens, rload_it1_l, *]) | (with_reducible exact Lt.mono (by assumption) (by decide)) | (simp only [Cs.len]; done) | rfl)) rfl rfl ?_
    refine CertK.vd (Y.convUp ty5.u ty24.u rfl rfl (by decide) (up0 rfl rfl rfl) rfl rfl) rfl rfl ?_
    refine CertK.vd (Y.move (up0 rfl rfl rfl) rfl rfl) rfl rfl ?_
    refine CertK.vd (Y.mulI (a := 2) (up0 rfl rfl rfl) rfl rfl rfl (by first | (with_reducible assumption) | omega | (simp only [lens, rload_it1_l, *]; first | done | omega) | decide | (split <;> simp only [lens, rload_it1_l, *]) | (with_reducible exact Lt.mono (by assumption) (by decide)) | (simp only [Cs.len]; done) | rfl)) rfl rfl ?_
    refine CertK.vd (Y.addI (b := 1) (up0 rfl rfl rfl) rfl rfl rfl (by first | (with_reducible assumption) | omega | (simp only [lens, rload_it1_l, *]; first | done | omega) | decide | (split <;> simp only [lens, rload_it1_l, *]) | (with_reducible exact Lt.mono (by assumption) (by decide)) | (simp only [Cs.len]; done) | rfl)) rfl rfl ?_
    refine CertK.vd (Y.ia0 ty22 ty5 (up0 rfl rfl rfl) rfl rfl rfl (by first | (with_reducible assumption) | omega | (simp only [lens, rload_it1_l, *]; first | done | omega) | decide | (split <;> simp only [lens, rload_it1_l, *]) | (with_reducible exact Lt.mono (by assumption) (by decide)) | (simp only [Cs.len]; done) | rfl)) rfl rfl ?_
    refine CertK.vd (Y.ldI ty5 rfl (up0 rfl rfl rfl) rfl rfl rfl (by first | (with_reducible assumption) | omega | (simp only [lens, rload_it1_l, *]; first | done | omega) | decide | (split <;> simp only [lens, rload_it1_l, *]) | (with_reducible exact Lt.mono (by assumption) (by decide)) | (simp only [Cs.len]; done) | rfl)) rfl rfl ?_
    refine CertK.vd (Y.convUp ty5.u ty24.u rfl rfl (by decide) (up0 rfl rfl rfl) rfl rfl) rfl rfl ?_
    refine CertK.vd (Y.mul (a := 256) u64s u64m (up0 rfl rfl rfl) rfl rfl rfl) rfl rfl ?_
    refine CertK.vd (Y.add u64s u64m (up0 rfl rfl rfl) rfl rfl rfl) rfl rfl ?_
    refine CertK.v (Y.ia0 ty71 ty24 (up0 rfl rfl rfl) rfl rfl rfl (by first | (with_reducible assumption) | omega | (simp only [lens, rload_it1_l, *]; first | done | omega) | decide | (split <;> simp only [lens, rload_it1_l, *]) | (with_reducible exact Lt.mono (by assumption) (by decide)) | (simp only [Cs.len]; done) | rfl)) rfl ?_
    refine CertK.n (Y.stI ty24 (upN rfl rfl) rfl rfl rfl rfl (by first | (with_reducible assumption) | omega | (simp only [lens, rload_it1_l, *]; first | done | omega) | decide | (split <;> simp only [lens, rload_it1_l, *]) | (with_reducible exact Lt.mono (by assumption) (by decide)) | (simp only [Cs.len]; done) | rfl)) rfl rfl rfl rfl ?_
    refine CertK.nil ?_
    refine Holds.reg ?_
    refine OpsFrom.v (Y.move (up0 rfl rfl rfl) rfl rfl) rfl ?_
    refine OpsFrom.v (Y.addI (b := 1) (up0 rfl rfl rfl) rfl rfl rfl (by first | (with_reducible assumption) | omega | (simp only [lens, rload_it1_l, *]; first | done | omega) | decide | (split <;> simp only [lens, rload_it1_l, *]) | (with_reducible exact Lt.mono (by assumption) (by decide)) | (simp only [Cs.len]; done) | rfl)) rfl ?_
    refine OpsFrom.v (Y.assign (up0 rfl rfl rfl) rfl rfl) rfl ?_
    refine OpsFrom.nil ?_
    exact Holds.again (i1_ + 1) (by omega) (by omega) [] ⟨⟨rfl, rfl, rfl, (nEq (by omega)), trivial⟩, ⟨rfl, rfl, (hEq (by rw [rload_it1_s]; unfold rload_s1; first | (dsimp only; done) | rfl)), trivial⟩, rfl, rfl⟩
  · obtain rfl : i1_ = 16 := by omega
    refine Holds.exit ?_
    refine Holds.seq ?_
    refine Holds.reg ?_
    refine OpsFrom.v (Y.ldAll ty71 rfl (up0 rfl rfl rfl) rfl rfl rfl (by first | (with_reducible assumption) | omega | (simp only [lens, rload_it1_l, *]; first | done | omega) | decide | (split <;> simp only [lens, rload_it1_l, *]) | (with_reducible exact Lt.mono (by assumption) (by decide)) | (simp only [Cs.len]; done) | rfl) (by decide)) rfl ?_
    refine OpsFrom.v (Y.callV (w_rfold _ (by first | (with_reducible assumption) | omega | (simp only [lens, rload_it1_l, rfold_l, *]; first | done | omega) | decide | (split <;> simp only [lens, rload_it1_l, rfold_l, *]) | (with_reducible exact Lt.mono (by assumption) (by decide)) | (simp only [Cs.len]; done) | rfl)) fnok45 (up0 rfl rfl rfl) rfl rfl (.cons _ _ _ _ rfl .nil) (.cons _ _ _ _ (.same _) .nil) rfl rfl) rfl ?_
    refine OpsFrom.n (Y.stR ty31 (upN rfl rfl) rfl rfl rfl rfl rfl (by first | (with_reducible assumption) | omega | (simp only [lens, rload_it1_l, rfold_l, *]; first | done | omega) | decide | (split <;> simp only [lens, rload_it1_l, rfold_l, *]) | (with_reducible exact Lt.mono (by assumption) (by decide)) | (simp only [Cs.len]; done) | rfl) (by first | (with_reducible assumption) | omega | (simp only [lens, rload_it1_l, rfold_l, *]; first | done | omega) | decide | (split <;> simp only [lens, rload_it1_l, rfold_l, *]) | (with_reducible exact Lt.mono (by assumption) (by decide)) | (simp only [Cs.len]; done) | rfl) (by decide)) rfl rfl ?_
    refine OpsFrom.nil ?_
    refine Holds.ret ?_
    exact Holds.ret1 (.inl rfl) rfl (.rowN rfl rfl ty31 rfl (by first | (with_reducible assumption) | omega | (simp only [lens, rload_it1_l, rfold_l, *]; first | done | omega) | decide | (split <;> simp only [lens, rload_it1_l, rfold_l, *]) | (with_reducible exact Lt.mono (by assumption) (by decide)) | (simp only [Cs.len]; done) | rfl) (by decide)) (.same _) rfl

def rbytes_s1 (a : List Nat) (i1_ : Nat) (m1_ : List Nat) : List Nat :=
  let v5_ : List Nat := (m1_.set (2 * i1_) ((a.getD i1_ 0) % 256)).set ((2 * i1_) + 1) (((a.getD i1_ 0) / 2 ^ 8) % 256)
  v5_
def rbytes_it1 (a : List Nat) (i1_ : Nat) : List Nat := iter (rbytes_s1 a) i1_ (List.replicate 32 0)
theorem rbytes_it1_z (a : List Nat) : rbytes_it1 a 0 = List.replicate 32 0 := rfl
theorem rbytes_it1_s (a : List Nat) (i1_ : Nat) : rbytes_it1 a (i1_ + 1) = rbytes_s1 a i1_ (rbytes_it1 a i1_) := by unfold rbytes_it1; exact iterS _ _ _
theorem rbytes_it1_l (a : List Nat) (i1_ : Nat) : ((rbytes_it1 a i1_)).length = (List.replicate 32 0 : List Nat).length := iter_inv (fun (s : List Nat) => (s).length = (List.replicate 32 0 : List Nat).length) (by simp) (fun i s h => by
  unfold rbytes_s1
  first | (simp [h]; done) | (dsimp only; (repeat' split) <;> simp [h])) i1_
def rbytes (a : List Nat) : List Nat :=
  (rbytes_it1 a 16)
theorem rbytes_len (a : List Nat) (l_a : a.length = 16) : ((rbytes a)).length = 32 := by
  unfold rbytes
  first | (simp [rbytes_it1_l]; done) | (simp [*, rbytes_it1_l]; done) | (dsimp only; (repeat' split) <;> simp [*, rbytes_it1_l])
theorem w_rbytes (a : List Nat) (l_a : a.length = 16) : VC Try.prog 17 [.row (.ints .u64 a)] (.row (.ints .u8 (rbytes a))) := by
  refine VC.go Try.func17 rfl Try.ntmps17 rfl rfl fun O w => ?_
  refine Holds.seq ?_
  refine Holds.reg ?_
  refine OpsFrom.u (Y.boxR (d := 1) (up0 rfl rfl rfl) rfl rfl rfl) rfl rfl rfl ?_
  refine OpsFrom.u (Y.alloc (d := 2) ty22 rfl rfl (up0 rfl rfl rfl) rfl) rfl rfl rfl ?_
  refine OpsFrom.nil ?_
  refine Holds.seq ?_
  refine Holds.reg ?_
  refine OpsFrom.v (Y.buildA ty22 ty5 rfl (up0 rfl rfl rfl) rfl (.nil _)) rfl ?_
  refine OpsFrom.u (Y.alloc (d := 3) ty22 rfl rfl (up0 rfl rfl rfl) rfl) rfl rfl rfl ?_
  refine OpsFrom.n (Y.stR ty22 (upN rfl rfl) rfl rfl rfl rfl rfl (by first | (with_reducible assumption) | omega | (simp only [lens, *]; first | done | omega) | decide | (split <;> simp only [lens, *]) | (with_reducible exact Lt.mono (by assumption) (by decide)) | (simp only [Cs.len]; done) | rfl) (by first | (with_reducible assumption) | omega | (simp only [lens, *]; first | done | omega) | decide | (split <;> simp only [lens, *]) | (with_reducible exact Lt.mono (by assumption) (by decide)) | (simp only [Cs.len]; done) | rfl) (by decide)) rfl rfl ?_
  refine OpsFrom.nil ?_
  refine Holds.seq ?_
  refine Holds.seq ?_
  refine Holds.reg ?_
  refine OpsFrom.v (Y.assign (v := (.one (.n .i64 0))) (up0 rfl rfl rfl) rfl rfl) rfl ?_
  refine OpsFrom.nil ?_
  refine Holds.block ?_
  refine Holds.loop (fun (i1_ : Nat) => ⟨[(1, .one (.p 1 0)), (2, .one (.p 2 0)), (3, .one (.p 3 0)), (4, .one (.n .i64 i1_))], [(1, .own (.ints .u64 a)), (2, .own (.ints .u8 (List.replicate 32 0))), (3, .own (.ints .u8 (rbytes_it1 a i1_)))]⟩) (fun (i1_ : Nat) => i1_ ≤ 16) (fun (i1_ : Nat) => 16 - i1_) 0 (by first | (with_reducible assumption) | omega | (simp only [lens, rbytes_it1_l, *]; first | done | omega) | decide | (split <;> simp only [lens, rbytes_it1_l, *]) | (with_reducible exact Lt.mono (by assumption) (by decide)) | (simp only [Cs.len]; done) | rfl) [] ⟨⟨rfl, rfl, rfl, rfl, trivial⟩, ⟨rfl, rfl, (hEq (congrArg (fun (s : List Nat) => s) (rbytes_it1_z a)).symm), trivial⟩, rfl, rfl⟩ ?_
  intro i1_ k1_
  refine Holds.seq ?_
  refine Holds.seq ?_
  refine Holds.reg ?_
  refine OpsFrom.v (Y.move (up0 rfl rfl rfl) rfl rfl) rfl ?_
  refine OpsFrom.v (Y.lss (b := 16) (up0 rfl rfl rfl) rfl rfl rfl) rfl ?_
  refine OpsFrom.nil ?_
  refine Holds.condD rfl (fun h7 => ?_) (fun h7 => ?_)
  · refine Holds.skip ?_
    refine Holds.seq ?_
    refine Holds.block ?_
    refine Holds.seq ?_
    refine Holds.reg ?_
    refine OpsFrom.v (Y.move (up0 rfl rfl rfl) rfl rfl) rfl ?_
    refine OpsFrom.v (Y.mulI (a := 2) (up0 rfl rfl rfl) rfl rfl rfl (by first | (with_reducible assumption) | omega | (simp only [lens, rbytes_it1_l, *]; first | done | omega) | decide | (split <;> simp only [lens, rbytes_it1_l, *]) | (with_reducible exact Lt.mono (by assumption) (by decide)) | (simp only [Cs.len]; done) | rfl)) rfl ?_
    refine OpsFrom.v (Y.move (up0 rfl rfl rfl) rfl rfl) rfl ?_
    refine OpsFrom.v (Y.ia0 ty31 ty24 (up0 rfl rfl rfl) rfl rfl rfl (by first | (with_reducible assumption) | omega | (simp only [lens, rbytes_it1_l, *]; first | done | omega) | decide | (split <;> simp only [lens, rbytes_it1_l, *]) | (with_reducible exact Lt.mono (by assumption) (by decide)) | (simp only [Cs.len]; done) | rfl)) rfl ?_
    refine OpsFrom.v (Y.ldI ty24 rfl (up0 rfl rfl rfl) rfl rfl rfl (by first | (with_reducible assumption) | omega | (simp only [lens, rbytes_it1_l, *]; first | done | omega) | decide | (split <;> simp only [lens, rbytes_it1_l, *]) | (with_reducible exact Lt.mono (by assumption) (by decide)) | (simp only [Cs.len]; done) | rfl)) rfl ?_
    refine OpsFrom.v (Y.conv ty24.u ty5.u u8s u8m (up0 rfl rfl rfl) rfl rfl) rfl ?_
    refine OpsFrom.v (Y.ia0 ty22 ty5 (up0 rfl rfl rfl) rfl rfl rfl (by first | (with_reducible assumption) | omega | (simp only [lens, rbytes_it1_l, *]; first | done | omega) | decide | (split <;> simp only [lens, rbytes_it1_l, *]) | (with_reducible exact Lt.mono (by assumption) (by decide)) | (simp only [Cs.len]; done) | rfl)) rfl ?_
    refine OpsFrom.n (Y.stI ty5 (upN rfl rfl) rfl rfl rfl rfl (by first | (with_reducible assumption) | omega | (simp only [lens, rbytes_it1_l, *]; first | done | omega) | decide | (split <;> simp only [lens, rbytes_it1_l, *]) | (with_reducible exact Lt.mono (by assumption) (by decide)) | (simp only [Cs.len]; done) | rfl)) rfl rfl ?_
    refine OpsFrom.nil ?_
    refine Holds.reg ?_
    refine OpsFrom.v (Y.move (up0 rfl rfl rfl) rfl rfl) rfl ?_
    refine OpsFrom.v (Y.mulI (a := 2) (up0 rfl rfl rfl) rfl rfl rfl (by first | (with_reducible assumption) | omega | (simp only [lens, rbytes_it1_l, *]; first | done | omega) | decide | (split <;> simp only [lens, rbytes_it1_l, *]) | (with_reducible exact Lt.mono (by assumption) (by decide)) | (simp only [Cs.len]; done) | rfl)) rfl ?_
    refine OpsFrom.v (Y.addI (b := 1) (up0 rfl rfl rfl) rfl rfl rfl (by first | (with_reducible assumption) | omega | (simp only [lens, rbytes_it1_l, *]; first | done | omega) | decide | (split <;> simp only [lens, rbytes_it1_l, *]) | (with_reducible exact Lt.mono (by assumption) (by decide)) | (simp only [Cs.len]; done) | rfl)) rfl ?_
    refine OpsFrom.v (Y.move (up0 rfl rfl rfl) rfl rfl) rfl ?_
    refine OpsFrom.v (Y.ia0 ty31 ty24 (up0 rfl rfl rfl) rfl rfl rfl (by first | (with_reducible assumption) | omega | (simp only [lens, rbytes_it1_l, *]; first | done | omega) | decide | (split <;> simp only [lens, rbytes_it1_l, *]) | (with_reducible exact Lt.mono (by assumption) (by decide)) | (simp only [Cs.len]; done) | rfl)) rfl ?_
    refine OpsFrom.v (Y.ldI ty24 rfl (up0 rfl rfl rfl) rfl rfl rfl (by first | (with_reducible assumption) | omega | (simp only [lens, rbytes_it1_l, *]; first | done | omega) | decide | (split <;> simp only [lens, rbytes_it1_l, *]) | (with_reducible exact Lt.mono (by assumption) (by decide)) | (simp only [Cs.len]; done) | rfl)) rfl ?_
    refine OpsFrom.v (Y.shr (b := 8) u64s u64m (up0 rfl rfl rfl) rfl rfl rfl) rfl ?_
    refine OpsFrom.v (Y.conv ty24.u ty5.u u8s u8m (up0 rfl rfl rfl) rfl rfl) rfl ?_
    refine OpsFrom.v (Y.ia0 ty22 ty5 (up0 rfl rfl rfl) rfl rfl rfl (by first | (with_reducible assumption) | omega | (simp only [lens, rbytes_it1_l, *]; first | done | omega) | decide | (split <;> simp only [lens, rbytes_it1_l, *]) | (with_reducible exact Lt.mono (by assumption) (by decide)) | (simp only [Cs.len]; done) | rfl)) rfl ?_
    refine OpsFrom.n (Y.stI ty5 (upN rfl rfl) rfl rfl rfl rfl (by first | (with_reducible assumption) | omega | (simp only [lens, rbytes_it1_l, *]; first | done | omega) | decide | (split <;> simp only [lens, rbytes_it1_l, *]) | (with_reducible exact Lt.mono (by assumption) (by decide)) | (simp only [Cs.len]; done) | rfl)) rfl rfl ?_
    refine OpsFrom.nil ?_
    refine Holds.reg ?_
    refine OpsFrom.v (Y.move (up0 rfl rfl rfl) rfl rfl) rfl ?_
    refine OpsFrom.v (Y.addI (b := 1) (up0 rfl rfl rfl) rfl rfl rfl (by first | (with_reducible assumption) | omega | (simp only [lens, rbytes_it1_l, *]; first | done | omega) | decide | (split <;> simp only [lens, rbytes_it1_l, *]) | (with_reducible exact Lt.mono (by assumption) (by decide)) | (simp only [Cs.len]; done) | rfl)) rfl ?_
    refine OpsFrom.v (Y.assign (up0 rfl rfl rfl) rfl rfl) rfl ?_
    refine OpsFrom.nil ?_
    exact Holds.again (i1_ + 1) (by omega) (by omega) [] ⟨⟨rfl, rfl, rfl, (nEq (by omega)), trivial⟩, ⟨rfl, rfl, (hEq (by rw [rbytes_it1_s]; unfold rbytes_s1; first | (dsimp only; done) | rfl)), trivial⟩, rfl, rfl⟩
  · obtain rfl : i1_ = 16 := by omega
    refine Holds.exit ?_
    refine Holds.seq ?_
    refine Holds.reg ?_
    refine OpsFrom.v (Y.ldAll ty22 rfl (up0 rfl rfl rfl) rfl rfl rfl (by first | (with_reducible assumption) | omega | (simp only [lens, rbytes_it1_l, *]; first | done | omega) | decide | (split <;> simp only [lens, rbytes_it1_l, *]) | (with_reducible exact Lt.mono (by assumption) (by decide)) | (simp only [Cs.len]; done) | rfl) (by decide)) rfl ?_
    refine OpsFrom.n (Y.stR ty22 (upN rfl rfl) rfl rfl rfl rfl rfl (by first | (with_reducible assumption) | omega | (simp only [lens, rbytes_it1_l, *]; first | done | omega) | decide | (split <;> simp only [lens, rbytes_it1_l, *]) | (with_reducible exact Lt.mono (by assumption) (by decide)) | (simp only [Cs.len]; done) | rfl) (by first | (with_reducible assumption) | omega | (simp only [lens, rbytes_it1_l, *]; first | done | omega) | decide | (split <;> simp only [lens, rbytes_it1_l, *]) | (with_reducible exact Lt.mono (by assumption) (by decide)) | (simp only [Cs.len]; done) | rfl) (by decide)) rfl rfl ?_
    refine OpsFrom.nil ?_
    refine Holds.ret ?_
    exact Holds.ret1 (.inl rfl) rfl (.rowN rfl rfl ty22 rfl (by first | (with_reducible assumption) | omega | (simp only [lens, rbytes_it1_l, *]; first | done | omega) | decide | (split <;> simp only [lens, rbytes_it1_l, *]) | (with_reducible exact Lt.mono (by assumption) (by decide)) | (simp only [Cs.len]; done) | rfl) (by decide)) (.same _) rfl

def radd_s1 (a : List Nat) (b : List Nat) (i1_ : Nat) (m1_ : List Nat) : List Nat :=
  let v3_ : Nat := ((a.getD i1_ 0) + (b.getD i1_ 0)) % 18446744073709551616
  m1_.set i1_ v3_
def radd_it1 (a : List Nat) (b : List Nat) (i1_ : Nat) : List Nat := iter (radd_s1 a b) i1_ (List.replicate 32 0)
theorem radd_it1_z (a : List Nat) (b : List Nat) : radd_it1 a b 0 = List.replicate 32 0 := rfl
theorem radd_it1_s (a : List Nat) (b : List Nat) (i1_ : Nat) : radd_it1 a b (i1_ + 1) = radd_s1 a b i1_ (radd_it1 a b i1_) := by unfold radd_it1; exact iterS _ _ _
theorem radd_it1_l (a : List Nat) (b : List Nat) (i1_ : Nat) : ((radd_it1 a b i1_)).length = (List.replicate 32 0 : List Nat).length := iter_inv (fun (s : List Nat) => (s).length = (List.replicate 32 0 : List Nat).length) (by simp) (fun i s h => by
  unfold radd_s1
  first | (simp [h]; done) | (dsimp only; (repeat' split) <;> simp [h])) i1_
def radd (a : List Nat) (b : List Nat) : List Nat :=
  (rfold (radd_it1 a b 16))
theorem radd_len (a : List Nat) (b : List Nat) (l_a : a.length = 16) (l_b : b.length = 16) : ((radd a b)).length = 16 := by
  unfold radd
  first | (simp [radd_it1_l, rfold_l]; done) | (simp [*, radd_it1_l, rfold_l]; done) | (dsimp only; (repeat' split) <;> simp [*, radd_it1_l, rfold_l])
theorem w_radd (a : List Nat) (b : List Nat) (l_a : a.length = 16) (l_b : b.length = 16) : VC Try.prog 25 [.row (.ints .u64 a), .row (.ints .u64 b)] (.row (.ints .u64 (radd a b))) := by
  refine VC.go Try.func25 rfl Try.ntmps25 rfl rfl fun O w => ?_
  refine Holds.seq ?_
  refine Holds.reg ?_
  refine OpsFrom.u (Y.boxR (d := 2) (up0 rfl rfl rfl) rfl rfl rfl) rfl rfl rfl ?_
  refine OpsFrom.u (Y.boxR (d := 3) (up0 rfl rfl rfl) rfl rfl rfl) rfl rfl rfl ?_
  refine OpsFrom.u (Y.alloc (d := 4) ty31 rfl rfl (up0 rfl rfl rfl) rfl) rfl rfl rfl ?_
  refine OpsFrom.nil ?_
  refine Holds.seq ?_
  refine Holds.reg ?_
  refine OpsFrom.v (Y.buildA ty71 ty24 rfl (up0 rfl rfl rfl) rfl (.nil _)) rfl ?_
  refine OpsFrom.u (Y.alloc (d := 5) ty71 rfl rfl (up0 rfl rfl rfl) rfl) rfl rfl rfl ?_
  refine OpsFrom.n (Y.stR ty71 (upN rfl rfl) rfl rfl rfl rfl rfl (by first | (with_reducible assumption) | omega | (simp only [lens, *]; first | done | omega) | decide | (split <;> simp only [lens, *]) | (with_reducible exact Lt.mono (by assumption) (by decide)) | (simp only [Cs.len]; done) | rfl) (by first | (with_reducible assumption) | omega | (simp only [lens, *]; first | done | omega) | decide | (split <;> simp only [lens, *]) | (with_reducible exact Lt.mono (by assumption) (by decide)) | (simp only [Cs.len]; done) | rfl) (by decide)) rfl rfl ?_
  refine OpsFrom.nil ?_
  refine Holds.seq ?_
  refine Holds.seq ?_
  refine Holds.reg ?_
  refine OpsFrom.v (Y.assign (v := (.one (.n .i64 0))) (up0 rfl rfl rfl) rfl rfl) rfl ?_
  refine OpsFrom.nil ?_
  refine Holds.block ?_
  refine Holds.loop (fun (i1_ : Nat) => ⟨[(2, .one (.p 2 0)), (3, .one (.p 3 0)), (4, .one (.p 4 0)), (5, .one (.p 5 0)), (6, .one (.n .i64 i1_))], [(2, .own (.ints .u64 a)), (3, .own (.ints .u64 b)), (4, .own (.ints .u64 (List.replicate 16 0))), (5, .own (.ints .u64 (radd_it1 a b i1_)))]⟩) (fun (i1_ : Nat) => i1_ ≤ 16) (fun (i1_ : Nat) => 16 - i1_) 0 (by first | (with_reducible assumption) | omega | (simp only [lens, radd_it1_l, *]; first | done | omega) | decide | (split <;> simp only [lens, radd_it1_l, *]) | (with_reducible exact Lt.mono (by assumption) (by decide)) | (simp only [Cs.len]; done) | rfl) [] ⟨⟨rfl, rfl, rfl, rfl, rfl, trivial⟩, ⟨rfl, rfl, rfl, (hEq (congrArg (fun (s : List Nat) => s) (radd_it1_z a b)).symm), trivial⟩, rfl, rfl⟩ ?_
  intro i1_ k1_
  refine Holds.seq ?_
  refine Holds.seq ?_
  refine Holds.reg ?_
  refine OpsFrom.v (Y.move (up0 rfl rfl rfl) rfl rfl) rfl ?_
  refine OpsFrom.v (Y.lss (b := 16) (up0 rfl rfl rfl) rfl rfl rfl) rfl ?_
  refine OpsFrom.nil ?_
  refine Holds.condD rfl (fun h9 => ?_) (fun h9 => ?_)
  · refine Holds.skip ?_
    refine Holds.seq ?_
    refine Holds.block ?_
    refine Holds.dr mx [([12], [13, 14, 15, 16, 17, 18, 19]), ([13], [12, 16, 17, 18]), ([14], [12, 16, 17, 18]), ([15], [12, 16, 17, 18]), ([16], [12, 13, 14, 15]), ([17], [12, 13, 14, 15]), ([18], [12, 13, 14, 15]), ([19], [12]), ([20], []), ([5], [])] (by kernel_rfl) ?_
    refine CertK.vd (Y.move (up0 rfl rfl rfl) rfl rfl) rfl rfl ?_
    refine CertK.vd (Y.move (up0 rfl rfl rfl) rfl rfl) rfl rfl ?_
    refine CertK.vd (Y.ia0 ty31 ty24 (up0 rfl rfl rfl) rfl rfl rfl (by first | (with_reducible assumption) | omega | (simp only [lens, radd_it1_l, *]; first | done | omega) | decide | (split <;> simp only [lens, radd_it1_l, *]) | (with_reducible exact Lt.mono (by assumption) (by decide)) | (simp only [Cs.len]; done) | rfl)) rfl rfl ?_
    refine CertK.vd (Y.ldI ty24 rfl (up0 rfl rfl rfl) rfl rfl rfl (by first | (with_reducible assumption) | omega | (simp only [lens, radd_it1_l, *]; first | done | omega) | decide | (split <;> simp only [lens, radd_it1_l, *]) | (with_reducible exact Lt.mono (by assumption) (by decide)) | (simp only [Cs.len]; done) | rfl)) rfl rfl ?_
    refine CertK.vd (Y.move (up0 rfl rfl rfl) rfl rfl) rfl rfl ?_
    refine CertK.vd (Y.ia0 ty31 ty24 (up0 rfl rfl rfl) rfl rfl rfl (by first | (with_reducible assumption) | omega | (simp only [lens, radd_it1_l, *]; first | done | omega) | decide | (split <;> simp only [lens, radd_it1_l, *]) | (with_reducible exact Lt.mono (by assumption) (by decide)) | (simp only [Cs.len]; done) | rfl)) rfl rfl ?_
    refine CertK.vd (Y.ldI ty24 rfl (up0 rfl rfl rfl) rfl rfl rfl (by first | (with_reducible assumption) | omega | (simp only [lens, radd_it1_l, *]; first | done | omega) | decide | (split <;> simp only [lens, radd_it1_l, *]) | (with_reducible exact Lt.mono (by assumption) (by decide)) | (simp only [Cs.len]; done) | rfl)) rfl rfl ?_
    refine CertK.vd (Y.add u64s u64m (up0 rfl rfl rfl) rfl rfl rfl) rfl rfl ?_
    refine CertK.v (Y.ia0 ty71 ty24 (up0 rfl rfl rfl) rfl rfl rfl (by first | (with_reducible assumption) | omega | (simp only [lens, radd_it1_l, *]; first | done | omega) | decide | (split <;> simp only [lens, radd_it1_l, *]) | (with_reducible exact Lt.mono (by assumption) (by decide)) | (simp only [Cs.len]; done) | rfl)) rfl ?_
    refine CertK.n (Y.stI ty24 (upN rfl rfl) rfl rfl rfl rfl (by first | (with_reducible assumption) | omega | (simp only [lens, radd_it1_l, *]; first | done | omega) | decide | (split <;> simp only [lens, radd_it1_l, *]) | (with_reducible exact Lt.mono (by assumption) (by decide)) | (simp only [Cs.len]; done) | rfl)) rfl rfl rfl rfl ?_
    refine CertK.nil ?_
    refine Holds.reg ?_
    refine OpsFrom.v (Y.move (up0 rfl rfl rfl) rfl rfl) rfl ?_
    refine OpsFrom.v (Y.addI (b := 1) (up0 rfl rfl rfl) rfl rfl rfl (by first | (with_reducible assumption) | omega | (simp only [lens, radd_it1_l, *]; first | done | omega) | decide | (split <;> simp only [lens, radd_it1_l, *]) | (with_reducible exact Lt.mono (by assumption) (by decide)) | (simp only [Cs.len]; done) | rfl)) rfl ?_
    refine OpsFrom.v (Y.assign (up0 rfl rfl rfl) rfl rfl) rfl ?_
    refine OpsFrom.nil ?_
    exact Holds.again (i1_ + 1) (by omega) (by omega) [] ⟨⟨rfl, rfl, rfl, rfl, (nEq (by omega)), trivial⟩, ⟨rfl, rfl, rfl, (hEq (by rw [radd_it1_s]; unfold radd_s1; first | (dsimp only; done) | rfl)), trivial⟩, rfl, rfl⟩
  · obtain rfl : i1_ = 16 := by omega
    refine Holds.exit ?_
    refine Holds.seq ?_
    refine Holds.reg ?_
    refine OpsFrom.v (Y.ldAll ty71 rfl (up0 rfl rfl rfl) rfl rfl rfl (by first | (with_reducible assumption) | omega | (simp only [lens, radd_it1_l, *]; first | done | omega) | decide | (split <;> simp only [lens, radd_it1_l, *]) | (with_reducible exact Lt.mono (by assumption) (by decide)) | (simp only [Cs.len]; done) | rfl) (by decide)) rfl ?_
    refine OpsFrom.v (Y.callV (w_rfold _ (by first | (with_reducible assumption) | omega | (simp only [lens, radd_it1_l, rfold_l, *]; first | done | omega) | decide | (split <;> simp only [lens, radd_it1_l, rfold_l, *]) | (with_reducible exact Lt.mono (by assumption) (by decide)) | (simp only [Cs.len]; done) | rfl)) fnok45 (up0 rfl rfl rfl) rfl rfl (.cons _ _ _ _ rfl .nil) (.cons _ _ _ _ (.same _) .nil) rfl rfl) rfl ?_
    refine OpsFrom.n (Y.stR ty31 (upN rfl rfl) rfl rfl rfl rfl rfl (by first | (with_reducible assumption) | omega | (simp only [lens, radd_it1_l, rfold_l, *]; first | done | omega) | decide | (split <;> simp only [lens, radd_it1_l, rfold_l, *]) | (with_reducible exact Lt.mono (by assumption) (by decide)) | (simp only [Cs.len]; done) | rfl) (by first | (with_reducible assumption) | omega | (simp only [lens, radd_it1_l, rfold_l, *]; first | done | omega) | decide | (split <;> simp only [lens, radd_it1_l, rfold_l, *]) | (with_reducible exact Lt.mono (by assumption) (by decide)) | (simp only [Cs.len]; done) | rfl) (by decide)) rfl rfl ?_
    refine OpsFrom.nil ?_
    refine Holds.ret ?_
    exact Holds.ret1 (.inl rfl) rfl (.rowN rfl rfl ty31 rfl (by first | (with_reducible assumption) | omega | (simp only [lens, radd_it1_l, rfold_l, *]; first | done | omega) | decide | (split <;> simp only [lens, radd_it1_l, rfold_l, *]) | (with_reducible exact Lt.mono (by assumption) (by decide)) | (simp only [Cs.len]; done) | rfl) (by decide)) (.same _) rfl

def rsub (a : List Nat) (b : List Nat) : List Nat :=
  (radd a (rless rP b))
theorem rsub_len (a : List Nat) (b : List Nat) (l_a : a.length = 16) (l_b : b.length = 16) : ((rsub a b)).length = 16 := by
  unfold rsub
  first | (simp [rP_len, rless_len, radd_len]; done) | (simp [*, rP_len, rless_len, radd_len]; done) | (dsimp only; (repeat' split) <;> simp [*, rP_len, rless_len, radd_len])
theorem w_rsub (a : List Nat) (b : List Nat) (l_a : a.length = 16) (l_b : b.length = 16) (b_b : Lt 65536 b) : VC Try.prog 27 [.row (.ints .u64 a), .row (.ints .u64 b)] (.row (.ints .u64 (rsub a b))) := by
  refine VC.go Try.func27 rfl Try.ntmps27 rfl rfl fun O w => ?_
  have hpl := rP_lt
  refine Holds.seq ?_
  refine Holds.reg ?_
  refine OpsFrom.u (Y.boxR (d := 2) (up0 rfl rfl rfl) rfl rfl rfl) rfl rfl rfl ?_
  refine OpsFrom.u (Y.boxR (d := 3) (up0 rfl rfl rfl) rfl rfl rfl) rfl rfl rfl ?_
  refine OpsFrom.u (Y.alloc (d := 4) ty31 rfl rfl (up0 rfl rfl rfl) rfl) rfl rfl rfl ?_
  refine OpsFrom.nil ?_
  refine Holds.seq ?_
  refine Holds.dr mx [([5], [6, 7, 8]), ([6], [5, 7]), ([7], [5, 6]), ([8], [5]), ([9], []), ([4], [])] (by kernel_rfl) ?_
  refine CertK.vd (Y.ldAll ty31 rfl (up0 rfl rfl rfl) rfl rfl rfl (by first | (with_reducible assumption) | omega | (simp only [lens, rP_len, rless_len, radd_len, *]; first | done | omega) | decide | (split <;> simp only [lens, rP_len, rless_len, radd_len, *]) | (with_reducible exact Lt.mono (by assumption) (by decide)) | (simp only [Cs.len]; done) | rfl) (by decide)) rfl rfl ?_
  refine CertK.vd (Y.callV w_rP fnok48 (up0 rfl rfl rfl) rfl rfl .nil .nil rfl rfl) rfl rfl ?_
  refine CertK.vd (Y.ldAll ty31 rfl (up0 rfl rfl rfl) rfl rfl rfl (by first | (with_reducible assumption) | omega | (simp only [lens, rP_len, rless_len, radd_len, *]; first | done | omega) | decide | (split <;> simp only [lens, rP_len, rless_len, radd_len, *]) | (with_reducible exact Lt.mono (by assumption) (by decide)) | (simp only [Cs.len]; done) | rfl) (by decide)) rfl rfl ?_
  refine CertK.vd (Y.callV (w_rless _ _ (by first | (with_reducible assumption) | omega | (simp only [lens, rP_len, rless_len, radd_len, *]; first | done | omega) | decide | (split <;> simp only [lens, rP_len, rless_len, radd_len, *]) | (with_reducible exact Lt.mono (by assumption) (by decide)) | (simp only [Cs.len]; done) | rfl) (by first | (with_reducible assumption) | omega | (simp only [lens, rP_len, rless_len, radd_len, *]; first | done | omega) | decide | (split <;> simp only [lens, rP_len, rless_len, radd_len, *]) | (with_reducible exact Lt.mono (by assumption) (by decide)) | (simp only [Cs.len]; done) | rfl) (by first | (with_reducible assumption) | omega | (simp only [lens, rP_len, rless_len, radd_len, *]; first | done | omega) | decide | (split <;> simp only [lens, rP_len, rless_len, radd_len, *]) | (with_reducible exact Lt.mono (by assumption) (by decide)) | (simp only [Cs.len]; done) | rfl) (by first | (with_reducible assumption) | omega | (simp only [lens, rP_len, rless_len, radd_len, *]; first | done | omega) | decide | (split <;> simp only [lens, rP_len, rless_len, radd_len, *]) | (with_reducible exact Lt.mono (by assumption) (by decide)) | (simp only [Cs.len]; done) | rfl)) fnok47 (up0 rfl rfl rfl) rfl rfl (.cons _ _ _ _ rfl (.cons _ _ _ _ rfl .nil)) (.cons _ _ _ _ (.same _) (.cons _ _ _ _ (.same _) .nil)) rfl rfl) rfl rfl ?_
  refine CertK.v (Y.callV (w_radd _ _ (by first | (with_reducible assumption) | omega | (simp only [lens, rP_len, rless_len, radd_len, *]; first | done | omega) | decide | (split <;> simp only [lens, rP_len, rless_len, radd_len, *]) | (with_reducible exact Lt.mono (by assumption) (by decide)) | (simp only [Cs.len]; done) | rfl) (by first | (with_reducible assumption) | omega | (simp only [lens, rP_len, rless_len, radd_len, *]; first | done | omega) | decide | (split <;> simp only [lens, rP_len, rless_len, radd_len, *]) | (with_reducible exact Lt.mono (by assumption) (by decide)) | (simp only [Cs.len]; done) | rfl)) fnok25 (up0 rfl rfl rfl) rfl rfl (.cons _ _ _ _ rfl (.cons _ _ _ _ rfl .nil)) (.cons _ _ _ _ (.same _) (.cons _ _ _ _ (.same _) .nil)) rfl rfl) rfl ?_
  refine CertK.n (Y.stR ty31 (upN rfl rfl) rfl rfl rfl rfl rfl (by first | (with_reducible assumption) | omega | (simp only [lens, rP_len, rless_len, radd_len, *]; first | done | omega) | decide | (split <;> simp only [lens, rP_len, rless_len, radd_len, *]) | (with_reducible exact Lt.mono (by assumption) (by decide)) | (simp only [Cs.len]; done) | rfl) (by first | (with_reducible assumption) | omega | (simp only [lens, rP_len, rless_len, radd_len, *]; first | done | omega) | decide | (split <;> simp only [lens, rP_len, rless_len, radd_len, *]) | (with_reducible exact Lt.mono (by assumption) (by decide)) | (simp only [Cs.len]; done) | rfl) (by decide)) rfl rfl rfl rfl ?_
  refine CertK.nil ?_
  refine Holds.ret ?_
  exact Holds.ret1 (.inl rfl) rfl (.rowN rfl rfl ty31 rfl (by first | (with_reducible assumption) | omega | (simp only [lens, rP_len, rless_len, radd_len, *]; first | done | omega) | decide | (split <;> simp only [lens, rP_len, rless_len, radd_len, *]) | (with_reducible exact Lt.mono (by assumption) (by decide)) | (simp only [Cs.len]; done) | rfl) (by decide)) (.same _) rfl

def rmul_s2 (a : List Nat) (b : List Nat) (i1_ : Nat) (m1_ : List Nat) (i2_ : Nat) (m2_ : List Nat) : List Nat :=
  let v29_ : Nat := (a.getD i1_ 0) * (b.getD i2_ 0) % 18446744073709551616
  let v30_ : Nat := ((m2_.getD (i1_ + i2_) 0) + v29_) % 18446744073709551616
  m2_.set (i1_ + i2_) v30_
def rmul_it2 (a : List Nat) (b : List Nat) (i1_ : Nat) (m1_ : List Nat) (i2_ : Nat) : List Nat := iter (rmul_s2 a b i1_ m1_) i2_ m1_
theorem rmul_it2_z (a : List Nat) (b : List Nat) (i1_ : Nat) (m1_ : List Nat) : rmul_it2 a b i1_ m1_ 0 = m1_ := rfl
theorem rmul_it2_s (a : List Nat) (b : List Nat) (i1_ : Nat) (m1_ : List Nat) (i2_ : Nat) : rmul_it2 a b i1_ m1_ (i2_ + 1) = rmul_s2 a b i1_ m1_ i2_ (rmul_it2 a b i1_ m1_ i2_) := by unfold rmul_it2; exact iterS _ _ _
theorem rmul_it2_l (a : List Nat) (b : List Nat) (i1_ : Nat) (m1_ : List Nat) (i2_ : Nat) : ((rmul_it2 a b i1_ m1_ i2_)).length = (m1_ : List Nat).length := iter_inv (fun (s : List Nat) => (s).length = (m1_ : List Nat).length) (by simp) (fun i s h => by
  unfold rmul_s2
  first | (simp [h]; done) | (dsimp only; (repeat' split) <;> simp [h])) i2_
def rmul_s1 (a : List Nat) (b : List Nat) (i1_ : Nat) (m1_ : List Nat) : List Nat :=
  (rmul_it2 a b i1_ m1_ 16)
def rmul_it1 (a : List Nat) (b : List Nat) (i1_ : Nat) : List Nat := iter (rmul_s1 a b) i1_ (List.replicate 32 0)
theorem rmul_it1_z (a : List Nat) (b : List Nat) : rmul_it1 a b 0 = List.replicate 32 0 := rfl
theorem rmul_it1_s (a : List Nat) (b : List Nat) (i1_ : Nat) : rmul_it1 a b (i1_ + 1) = rmul_s1 a b i1_ (rmul_it1 a b i1_) := by unfold rmul_it1; exact iterS _ _ _
theorem rmul_it1_l (a : List Nat) (b : List Nat) (i1_ : Nat) : ((rmul_it1 a b i1_)).length = (List.replicate 32 0 : List Nat).length := iter_inv (fun (s : List Nat) => (s).length = (List.replicate 32 0 : List Nat).length) (by simp) (fun i s h => by
  unfold rmul_s1
  first | (simp [rmul_it2_l, h]; done) | (dsimp only; (repeat' split) <;> simp [rmul_it2_l, h])) i1_
def rmul (a : List Nat) (b : List Nat) : List Nat :=
  (rfold (rmul_it1 a b 16))
theorem rmul_len (a : List Nat) (b : List Nat) (l_a : a.length = 16) (l_b : b.length = 16) : ((rmul a b)).length = 16 := by
  unfold rmul
  first | (simp [rmul_it2_l, rmul_it1_l, rfold_l]; done) | (simp [*, rmul_it2_l, rmul_it1_l, rfold_l]; done) | (dsimp only; (repeat' split) <;> simp [*, rmul_it2_l, rmul_it1_l, rfold_l])
theorem w_rmul (a : List Nat) (b : List Nat) (l_a : a.length = 16) (l_b : b.length = 16) : VC Try.prog 29 [.row (.ints .u64 a), .row (.ints .u64 b)] (.row (.ints .u64 (rmul a b))) := by
  refine VC.go Try.func29 rfl Try.ntmps29 rfl rfl fun O w => ?_
  refine Holds.seq ?_
  refine Holds.reg ?_
  refine OpsFrom.u (Y.boxR (d := 2) (up0 rfl rfl rfl) rfl rfl rfl) rfl rfl rfl ?_
  refine OpsFrom.u (Y.boxR (d := 3) (up0 rfl rfl rfl) rfl rfl rfl) rfl rfl rfl ?_
  refine OpsFrom.u (Y.alloc (d := 4) ty31 rfl rfl (up0 rfl rfl rfl) rfl) rfl rfl rfl ?_
  refine OpsFrom.nil ?_
  refine Holds.seq ?_
  refine Holds.reg ?_
  refine OpsFrom.v (Y.buildA ty71 ty24 rfl (up0 rfl rfl rfl) rfl (.nil _)) rfl ?_
  refine OpsFrom.u (Y.alloc (d := 5) ty71 rfl rfl (up0 rfl rfl rfl) rfl) rfl rfl rfl ?_
  refine OpsFrom.n (Y.stR ty71 (upN rfl rfl) rfl rfl rfl rfl rfl (by first | (with_reducible assumption) | omega | (simp only [lens, *]; first | done | omega) | decide | (split <;> simp only [lens, *]) | (with_reducible exact Lt.mono (by assumption) (by decide)) | (simp only [Cs.len]; done) | rfl) (by first | (with_reducible assumption) | omega | (simp only [lens, *]; first | done | omega) | decide | (split <;> simp only [lens, *]) | (with_reducible exact Lt.mono (by assumption) (by decide)) | (simp only [Cs.len]; done) | rfl) (by decide)) rfl rfl ?_
  refine OpsFrom.nil ?_
  refine Holds.seq ?_
  refine Holds.seq ?_
  refine Holds.reg ?_
  refine OpsFrom.v (Y.assign (v := (.one (.n .i64 0))) (up0 rfl rfl rfl) rfl rfl) rfl ?_
  refine OpsFrom.nil ?_
  refine Holds.block ?_
  refine Holds.loop (fun (i1_ : Nat) => ⟨[(2, .one (.p 2 0)), (3, .one (.p 3 0)), (4, .one (.p 4 0)), (5, .one (.p 5 0)), (6, .one (.n .i64 i1_))], [(2, .own (.ints .u64 a)), (3, .own (.ints .u64 b)), (4, .own (.ints .u64 (List.replicate 16 0))), (5, .own (.ints .u64 (rmul_it1 a b i1_)))]⟩) (fun (i1_ : Nat) => i1_ ≤ 16) (fun (i1_ : Nat) => 16 - i1_) 0 (by first | (with_reducible assumption) | omega | (simp only [lens, rmul_it1_l, *]; first | done | omega) | decide | (split <;> simp only [lens, rmul_it1_l, *]) | (with_reducible exact Lt.mono (by assumption) (by decide)) | (simp only [Cs.len]; done) | rfl) [] ⟨⟨rfl, rfl, rfl, rfl, rfl, trivial⟩, ⟨rfl, rfl, rfl, (hEq (congrArg (fun (s : List Nat) => s) (rmul_it1_z a b)).symm), trivial⟩, rfl, rfl⟩ ?_
  intro i1_ k1_
  refine Holds.seq ?_
  refine Holds.seq ?_
  refine Holds.reg ?_
  refine OpsFrom.v (Y.move (up0 rfl rfl rfl) rfl rfl) rfl ?_
  refine OpsFrom.v (Y.lss (b := 16) (up0 rfl rfl rfl) rfl rfl rfl) rfl ?_
  refine OpsFrom.nil ?_
  refine Holds.condD rfl (fun h10 => ?_) (fun h10 => ?_)
  · refine Holds.skip ?_
    refine Holds.seq ?_
    refine Holds.block ?_
    refine Holds.seq ?_
    refine Holds.reg ?_
    refine OpsFrom.v (Y.assign (v := (.one (.n .i64 0))) (up0 rfl rfl rfl) rfl rfl) rfl ?_
    refine OpsFrom.nil ?_
    refine Holds.block ?_
    refine Holds.loop (fun (i2_ : Nat) => ⟨[(2, .one (.p 2 0)), (3, .one (.p 3 0)), (4, .one (.p 4 0)), (5, .one (.p 5 0)), (6, .one (.n .i64 i1_)), (9, .one (.n .i64 i1_)), (10, .one (.b (decide (i1_ < 16)))), (7, .one (.n .i64 i2_))], [(2, .own (.ints .u64 a)), (3, .own (.ints .u64 b)), (4, .own (.ints .u64 (List.replicate 16 0))), (5, .own (.ints .u64 (rmul_it2 a b i1_ (rmul_it1 a b i1_) i2_)))]⟩) (fun (i2_ : Nat) => i2_ ≤ 16) (fun (i2_ : Nat) => 16 - i2_) 0 (by first | (with_reducible assumption) | omega | (simp only [lens, rmul_it1_l, rmul_it2_l, *]; first | done | omega) | decide | (split <;> simp only [lens, rmul_it1_l, rmul_it2_l, *]) | (with_reducible exact Lt.mono (by assumption) (by decide)) | (simp only [Cs.len]; done) | rfl) [] ⟨⟨rfl, rfl, rfl, rfl, rfl, rfl, rfl, rfl, trivial⟩, ⟨rfl, rfl, rfl, (hEq (congrArg (fun (s : List Nat) => s) (rmul_it2_z a b i1_ (rmul_it1 a b i1_))).symm), trivial⟩, rfl, rfl⟩ ?_
    intro i2_ k2_
    refine Holds.seq ?_
    refine Holds.seq ?_
    refine Holds.reg ?_
    refine OpsFrom.v (Y.move (up0 rfl rfl rfl) rfl rfl) rfl ?_
    refine OpsFrom.v (Y.lss (b := 16) (up0 rfl rfl rfl) rfl rfl rfl) rfl ?_
    refine OpsFrom.nil ?_
    refine Holds.condD rfl (fun h14 => ?_) (fun h14 => ?_)
    · refine Holds.skip ?_
      refine Holds.seq ?_
      refine Holds.block ?_
      refine Holds.dr mx [([17], [18, 20, 21, 22, 23, 24, 25, 26, 27, 28, 29, 30, 31, 32]), ([18], [17, 20, 21, 22, 23, 24, 25, 26, 27, 28, 29, 30, 31, 32]), ([19], [20, 21, 22, 23, 24, 25, 26, 27, 28, 29, 30, 31, 32]), ([20], [17, 18, 19, 21, 25, 26, 27, 28, 29, 30, 31]), ([21], [17, 18, 19, 20, 25, 26, 27, 28, 29, 30, 31]), ([22], [17, 18, 19, 25, 26, 27, 28, 29, 30, 31]), ([23], [17, 18, 19, 25, 26, 27, 28, 29, 30, 31]), ([24], [17, 18, 19, 25, 26, 27, 28, 29, 30, 31]), ([25], [17, 18, 19, 20, 21, 22, 23, 24, 28, 29, 30]), ([26], [17, 18, 19, 20, 21, 22, 23, 24, 28, 29, 30]), ([27], [17, 18, 19, 20, 21, 22, 23, 24, 28, 29, 30]), ([28], [17, 18, 19, 20, 21, 22, 23, 24, 25, 26, 27]), ([29], [17, 18, 19, 20, 21, 22, 23, 24, 25, 26, 27]), ([30], [17, 18, 19, 20, 21, 22, 23, 24, 25, 26, 27]), ([31], [17, 18, 19, 20, 21, 22, 23, 24]), ([32], [17, 18, 19]), ([33], []), ([5], [])] (by kernel_rfl) ?_
      refine CertK.vd (Y.move (up0 rfl rfl rfl) rfl rfl) rfl rfl ?_
      refine CertK.vd (Y.move (up0 rfl rfl rfl) rfl rfl) rfl rfl ?_
      refine CertK.vd (Y.addI (up0 rfl rfl rfl) rfl rfl rfl (by first | (with_reducible assumption) | omega | (simp only [lens, rmul_it1_l, rmul_it2_l, *]; first | done | omega) | decide | (split <;> simp only [lens, rmul_it1_l, rmul_it2_l, *]) | (with_reducible exact Lt.mono (by assumption) (by decide)) | (simp only [Cs.len]; done) | rfl)) rfl rfl ?_
      refine CertK.vd (Y.move (up0 rfl rfl rfl) rfl rfl) rfl rfl ?_
      refine CertK.vd (Y.move (up0 rfl rfl rfl) rfl rfl) rfl rfl ?_
      refine CertK.vd (Y.addI (up0 rfl rfl rfl) rfl rfl rfl (by first | (with_reducible assumption) | omega | (simp only [lens, rmul_it1_l, rmul_it2_l, *]; first | done | omega) | decide | (split <;> simp only [lens, rmul_it1_l, rmul_it2_l, *]) | (with_reducible exact Lt.mono (by assumption) (by decide)) | (simp only [Cs.len]; done) | rfl)) rfl rfl ?_
      refine CertK.vd (Y.ia0 ty71 ty24 (up0 rfl rfl rfl) rfl rfl rfl (by first | (with_reducible assumption) | omega | (simp only [lens, rmul_it1_l, rmul_it2_l, *]; first | done | omega) | decide | (split <;> simp only [lens, rmul_it1_l, rmul_it2_l, *]) | (with_reducible exact Lt.mono (by assumption) (by decide)) | (simp only [Cs.len]; done) | rfl)) rfl rfl ?_
      refine CertK.vd (Y.ldI ty24 rfl (up0 rfl rfl rfl) rfl rfl rfl (by first | (with_reducible assumption) | omega | (simp only [lens, rmul_it1_l, rmul_it2_l, *]; first | done | omega) | decide | (split <;> simp only [lens, rmul_it1_l, rmul_it2_l, *]) | (with_reducible exact Lt.mono (by assumption) (by decide)) | (simp only [Cs.len]; done) | rfl)) rfl rfl ?_
      refine CertK.vd (Y.move (up0 rfl rfl rfl) rfl rfl) rfl rfl ?_
      refine CertK.vd (Y.ia0 ty31 ty24 (up0 rfl rfl rfl) rfl rfl rfl (by first | (with_reducible assumption) | omega | (simp only [lens, rmul_it1_l, rmul_it2_l, *]; first | done | omega) | decide | (split <;> simp only [lens, rmul_it1_l, rmul_it2_l, *]) | (with_reducible exact Lt.mono (by assumption) (by decide)) | (simp only [Cs.len]; done) | rfl)) rfl rfl ?_
      refine CertK.vd (Y.ldI ty24 rfl (up0 rfl rfl rfl) rfl rfl rfl (by first | (with_reducible assumption) | omega | (simp only [lens, rmul_it1_l, rmul_it2_l, *]; first | done | omega) | decide | (split <;> simp only [lens, rmul_it1_l, rmul_it2_l, *]) | (with_reducible exact Lt.mono (by assumption) (by decide)) | (simp only [Cs.len]; done) | rfl)) rfl rfl ?_
      refine CertK.vd (Y.move (up0 rfl rfl rfl) rfl rfl) rfl rfl ?_
      refine CertK.vd (Y.ia0 ty31 ty24 (up0 rfl rfl rfl) rfl rfl rfl (by first | (with_reducible assumption) | omega | (simp only [lens, rmul_it1_l, rmul_it2_l, *]; first | done | omega) | decide | (split <;> simp only [lens, rmul_it1_l, rmul_it2_l, *]) | (with_reducible exact Lt.mono (by assumption) (by decide)) | (simp only [Cs.len]; done) | rfl)) rfl rfl ?_
      refine CertK.vd (Y.ldI ty24 rfl (up0 rfl rfl rfl) rfl rfl rfl (by first | (with_reducible assumption) | omega | (simp only [lens, rmul_it1_l, rmul_it2_l, *]; first | done | omega) | decide | (split <;> simp only [lens, rmul_it1_l, rmul_it2_l, *]) | (with_reducible exact Lt.mono (by assumption) (by decide)) | (simp only [Cs.len]; done) | rfl)) rfl rfl ?_
      refine CertK.vd (Y.mul u64s u64m (up0 rfl rfl rfl) rfl rfl rfl) rfl rfl ?_
      refine CertK.vd (Y.add u64s u64m (up0 rfl rfl rfl) rfl rfl rfl) rfl rfl ?_
      refine CertK.v (Y.ia0 ty71 ty24 (up0 rfl rfl rfl) rfl rfl rfl (by first | (with_reducible assumption) | omega | (simp only [lens, rmul_it1_l, rmul_it2_l, *]; first | done | omega) | decide | (split <;> simp only [lens, rmul_it1_l, rmul_it2_l, *]) | (with_reducible exact Lt.mono (by assumption) (by decide)) | (simp only [Cs.len]; done) | rfl)) rfl ?_
      refine CertK.n (Y.stI ty24 (upN rfl rfl) rfl rfl rfl rfl (by first | (with_reducible assumption) | omega | (simp only [lens, rmul_it1_l, rmul_it2_l, *]; first | done | omega) | decide | (split <;> simp only [lens, rmul_it1_l, rmul_it2_l, *]) | (with_reducible exact Lt.mono (by assumption) (by decide)) | (simp only [Cs.len]; done) | rfl)) rfl rfl rfl rfl ?_
      refine CertK.nil ?_
      refine Holds.reg ?_
      refine OpsFrom.v (Y.move (up0 rfl rfl rfl) rfl rfl) rfl ?_
      refine OpsFrom.v (Y.addI (b := 1) (up0 rfl rfl rfl) rfl rfl rfl (by first | (with_reducible assumption) | omega | (simp only [lens, rmul_it1_l, rmul_it2_l, *]; first | done | omega) | decide | (split <;> simp only [lens, rmul_it1_l, rmul_it2_l, *]) | (with_reducible exact Lt.mono (by assumption) (by decide)) | (simp only [Cs.len]; done) | rfl)) rfl ?_
      refine OpsFrom.v (Y.assign (up0 rfl rfl rfl) rfl rfl) rfl ?_
      refine OpsFrom.nil ?_
      exact Holds.again (i2_ + 1) (by omega) (by omega) [] ⟨⟨rfl, rfl, rfl, rfl, rfl, rfl, rfl, (nEq (by omega)), trivial⟩, ⟨rfl, rfl, rfl, (hEq (by rw [rmul_it2_s]; unfold rmul_s2; first | (dsimp only; done) | rfl)), trivial⟩, rfl, rfl⟩
    · obtain rfl : i2_ = 16 := by omega
      refine Holds.exit ?_
      refine Holds.reg ?_
      refine OpsFrom.v (Y.move (up0 rfl rfl rfl) rfl rfl) rfl ?_
      refine OpsFrom.v (Y.addI (b := 1) (up0 rfl rfl rfl) rfl rfl rfl (by first | (with_reducible assumption) | omega | (simp only [lens, rmul_it1_l, rmul_it2_l, *]; first | done | omega) | decide | (split <;> simp only [lens, rmul_it1_l, rmul_it2_l, *]) | (with_reducible exact Lt.mono (by assumption) (by decide)) | (simp only [Cs.len]; done) | rfl)) rfl ?_
      refine OpsFrom.v (Y.assign (up0 rfl rfl rfl) rfl rfl) rfl ?_
      refine OpsFrom.nil ?_
      exact Holds.again (i1_ + 1) (by omega) (by omega) [] ⟨⟨rfl, rfl, rfl, rfl, (nEq (by omega)), trivial⟩, ⟨rfl, rfl, rfl, (hEq (by rw [rmul_it1_s]; unfold rmul_s1; first | (dsimp only; done) | rfl)), trivial⟩, rfl, rfl⟩
  · obtain rfl : i1_ = 16 := by omega
    refine Holds.exit ?_
    refine Holds.seq ?_
    refine Holds.reg ?_
    refine OpsFrom.v (Y.ldAll ty71 rfl (up0 rfl rfl rfl) rfl rfl rfl (by first | (with_reducible assumption) | omega | (simp only [lens, rmul_it1_l, *]; first | done | omega) | decide | (split <;> simp only [lens, rmul_it1_l, *]) | (with_reducible exact Lt.mono (by assumption) (by decide)) | (simp only [Cs.len]; done) | rfl) (by decide)) rfl ?_
    refine OpsFrom.v (Y.callV (w_rfold _ (by first | (with_reducible assumption) | omega | (simp only [lens, rmul_it1_l, rfold_l, *]; first | done | omega) | decide | (split <;> simp only [lens, rmul_it1_l, rfold_l, *]) | (with_reducible exact Lt.mono (by assumption) (by decide)) | (simp only [Cs.len]; done) | rfl)) fnok45 (up0 rfl rfl rfl) rfl rfl (.cons _ _ _ _ rfl .nil) (.cons _ _ _ _ (.same _) .nil) rfl rfl) rfl ?_
    refine OpsFrom.n (Y.stR ty31 (upN rfl rfl) rfl rfl rfl rfl rfl (by first | (with_reducible assumption) | omega | (simp only [lens, rmul_it1_l, rfold_l, *]; first | done | omega) | decide | (split <;> simp only [lens, rmul_it1_l, rfold_l, *]) | (with_reducible exact Lt.mono (by assumption) (by decide)) | (simp only [Cs.len]; done) | rfl) (by first | (with_reducible assumption) | omega | (simp only [lens, rmul_it1_l, rfold_l, *]; first | done | omega) | decide | (split <;> simp only [lens, rmul_it1_l, rfold_l, *]) | (with_reducible exact Lt.mono (by assumption) (by decide)) | (simp only [Cs.len]; done) | rfl) (by decide)) rfl rfl ?_
    refine OpsFrom.nil ?_
    refine Holds.ret ?_
    exact Holds.ret1 (.inl rfl) rfl (.rowN rfl rfl ty31 rfl (by first | (with_reducible assumption) | omega | (simp only [lens, rmul_it1_l, rfold_l, *]; first | done | omega) | decide | (split <;> simp only [lens, rmul_it1_l, rfold_l, *]) | (with_reducible exact Lt.mono (by assumption) (by decide)) | (simp only [Cs.len]; done) | rfl) (by decide)) (.same _) rfl

def rhalf_s1 (a : List Nat) (i1_ : Nat) (m1_ : List Nat) : List Nat :=
  if i1_ < 15 then
    let v7_ : Nat := (m1_.set i1_ ((a.getD i1_ 0) / 2)).getD i1_ 0
    let v8_ : Nat := ((a.getD (i1_ + 1) 0) % 2) * 65536 % 18446744073709551616
    let v9_ : List Nat := (m1_.set i1_ ((a.getD i1_ 0) / 2)).set i1_ ((v7_ + (v8_ / 2)) % 18446744073709551616)
    v9_
  else
    m1_.set i1_ ((a.getD i1_ 0) / 2)
def rhalf_it1 (a : List Nat) (i1_ : Nat) : List Nat := iter (rhalf_s1 a) i1_ (List.replicate 16 0)
theorem rhalf_it1_z (a : List Nat) : rhalf_it1 a 0 = List.replicate 16 0 := rfl
theorem rhalf_it1_s (a : List Nat) (i1_ : Nat) : rhalf_it1 a (i1_ + 1) = rhalf_s1 a i1_ (rhalf_it1 a i1_) := by unfold rhalf_it1; exact iterS _ _ _
theorem rhalf_it1_l (a : List Nat) (i1_ : Nat) : ((rhalf_it1 a i1_)).length = (List.replicate 16 0 : List Nat).length := iter_inv (fun (s : List Nat) => (s).length = (List.replicate 16 0 : List Nat).length) (by simp) (fun i s h => by
  unfold rhalf_s1
  first | (simp [h]; done) | (dsimp only; (repeat' split) <;> simp [h])) i1_
def rhalf (a : List Nat) : List Nat :=
  (rhalf_it1 a 16)
theorem rhalf_len (a : List Nat) (l_a : a.length = 16) : ((rhalf a)).length = 16 := by
  unfold rhalf
  first | (simp [rhalf_it1_l]; done) | (simp [*, rhalf_it1_l]; done) | (dsimp only; (repeat' split) <;> simp [*, rhalf_it1_l])
theorem w_rhalf (a : List Nat) (l_a : a.length = 16) : VC Try.prog 57 [.row (.ints .u64 a)] (.row (.ints .u64 (rhalf a))) := by
  refine VC.go Try.func57 rfl Try.ntmps57 rfl rfl fun O w => ?_
  refine Holds.seq ?_
  refine Holds.reg ?_
  refine OpsFrom.u (Y.boxR (d := 1) (up0 rfl rfl rfl) rfl rfl rfl) rfl rfl rfl ?_
  refine OpsFrom.u (Y.alloc (d := 2) ty31 rfl rfl (up0 rfl rfl rfl) rfl) rfl rfl rfl ?_
  refine OpsFrom.nil ?_
  refine Holds.seq ?_
  refine Holds.reg ?_
  refine OpsFrom.v (Y.buildA ty31 ty24 rfl (up0 rfl rfl rfl) rfl (.nil _)) rfl ?_
  refine OpsFrom.u (Y.alloc (d := 3) ty31 rfl rfl (up0 rfl rfl rfl) rfl) rfl rfl rfl ?_
  refine OpsFrom.n (Y.stR ty31 (upN rfl rfl) rfl rfl rfl rfl rfl (by first | (with_reducible assumption) | omega | (simp only [lens, *]; first | done | omega) | decide | (split <;> simp only [lens, *]) | (with_reducible exact Lt.mono (by assumption) (by decide)) | (simp only [Cs.len]; done) | rfl) (by first | (with_reducible assumption) | omega | (simp only [lens, *]; first | done | omega) | decide | (split <;> simp only [lens, *]) | (with_reducible exact Lt.mono (by assumption) (by decide)) | (simp only [Cs.len]; done) | rfl) (by decide)) rfl rfl ?_
  refine OpsFrom.nil ?_
  refine Holds.seq ?_
  refine Holds.seq ?_
  refine Holds.reg ?_
  refine OpsFrom.v (Y.assign (v := (.one (.n .i64 0))) (up0 rfl rfl rfl) rfl rfl) rfl ?_
  refine OpsFrom.nil ?_
  refine Holds.block ?_
  refine Holds.loop (fun (i1_ : Nat) => ⟨[(1, .one (.p 1 0)), (2, .one (.p 2 0)), (3, .one (.p 3 0)), (4, .one (.n .i64 i1_))], [(1, .own (.ints .u64 a)), (2, .own (.ints .u64 (List.replicate 16 0))), (3, .own (.ints .u64 (rhalf_it1 a i1_)))]⟩) (fun (i1_ : Nat) => i1_ ≤ 16) (fun (i1_ : Nat) => 16 - i1_) 0 (by first | (with_reducible assumption) | omega | (simp only [lens, rhalf_it1_l, *]; first | done | omega) | decide | (split <;> simp only [lens, rhalf_it1_l, *]) | (with_reducible exact Lt.mono (by assumption) (by decide)) | (simp only [Cs.len]; done) | rfl) [] ⟨⟨rfl, rfl, rfl, rfl, trivial⟩, ⟨rfl, rfl, (hEq (congrArg (fun (s : List Nat) => s) (rhalf_it1_z a)).symm), trivial⟩, rfl, rfl⟩ ?_
  intro i1_ k1_
  refine Holds.seq ?_
  refine Holds.seq ?_
  refine Holds.reg ?_
  refine OpsFrom.v (Y.move (up0 rfl rfl rfl) rfl rfl) rfl ?_
  refine OpsFrom.v (Y.lss (b := 16) (up0 rfl rfl rfl) rfl rfl rfl) rfl ?_
  refine OpsFrom.nil ?_
  refine Holds.condD rfl (fun h7 => ?_) (fun h7 => ?_)
  · refine Holds.skip ?_
    refine Holds.seq ?_
    refine Holds.block ?_
    refine Holds.seq ?_
    refine Holds.reg ?_
    refine OpsFrom.v (Y.move (up0 rfl rfl rfl) rfl rfl) rfl ?_
    refine OpsFrom.v (Y.move (up0 rfl rfl rfl) rfl rfl) rfl ?_
    refine OpsFrom.v (Y.ia0 ty31 ty24 (up0 rfl rfl rfl) rfl rfl rfl (by first | (with_reducible assumption) | omega | (simp only [lens, rhalf_it1_l, *]; first | done | omega) | decide | (split <;> simp only [lens, rhalf_it1_l, *]) | (with_reducible exact Lt.mono (by assumption) (by decide)) | (simp only [Cs.len]; done) | rfl)) rfl ?_
    refine OpsFrom.v (Y.ldI ty24 rfl (up0 rfl rfl rfl) rfl rfl rfl (by first | (with_reducible assumption) | omega | (simp only [lens, rhalf_it1_l, *]; first | done | omega) | decide | (split <;> simp only [lens, rhalf_it1_l, *]) | (with_reducible exact Lt.mono (by assumption) (by decide)) | (simp only [Cs.len]; done) | rfl)) rfl ?_
    refine OpsFrom.v (Y.quo (b := 2) u64s u64m (up0 rfl rfl rfl) rfl rfl rfl (by decide)) rfl ?_
    refine OpsFrom.v (Y.ia0 ty31 ty24 (up0 rfl rfl rfl) rfl rfl rfl (by first | (with_reducible assumption) | omega | (simp only [lens, rhalf_it1_l, *]; first | done | omega) | decide | (split <;> simp only [lens, rhalf_it1_l, *]) | (with_reducible exact Lt.mono (by assumption) (by decide)) | (simp only [Cs.len]; done) | rfl)) rfl ?_
    refine OpsFrom.n (Y.stI ty24 (upN rfl rfl) rfl rfl rfl rfl (by first | (with_reducible assumption) | omega | (simp only [lens, rhalf_it1_l, *]; first | done | omega) | decide | (split <;> simp only [lens, rhalf_it1_l, *]) | (with_reducible exact Lt.mono (by assumption) (by decide)) | (simp only [Cs.len]; done) | rfl)) rfl rfl ?_
    refine OpsFrom.nil ?_
    refine Holds.seq ?_
    refine Holds.reg ?_
    refine OpsFrom.v (Y.move (up0 rfl rfl rfl) rfl rfl) rfl ?_
    refine OpsFrom.v (Y.lss (b := 15) (up0 rfl rfl rfl) rfl rfl rfl) rfl ?_
    refine OpsFrom.nil ?_
    refine Holds.condD rfl (fun h17 => ?_) (fun h17 => ?_)
    · refine Holds.dr mx [([18], [19, 20, 21, 22, 23, 24, 25, 26, 27, 28, 29]), ([19], [18, 22, 23, 24, 25, 26, 27, 28]), ([20], [18, 22, 23, 24, 25, 26, 27, 28]), ([21], [18, 22, 23, 24, 25, 26, 27, 28]), ([22], [18, 19, 20, 21]), ([23], [18, 19, 20, 21]), ([24], [18, 19, 20, 21]), ([25], [18, 19, 20, 21]), ([26], [18, 19, 20, 21]), ([27], [18, 19, 20, 21]), ([28], [18, 19, 20, 21]), ([29], [18]), ([30], []), ([3], [])] (by kernel_rfl) ?_
      refine CertK.vd (Y.move (up0 rfl rfl rfl) rfl rfl) rfl rfl ?_
      refine CertK.vd (Y.move (up0 rfl rfl rfl) rfl rfl) rfl rfl ?_
      refine CertK.vd (Y.ia0 ty31 ty24 (up0 rfl rfl rfl) rfl rfl rfl (by first | (with_reducible assumption) | omega | (simp only [lens, rhalf_it1_l, *]; first | done | omega) | decide | (split <;> simp only [lens, rhalf_it1_l, *]) | (with_reducible exact Lt.mono (by assumption) (by decide)) | (simp only [Cs.len]; done) | rfl)) rfl rfl ?_
      refine CertK.vd (Y.ldI ty24 rfl (up0 rfl rfl rfl) rfl rfl rfl (by first | (with_reducible assumption) | omega | (simp only [lens, rhalf_it1_l, *]; first | done | omega) | decide | (split <;> simp only [lens, rhalf_it1_l, *]) | (with_reducible exact Lt.mono (by assumption) (by decide)) | (simp only [Cs.len]; done) | rfl)) rfl rfl ?_
      refine CertK.vd (Y.move (up0 rfl rfl rfl) rfl rfl) rfl rfl ?_
      refine CertK.vd (Y.addI (b := 1) (up0 rfl rfl rfl) rfl rfl rfl (by first | (with_reducible assumption) | omega | (simp only [lens, rhalf_it1_l, *]; first | done | omega) | decide | (split <;> simp only [lens, rhalf_it1_l, *]) | (with_reducible exact Lt.mono (by assumption) (by decide)) | (simp only [Cs.len]; done) | rfl)) rfl rfl ?_
      refine CertK.vd (Y.ia0 ty31 ty24 (up0 rfl rfl rfl) rfl rfl rfl (by first | (with_reducible assumption) | omega | (simp only [lens, rhalf_it1_l, *]; first | done | omega) | decide | (split <;> simp only [lens, rhalf_it1_l, *]) | (with_reducible exact Lt.mono (by assumption) (by decide)) | (simp only [Cs.len]; done) | rfl)) rfl rfl ?_
      refine CertK.vd (Y.ldI ty24 rfl (up0 rfl rfl rfl) rfl rfl rfl (by first | (with_reducible assumption) | omega | (simp only [lens, rhalf_it1_l, *]; first | done | omega) | decide | (split <;> simp only [lens, rhalf_it1_l, *]) | (with_reducible exact Lt.mono (by assumption) (by decide)) | (simp only [Cs.len]; done) | rfl)) rfl rfl ?_
      refine CertK.vd (Y.rem (b := 2) (up0 rfl rfl rfl) rfl rfl rfl (by decide)) rfl rfl ?_
      refine CertK.vd (Y.mul (b := 65536) u64s u64m (up0 rfl rfl rfl) rfl rfl rfl) rfl rfl ?_
      refine CertK.vd (Y.quo (b := 2) u64s u64m (up0 rfl rfl rfl) rfl rfl rfl (by decide)) rfl rfl ?_
      refine CertK.vd (Y.add u64s u64m (up0 rfl rfl rfl) rfl rfl rfl) rfl rfl ?_
      refine CertK.v (Y.ia0 ty31 ty24 (up0 rfl rfl rfl) rfl rfl rfl (by first | (with_reducible assumption) | omega | (simp only [lens, rhalf_it1_l, *]; first | done | omega) | decide | (split <;> simp only [lens, rhalf_it1_l, *]) | (with_reducible exact Lt.mono (by assumption) (by decide)) | (simp only [Cs.len]; done) | rfl)) rfl ?_
      refine CertK.n (Y.stI ty24 (upN rfl rfl) rfl rfl rfl rfl (by first | (with_reducible assumption) | omega | (simp only [lens, rhalf_it1_l, *]; first | done | omega) | decide | (split <;> simp only [lens, rhalf_it1_l, *]) | (with_reducible exact Lt.mono (by assumption) (by decide)) | (simp only [Cs.len]; done) | rfl)) rfl rfl rfl rfl ?_
      refine CertK.nil ?_
      refine Holds.reg ?_
      refine OpsFrom.v (Y.move (up0 rfl rfl rfl) rfl rfl) rfl ?_
      refine OpsFrom.v (Y.addI (b := 1) (up0 rfl rfl rfl) rfl rfl rfl (by first | (with_reducible assumption) | omega | (simp only [lens, rhalf_it1_l, *]; first | done | omega) | decide | (split <;> simp only [lens, rhalf_it1_l, *]) | (with_reducible exact Lt.mono (by assumption) (by decide)) | (simp only [Cs.len]; done) | rfl)) rfl ?_
      refine OpsFrom.v (Y.assign (up0 rfl rfl rfl) rfl rfl) rfl ?_
      refine OpsFrom.nil ?_
      exact Holds.again (i1_ + 1) (by omega) (by omega) [] ⟨⟨rfl, rfl, rfl, (nEq (by omega)), trivial⟩, ⟨rfl, rfl, (hEq (congrArg (fun (s : List Nat) => s) ((rhalf_it1_s a i1_).trans ((if_pos h17)))).symm), trivial⟩, rfl, rfl⟩
    · refine Holds.skip ?_
      refine Holds.reg ?_
      refine OpsFrom.v (Y.move (up0 rfl rfl rfl) rfl rfl) rfl ?_
      refine OpsFrom.v (Y.addI (b := 1) (up0 rfl rfl rfl) rfl rfl rfl (by first | (with_reducible assumption) | omega | (simp only [lens, rhalf_it1_l, *]; first | done | omega) | decide | (split <;> simp only [lens, rhalf_it1_l, *]) | (with_reducible exact Lt.mono (by assumption) (by decide)) | (simp only [Cs.len]; done) | rfl)) rfl ?_
      refine OpsFrom.v (Y.assign (up0 rfl rfl rfl) rfl rfl) rfl ?_
      refine OpsFrom.nil ?_
      exact Holds.again (i1_ + 1) (by omega) (by omega) [] ⟨⟨rfl, rfl, rfl, (nEq (by omega)), trivial⟩, ⟨rfl, rfl, (hEq (congrArg (fun (s : List Nat) => s) ((rhalf_it1_s a i1_).trans ((if_neg h17)))).symm), trivial⟩, rfl, rfl⟩
  · obtain rfl : i1_ = 16 := by omega
    refine Holds.exit ?_
    refine Holds.seq ?_
    refine Holds.reg ?_
    refine OpsFrom.v (Y.ldAll ty31 rfl (up0 rfl rfl rfl) rfl rfl rfl (by first | (with_reducible assumption) | omega | (simp only [lens, rhalf_it1_l, *]; first | done | omega) | decide | (split <;> simp only [lens, rhalf_it1_l, *]) | (with_reducible exact Lt.mono (by assumption) (by decide)) | (simp only [Cs.len]; done) | rfl) (by decide)) rfl ?_
    refine OpsFrom.n (Y.stR ty31 (upN rfl rfl) rfl rfl rfl rfl rfl (by first | (with_reducible assumption) | omega | (simp only [lens, rhalf_it1_l, *]; first | done | omega) | decide | (split <;> simp only [lens, rhalf_it1_l, *]) | (with_reducible exact Lt.mono (by assumption) (by decide)) | (simp only [Cs.len]; done) | rfl) (by first | (with_reducible assumption) | omega | (simp only [lens, rhalf_it1_l, *]; first | done | omega) | decide | (split <;> simp only [lens, rhalf_it1_l, *]) | (with_reducible exact Lt.mono (by assumption) (by decide)) | (simp only [Cs.len]; done) | rfl) (by decide)) rfl rfl ?_
    refine OpsFrom.nil ?_
    refine Holds.ret ?_
    exact Holds.ret1 (.inl rfl) rfl (.rowN rfl rfl ty31 rfl (by first | (with_reducible assumption) | omega | (simp only [lens, rhalf_it1_l, *]; first | done | omega) | decide | (split <;> simp only [lens, rhalf_it1_l, *]) | (with_reducible exact Lt.mono (by assumption) (by decide)) | (simp only [Cs.len]; done) | rfl) (by decide)) (.same _) rfl

theorem rof_lt (n : Nat) : Lt 65536 (rof n) := by unfold rof; exact rfold_lt _
theorem rload_lt (b : List Nat) : Lt 65536 (rload b) := by unfold rload; exact rfold_lt _
theorem radd_lt (a b : List Nat) : Lt 65536 (radd a b) := by unfold radd; exact rfold_lt _
theorem rmul_lt (a b : List Nat) : Lt 65536 (rmul a b) := by unfold rmul; exact rfold_lt _
theorem rsub_lt (a b : List Nat) : Lt 65536 (rsub a b) := by unfold rsub; exact radd_lt _ _
theorem rof_l (n : Nat) : (rof n).length = 16 := by unfold rof; exact rfold_l _
theorem rload_l (b : List Nat) : (rload b).length = 16 := by unfold rload; exact rfold_l _
theorem radd_l (a b : List Nat) : (radd a b).length = 16 := by unfold radd; exact rfold_l _
theorem rmul_l (a b : List Nat) : (rmul a b).length = 16 := by unfold rmul; exact rfold_l _
theorem rsub_l (a b : List Nat) : (rsub a b).length = 16 := by unfold rsub; exact radd_l _ _
theorem rbytes_l (a : List Nat) : (rbytes a).length = 32 := by unfold rbytes; rw [rbytes_it1_l]; rfl
attribute [irreducible] rof rload rbytes radd rsub rmul rhalf

end Go.Proofs.Ytnfiiclmbiiokaa
