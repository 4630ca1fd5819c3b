/-
  Walks: roots.
-/
import Derived.Test.YtjgcmfedofmkpaaPe
namespace Go.Proofs.Ytjgcmfedofmkpaa
open Go Go.Fx
set_option linter.unusedVariables false
set_option linter.unusedSimpArgs false
def root2_s1 (n : Nat) (i1_ : Nat) (m1_ : List Nat) : List Nat :=
  let v12_ : Nat := ((69 - 1 - i1_) % 16) % 18446744073709551616
  let v13_ : Nat := ((m1_.getD ((69 - 1 - i1_) / 16) 0) + (1 * 2 ^ v12_ % 18446744073709551616)) % 18446744073709551616
  if (!(decide (val 65536 ((List.replicate 20 0).set 8 n) < val 65536 (rtim (m1_.set ((69 - 1 - i1_) / 16) (((m1_.getD ((69 - 1 - i1_) / 16) 0) + (1 * 2 ^ (((69 - 1 - i1_) % 16) % 18446744073709551616) % 18446744073709551616)) % 18446744073709551616)) (m1_.set ((69 - 1 - i1_) / 16) (((m1_.getD ((69 - 1 - i1_) / 16) 0) + (1 * 2 ^ (((69 - 1 - i1_) % 16) % 18446744073709551616) % 18446744073709551616)) % 18446744073709551616)))))) = true then
    m1_.set ((69 - 1 - i1_) / 16) v13_
  else
    m1_
def root2_it1 (n : Nat) (i1_ : Nat) : List Nat := iter (root2_s1 n) i1_ (List.replicate 20 0)
theorem root2_it1_z (n : Nat) : root2_it1 n 0 = List.replicate 20 0 := rfl
theorem root2_it1_s (n : Nat) (i1_ : Nat) : root2_it1 n (i1_ + 1) = root2_s1 n i1_ (root2_it1 n i1_) := by unfold root2_it1; exact iterS _ _ _
theorem root2_it1_l (n : Nat) (i1_ : Nat) : ((root2_it1 n i1_)).length = (List.replicate 20 0 : List Nat).length := iter_inv (fun (s : List Nat) => (s).length = (List.replicate 20 0 : List Nat).length) (by simp) (fun i s h => by
  unfold root2_s1
  first | (simp [rtim_l, h]; done) | (dsimp only; (repeat' split) <;> simp [rtim_l, h])) i1_
def root2 (n : Nat) : Nat :=
  let v25_ : Nat := ((root2_it1 n 69).getD 1 0) * 2 ^ 16 % 18446744073709551616
  let v26_ : Nat := (((root2_it1 n 69).getD 0 0) + v25_) % 18446744073709551616
  let v27_ : Nat := ((root2_it1 n 69).getD 2 0) * 2 ^ 32 % 18446744073709551616
  let v28_ : Nat := ((root2_it1 n 69).getD 3 0) * 2 ^ 48 % 18446744073709551616
  let v29_ : Nat := (((v26_ + v27_) % 18446744073709551616) + v28_) % 18446744073709551616
  v29_
theorem w_root2 (n : Nat) (h_n : n < 65536) : VC Try.prog 27 [.one (.n .u64 n), .one (.b false)] (.one (.n .u64 (root2 n))) := by
  refine VC.go Try.func27 rfl Try.ntmps27 rfl rfl fun O w => ?_
  have hg : Lt 65536 ((List.replicate 20 0).set 8 n) := (Lt.replicate (by decide)).set (by omega)
  refine Holds.seq ?_
  refine Holds.reg ?_
  refine OpsFrom.v (Y.assign (v := (.one (.n .u64 0))) (up0 rfl rfl rfl) rfl rfl) rfl ?_
  refine OpsFrom.nil ?_
  refine Holds.seq ?_
  refine Holds.reg ?_
  refine OpsFrom.v (Y.buildA ty64 ty27 rfl (up0 rfl rfl rfl) rfl (.nil _)) rfl ?_
  refine OpsFrom.u (Y.alloc (d := 5) ty64 rfl rfl (up0 rfl rfl rfl) rfl) rfl rfl rfl ?_
  refine OpsFrom.n (Y.stR ty64 (upN rfl rfl) rfl rfl rfl rfl rfl (by first | (with_reducible assumption) | omega | (simp only [lens, *]; first | done | omega) | decide | (split <;> simp only [lens, *]) | (with_reducible exact Lt.mono (by assumption) (by decide)) | (simp only [Cs.len]; done) | rfl) (by first | (with_reducible assumption) | omega | (simp only [lens, *]; first | done | omega) | decide | (split <;> simp only [lens, *]) | (with_reducible exact Lt.mono (by assumption) (by decide)) | (simp only [Cs.len]; done) | rfl) (by decide)) rfl rfl ?_
  refine OpsFrom.nil ?_
  refine Holds.seq ?_
  refine Holds.reg ?_
  refine OpsFrom.v (Y.assign (v := (.one (.n .i64 8))) (up0 rfl rfl rfl) rfl rfl) rfl ?_
  refine OpsFrom.nil ?_
  refine Holds.seq ?_
  refine Holds.seq ?_
  refine Holds.reg ?_
  refine OpsFrom.v (Y.move (up0 rfl rfl rfl) rfl rfl) rfl ?_
  refine OpsFrom.nil ?_
  refine Holds.condF rfl ?_
  refine Holds.skip ?_
  refine Holds.seq ?_
  refine Holds.reg ?_
  refine OpsFrom.v (Y.move (up0 rfl rfl rfl) rfl rfl) rfl ?_
  refine OpsFrom.v (Y.move (up0 rfl rfl rfl) rfl rfl) rfl ?_
  refine OpsFrom.v (Y.ia0 ty64 ty27 (up0 rfl rfl rfl) rfl rfl rfl (by first | (with_reducible assumption) | omega | (simp only [lens, *]; first | done | omega) | decide | (split <;> simp only [lens, *]) | (with_reducible exact Lt.mono (by assumption) (by decide)) | (simp only [Cs.len]; done) | rfl)) rfl ?_
  refine OpsFrom.n (Y.stI ty27 (upN rfl rfl) rfl rfl rfl rfl (by first | (with_reducible assumption) | omega | (simp only [lens, *]; first | done | omega) | decide | (split <;> simp only [lens, *]) | (with_reducible exact Lt.mono (by assumption) (by decide)) | (simp only [Cs.len]; done) | rfl)) rfl rfl ?_
  refine OpsFrom.nil ?_
  refine Holds.seq ?_
  refine Holds.reg ?_
  refine OpsFrom.v (Y.buildA ty64 ty27 rfl (up0 rfl rfl rfl) rfl (.nil _)) rfl ?_
  refine OpsFrom.u (Y.alloc (d := 7) ty64 rfl rfl (up0 rfl rfl rfl) rfl) rfl rfl rfl ?_
  refine OpsFrom.n (Y.stR ty64 (upN rfl rfl) rfl rfl rfl rfl rfl (by first | (with_reducible assumption) | omega | (simp only [lens, *]; first | done | omega) | decide | (split <;> simp only [lens, *]) | (with_reducible exact Lt.mono (by assumption) (by decide)) | (simp only [Cs.len]; done) | rfl) (by first | (with_reducible assumption) | omega | (simp only [lens, *]; first | done | omega) | decide | (split <;> simp only [lens, *]) | (with_reducible exact Lt.mono (by assumption) (by decide)) | (simp only [Cs.len]; done) | rfl) (by decide)) rfl rfl ?_
  refine OpsFrom.nil ?_
  refine Holds.seq ?_
  refine Holds.seq ?_
  refine Holds.reg ?_
  refine OpsFrom.v (Y.assign (v := (.one (.n .i64 68))) (up0 rfl rfl rfl) rfl rfl) rfl ?_
  refine OpsFrom.nil ?_
  refine Holds.block ?_
  refine Holds.toZ 8 rfl (((69 : Nat) : Int) - 1 - ((0 : Nat) : Int)) (by first | (with_reducible assumption) | omega | (simp only [lens, *]; first | done | omega) | decide | (split <;> simp only [lens, *]) | (with_reducible exact Lt.mono (by assumption) (by decide)) | (simp only [Cs.len]; done) | rfl) ?_
  refine Holds.loop (fun (i1_ : Nat) => ⟨[(1, .one (.b false)), (4, .one (.n .u64 0)), (5, .one (.p 5 0)), (7, .one (.p 7 0)), (8, .one (.z (((69 : Nat) : Int) - 1 - ((i1_ : Nat) : Int))))], [(5, .own (.ints .u64 ((List.replicate 20 0).set 8 n))), (7, .own (.ints .u64 (root2_it1 n i1_)))]⟩) (fun (i1_ : Nat) => i1_ ≤ 69) (fun (i1_ : Nat) => 69 - i1_) 0 (by first | (with_reducible assumption) | omega | (simp only [lens, root2_it1_l, *]; first | done | omega) | decide | (split <;> simp only [lens, root2_it1_l, *]) | (with_reducible exact Lt.mono (by assumption) (by decide)) | (simp only [Cs.len]; done) | rfl) [] ⟨⟨rfl, rfl, rfl, rfl, (zEq (by first | (with_reducible assumption) | omega | (simp only [lens, root2_it1_l, *]; first | done | omega) | decide | (split <;> simp only [lens, root2_it1_l, *]) | (with_reducible exact Lt.mono (by assumption) (by decide)) | (simp only [Cs.len]; done) | rfl)), trivial⟩, ⟨rfl, (hEq (congrArg (fun (s : List Nat) => s) (root2_it1_z n)).symm), trivial⟩, rfl, rfl⟩ ?_
  intro i1_ k1_
  refine Holds.seq ?_
  refine Holds.seq ?_
  refine Holds.reg ?_
  refine OpsFrom.v (Y.move (up0 rfl rfl rfl) rfl rfl) rfl ?_
  refine OpsFrom.v (Y.geqZ (b := 0) (up0 rfl rfl rfl) rfl rfl rfl rfl rfl) rfl ?_
  refine OpsFrom.nil ?_
  refine Holds.condD rfl (fun h18 => ?_) (fun h18 => ?_)
  · refine Holds.nat 8 rfl (69 - 1 - i1_) (by first | (with_reducible assumption) | omega | (simp only [lens, root2_it1_l, *]; first | done | omega) | decide | (split <;> simp only [lens, root2_it1_l, *]) | (with_reducible exact Lt.mono (by assumption) (by decide)) | (simp only [Cs.len]; done) | rfl) ?_
    refine Holds.skip ?_
    refine Holds.seq ?_
    refine Holds.block ?_
    refine Holds.seq ?_
    refine Holds.reg ?_
    refine OpsFrom.v (Y.ldAll ty64 rfl (up0 rfl rfl rfl) rfl rfl rfl (by first | (with_reducible assumption) | omega | (simp only [lens, root2_it1_l, *]; first | done | omega) | decide | (split <;> simp only [lens, root2_it1_l, *]) | (with_reducible exact Lt.mono (by assumption) (by decide)) | (simp only [Cs.len]; done) | rfl) (by decide)) rfl ?_
    refine OpsFrom.u (Y.alloc (d := 9) ty64 rfl rfl (up0 rfl rfl rfl) rfl) rfl rfl rfl ?_
    refine OpsFrom.n (Y.stR ty64 (upN rfl rfl) rfl rfl rfl rfl rfl (by first | (with_reducible assumption) | omega | (simp only [lens, root2_it1_l, *]; first | done | omega) | decide | (split <;> simp only [lens, root2_it1_l, *]) | (with_reducible exact Lt.mono (by assumption) (by decide)) | (simp only [Cs.len]; done) | rfl) (by first | (with_reducible assumption) | omega | (simp only [lens, root2_it1_l, *]; first | done | omega) | decide | (split <;> simp only [lens, root2_it1_l, *]) | (with_reducible exact Lt.mono (by assumption) (by decide)) | (simp only [Cs.len]; done) | rfl) (by decide)) rfl rfl ?_
    refine OpsFrom.nil ?_
    refine Holds.seq ?_
    refine Holds.reg ?_
    refine OpsFrom.v (Y.move (up0 rfl rfl rfl) rfl rfl) rfl ?_
    refine OpsFrom.v (Y.quoI (b := 16) (up0 rfl rfl rfl) rfl rfl rfl (by first | (with_reducible assumption) | omega | (simp only [lens, root2_it1_l, *]; first | done | omega) | decide | (split <;> simp only [lens, root2_it1_l, *]) | (with_reducible exact Lt.mono (by assumption) (by decide)) | (simp only [Cs.len]; done) | rfl) (by decide)) rfl ?_
    refine OpsFrom.v (Y.move (up0 rfl rfl rfl) rfl rfl) rfl ?_
    refine OpsFrom.v (Y.quoI (b := 16) (up0 rfl rfl rfl) rfl rfl rfl (by first | (with_reducible assumption) | omega | (simp only [lens, root2_it1_l, *]; first | done | omega) | decide | (split <;> simp only [lens, root2_it1_l, *]) | (with_reducible exact Lt.mono (by assumption) (by decide)) | (simp only [Cs.len]; done) | rfl) (by decide)) rfl ?_
    refine OpsFrom.v (Y.ia0 ty64 ty27 (up0 rfl rfl rfl) rfl rfl rfl (by first | (with_reducible assumption) | omega | (simp only [lens, root2_it1_l, *]; first | done | omega) | decide | (split <;> simp only [lens, root2_it1_l, *]) | (with_reducible exact Lt.mono (by assumption) (by decide)) | (simp only [Cs.len]; done) | rfl)) rfl ?_
    refine OpsFrom.v (Y.ldI ty27 rfl (up0 rfl rfl rfl) rfl rfl rfl (by first | (with_reducible assumption) | omega | (simp only [lens, root2_it1_l, *]; first | done | omega) | decide | (split <;> simp only [lens, root2_it1_l, *]) | (with_reducible exact Lt.mono (by assumption) (by decide)) | (simp only [Cs.len]; done) | rfl)) rfl ?_
    refine OpsFrom.v (Y.move (up0 rfl rfl rfl) rfl rfl) rfl ?_
    refine OpsFrom.v (Y.rem (b := 16) (up0 rfl rfl rfl) rfl rfl rfl (by decide)) rfl ?_
    refine OpsFrom.v (Y.conv ty3.u ty65.u u64s u64m (up0 rfl rfl rfl) rfl rfl) rfl ?_
    refine OpsFrom.v (Y.shl (a := 1) u64s u64m (up0 rfl rfl rfl) rfl rfl rfl) rfl ?_
    refine OpsFrom.v (Y.add u64s u64m (up0 rfl rfl rfl) rfl rfl rfl) rfl ?_
    refine OpsFrom.v (Y.ia0 ty64 ty27 (up0 rfl rfl rfl) rfl rfl rfl (by first | (with_reducible assumption) | omega | (simp only [lens, root2_it1_l, *]; first | done | omega) | decide | (split <;> simp only [lens, root2_it1_l, *]) | (with_reducible exact Lt.mono (by assumption) (by decide)) | (simp only [Cs.len]; done) | rfl)) rfl ?_
    refine OpsFrom.n (Y.stI ty27 (upN rfl rfl) rfl rfl rfl rfl (by first | (with_reducible assumption) | omega | (simp only [lens, root2_it1_l, *]; first | done | omega) | decide | (split <;> simp only [lens, root2_it1_l, *]) | (with_reducible exact Lt.mono (by assumption) (by decide)) | (simp only [Cs.len]; done) | rfl)) rfl rfl ?_
    refine OpsFrom.nil ?_
    refine Holds.seq ?_
    refine Holds.reg ?_
    refine OpsFrom.v (Y.ldAll ty64 rfl (up0 rfl rfl rfl) rfl rfl rfl (by first | (with_reducible assumption) | omega | (simp only [lens, root2_it1_l, *]; first | done | omega) | decide | (split <;> simp only [lens, root2_it1_l, *]) | (with_reducible exact Lt.mono (by assumption) (by decide)) | (simp only [Cs.len]; done) | rfl) (by decide)) rfl ?_
    refine OpsFrom.v (Y.ldAll ty64 rfl (up0 rfl rfl rfl) rfl rfl rfl (by first | (with_reducible assumption) | omega | (simp only [lens, root2_it1_l, *]; first | done | omega) | decide | (split <;> simp only [lens, root2_it1_l, *]) | (with_reducible exact Lt.mono (by assumption) (by decide)) | (simp only [Cs.len]; done) | rfl) (by decide)) rfl ?_
    refine OpsFrom.v (Y.callV (w_rtim _ _ (by first | (with_reducible assumption) | omega | (simp only [lens, root2_it1_l, rtim_l, *]; first | done | omega) | decide | (split <;> simp only [lens, root2_it1_l, rtim_l, *]) | (with_reducible exact Lt.mono (by assumption) (by decide)) | (simp only [Cs.len]; done) | rfl) (by first | (with_reducible assumption) | omega | (simp only [lens, root2_it1_l, rtim_l, *]; first | done | omega) | decide | (split <;> simp only [lens, root2_it1_l, rtim_l, *]) | (with_reducible exact Lt.mono (by assumption) (by decide)) | (simp only [Cs.len]; done) | rfl)) fnok42 (up0 rfl rfl rfl) rfl rfl (.cons _ _ _ _ rfl (.cons _ _ _ _ rfl .nil)) (.cons _ _ _ _ (.same _) (.cons _ _ _ _ (.same _) .nil)) rfl rfl) rfl ?_
    refine OpsFrom.u (Y.alloc (d := 10) ty64 rfl rfl (up0 rfl rfl rfl) rfl) rfl rfl rfl ?_
    refine OpsFrom.n (Y.stR ty64 (upN rfl rfl) rfl rfl rfl rfl rfl (by first | (with_reducible assumption) | omega | (simp only [lens, root2_it1_l, rtim_l, *]; first | done | omega) | decide | (split <;> simp only [lens, root2_it1_l, rtim_l, *]) | (with_reducible exact Lt.mono (by assumption) (by decide)) | (simp only [Cs.len]; done) | rfl) (by first | (with_reducible assumption) | omega | (simp only [lens, root2_it1_l, rtim_l, *]; first | done | omega) | decide | (split <;> simp only [lens, root2_it1_l, rtim_l, *]) | (with_reducible exact Lt.mono (by assumption) (by decide)) | (simp only [Cs.len]; done) | rfl) (by decide)) rfl rfl ?_
    refine OpsFrom.nil ?_
    refine Holds.seq ?_
    refine Holds.seq ?_
    refine Holds.reg ?_
    refine OpsFrom.v (Y.move (up0 rfl rfl rfl) rfl rfl) rfl ?_
    refine OpsFrom.nil ?_
    refine Holds.condF rfl ?_
    refine Holds.skip ?_
    refine Holds.seq ?_
    refine Holds.reg ?_
    refine OpsFrom.v (Y.ldAll ty64 rfl (up0 rfl rfl rfl) rfl rfl rfl (by first | (with_reducible assumption) | omega | (simp only [lens, root2_it1_l, rtim_l, *]; first | done | omega) | decide | (split <;> simp only [lens, root2_it1_l, rtim_l, *]) | (with_reducible exact Lt.mono (by assumption) (by decide)) | (simp only [Cs.len]; done) | rfl) (by decide)) rfl ?_
    refine OpsFrom.v (Y.ldAll ty64 rfl (up0 rfl rfl rfl) rfl rfl rfl (by first | (with_reducible assumption) | omega | (simp only [lens, root2_it1_l, rtim_l, *]; first | done | omega) | decide | (split <;> simp only [lens, root2_it1_l, rtim_l, *]) | (with_reducible exact Lt.mono (by assumption) (by decide)) | (simp only [Cs.len]; done) | rfl) (by decide)) rfl ?_
    refine OpsFrom.v (Y.callV (w43 _ _ (by first | (with_reducible assumption) | omega | (simp only [lens, root2_it1_l, rtim_l, *]; first | done | omega) | decide | (split <;> simp only [lens, root2_it1_l, rtim_l, *]) | (with_reducible exact Lt.mono (by assumption) (by decide)) | (simp only [Cs.len]; done) | rfl) (by first | (with_reducible assumption) | omega | (simp only [lens, root2_it1_l, rtim_l, *]; first | done | omega) | decide | (split <;> simp only [lens, root2_it1_l, rtim_l, *]) | (with_reducible exact Lt.mono (by assumption) (by decide)) | (simp only [Cs.len]; done) | rfl) (by first | (with_reducible assumption) | exact rtim_lt _ _ | exact hg) (by first | (with_reducible assumption) | exact rtim_lt _ _ | exact hg)) fnok43 (up0 rfl rfl rfl) rfl rfl (.cons _ _ _ _ rfl (.cons _ _ _ _ rfl .nil)) (.cons _ _ _ _ (.same _) (.cons _ _ _ _ (.same _) .nil)) rfl rfl) rfl ?_
    refine OpsFrom.v (Y.not (up0 rfl rfl rfl) rfl rfl) rfl ?_
    refine OpsFrom.nil ?_
    refine Holds.cond _ rfl (fun h44 => ?_) (fun h44 => ?_)
    · refine Holds.reg ?_
      refine OpsFrom.v (Y.ldAll ty64 rfl (up0 rfl rfl rfl) rfl rfl rfl (by first | (with_reducible assumption) | omega | (simp only [lens, root2_it1_l, rtim_l, *]; first | done | omega) | decide | (split <;> simp only [lens, root2_it1_l, rtim_l, *]) | (with_reducible exact Lt.mono (by assumption) (by decide)) | (simp only [Cs.len]; done) | rfl) (by decide)) rfl ?_
      refine OpsFrom.n (Y.stR ty64 (upN rfl rfl) rfl rfl rfl rfl rfl (by first | (with_reducible assumption) | omega | (simp only [lens, root2_it1_l, rtim_l, *]; first | done | omega) | decide | (split <;> simp only [lens, root2_it1_l, rtim_l, *]) | (with_reducible exact Lt.mono (by assumption) (by decide)) | (simp only [Cs.len]; done) | rfl) (by first | (with_reducible assumption) | omega | (simp only [lens, root2_it1_l, rtim_l, *]; first | done | omega) | decide | (split <;> simp only [lens, root2_it1_l, rtim_l, *]) | (with_reducible exact Lt.mono (by assumption) (by decide)) | (simp only [Cs.len]; done) | rfl) (by decide)) rfl rfl ?_
      refine OpsFrom.nil ?_
      refine Holds.reg ?_
      refine OpsFrom.v (Y.move (up0 rfl rfl rfl) rfl rfl) rfl ?_
      refine OpsFrom.v (Y.subZ (b := 1) (up0 rfl rfl rfl) rfl rfl rfl rfl rfl (by first | (with_reducible assumption) | omega | (simp only [lens, root2_it1_l, rtim_l, *]; first | done | omega) | decide | (split <;> simp only [lens, root2_it1_l, rtim_l, *]) | (with_reducible exact Lt.mono (by assumption) (by decide)) | (simp only [Cs.len]; done) | rfl) (by first | (with_reducible assumption) | omega | (simp only [lens, root2_it1_l, rtim_l, *]; first | done | omega) | decide | (split <;> simp only [lens, root2_it1_l, rtim_l, *]) | (with_reducible exact Lt.mono (by assumption) (by decide)) | (simp only [Cs.len]; done) | rfl)) rfl ?_
      refine OpsFrom.v (Y.assign (up0 rfl rfl rfl) rfl rfl) rfl ?_
      refine OpsFrom.nil ?_
      exact Holds.again (i1_ + 1) (by omega) (by omega) [] ⟨⟨rfl, rfl, rfl, rfl, (zEq (by omega)), trivial⟩, ⟨rfl, (hEq (congrArg (fun (s : List Nat) => s) ((root2_it1_s n i1_).trans ((if_pos h44)))).symm), trivial⟩, rfl, rfl⟩
    · refine Holds.skip ?_
      refine Holds.reg ?_
      refine OpsFrom.v (Y.move (up0 rfl rfl rfl) rfl rfl) rfl ?_
      refine OpsFrom.v (Y.subZ (b := 1) (up0 rfl rfl rfl) rfl rfl rfl rfl rfl (by first | (with_reducible assumption) | omega | (simp only [lens, root2_it1_l, rtim_l, *]; first | done | omega) | decide | (split <;> simp only [lens, root2_it1_l, rtim_l, *]) | (with_reducible exact Lt.mono (by assumption) (by decide)) | (simp only [Cs.len]; done) | rfl) (by first | (with_reducible assumption) | omega | (simp only [lens, root2_it1_l, rtim_l, *]; first | done | omega) | decide | (split <;> simp only [lens, root2_it1_l, rtim_l, *]) | (with_reducible exact Lt.mono (by assumption) (by decide)) | (simp only [Cs.len]; done) | rfl)) rfl ?_
      refine OpsFrom.v (Y.assign (up0 rfl rfl rfl) rfl rfl) rfl ?_
      refine OpsFrom.nil ?_
      exact Holds.again (i1_ + 1) (by omega) (by omega) [] ⟨⟨rfl, rfl, rfl, rfl, (zEq (by omega)), trivial⟩, ⟨rfl, (hEq (congrArg (fun (s : List Nat) => s) ((root2_it1_s n i1_).trans ((if_neg (by first | (rw [h44]; decide) | simp [h44]))))).symm), trivial⟩, rfl, rfl⟩
  · obtain rfl : i1_ = 69 := by omega
    refine Holds.exit ?_
    refine Holds.seq ?_
    refine Holds.reg ?_
    refine OpsFrom.v (Y.ia0 (i := 0) ty64 ty27 (up0 rfl rfl rfl) rfl rfl rfl (by first | (with_reducible assumption) | omega | (simp only [lens, root2_it1_l, *]; first | done | omega) | decide | (split <;> simp only [lens, root2_it1_l, *]) | (with_reducible exact Lt.mono (by assumption) (by decide)) | (simp only [Cs.len]; done) | rfl)) rfl ?_
    refine OpsFrom.v (Y.ldI ty27 rfl (up0 rfl rfl rfl) rfl rfl rfl (by first | (with_reducible assumption) | omega | (simp only [lens, root2_it1_l, *]; first | done | omega) | decide | (split <;> simp only [lens, root2_it1_l, *]) | (with_reducible exact Lt.mono (by assumption) (by decide)) | (simp only [Cs.len]; done) | rfl)) rfl ?_
    refine OpsFrom.v (Y.ia0 (i := 1) ty64 ty27 (up0 rfl rfl rfl) rfl rfl rfl (by first | (with_reducible assumption) | omega | (simp only [lens, root2_it1_l, *]; first | done | omega) | decide | (split <;> simp only [lens, root2_it1_l, *]) | (with_reducible exact Lt.mono (by assumption) (by decide)) | (simp only [Cs.len]; done) | rfl)) rfl ?_
    refine OpsFrom.v (Y.ldI ty27 rfl (up0 rfl rfl rfl) rfl rfl rfl (by first | (with_reducible assumption) | omega | (simp only [lens, root2_it1_l, *]; first | done | omega) | decide | (split <;> simp only [lens, root2_it1_l, *]) | (with_reducible exact Lt.mono (by assumption) (by decide)) | (simp only [Cs.len]; done) | rfl)) rfl ?_
    refine OpsFrom.v (Y.shl (b := 16) u64s u64m (up0 rfl rfl rfl) rfl rfl rfl) rfl ?_
    refine OpsFrom.v (Y.add u64s u64m (up0 rfl rfl rfl) rfl rfl rfl) rfl ?_
    refine OpsFrom.v (Y.ia0 (i := 2) ty64 ty27 (up0 rfl rfl rfl) rfl rfl rfl (by first | (with_reducible assumption) | omega | (simp only [lens, root2_it1_l, *]; first | done | omega) | decide | (split <;> simp only [lens, root2_it1_l, *]) | (with_reducible exact Lt.mono (by assumption) (by decide)) | (simp only [Cs.len]; done) | rfl)) rfl ?_
    refine OpsFrom.v (Y.ldI ty27 rfl (up0 rfl rfl rfl) rfl rfl rfl (by first | (with_reducible assumption) | omega | (simp only [lens, root2_it1_l, *]; first | done | omega) | decide | (split <;> simp only [lens, root2_it1_l, *]) | (with_reducible exact Lt.mono (by assumption) (by decide)) | (simp only [Cs.len]; done) | rfl)) rfl ?_
    refine OpsFrom.v (Y.shl (b := 32) u64s u64m (up0 rfl rfl rfl) rfl rfl rfl) rfl ?_
    refine OpsFrom.v (Y.add u64s u64m (up0 rfl rfl rfl) rfl rfl rfl) rfl ?_
    refine OpsFrom.v (Y.ia0 (i := 3) ty64 ty27 (up0 rfl rfl rfl) rfl rfl rfl (by first | (with_reducible assumption) | omega | (simp only [lens, root2_it1_l, *]; first | done | omega) | decide | (split <;> simp only [lens, root2_it1_l, *]) | (with_reducible exact Lt.mono (by assumption) (by decide)) | (simp only [Cs.len]; done) | rfl)) rfl ?_
    refine OpsFrom.v (Y.ldI ty27 rfl (up0 rfl rfl rfl) rfl rfl rfl (by first | (with_reducible assumption) | omega | (simp only [lens, root2_it1_l, *]; first | done | omega) | decide | (split <;> simp only [lens, root2_it1_l, *]) | (with_reducible exact Lt.mono (by assumption) (by decide)) | (simp only [Cs.len]; done) | rfl)) rfl ?_
    refine OpsFrom.v (Y.shl (b := 48) u64s u64m (up0 rfl rfl rfl) rfl rfl rfl) rfl ?_
    refine OpsFrom.v (Y.add u64s u64m (up0 rfl rfl rfl) rfl rfl rfl) rfl ?_
    refine OpsFrom.v (Y.assign (up0 rfl rfl rfl) rfl rfl) rfl ?_
    refine OpsFrom.nil ?_
    refine Holds.ret ?_
    exact Holds.ret1 (.inl rfl) rfl (.tmp _ _ rfl) (.same _) rfl

attribute [irreducible] root2
def root3_s1 (n : Nat) (i1_ : Nat) (m1_ : List Nat) : List Nat :=
  let v14_ : Nat := ((69 - 1 - i1_) % 16) % 18446744073709551616
  let v15_ : Nat := ((m1_.getD ((69 - 1 - i1_) / 16) 0) + (1 * 2 ^ v14_ % 18446744073709551616)) % 18446744073709551616
  if (!(decide (val 65536 ((List.replicate 20 0).set 12 n) < val 65536 (rtim (rtim (m1_.set ((69 - 1 - i1_) / 16) (((m1_.getD ((69 - 1 - i1_) / 16) 0) + (1 * 2 ^ (((69 - 1 - i1_) % 16) % 18446744073709551616) % 18446744073709551616)) % 18446744073709551616)) (m1_.set ((69 - 1 - i1_) / 16) (((m1_.getD ((69 - 1 - i1_) / 16) 0) + (1 * 2 ^ (((69 - 1 - i1_) % 16) % 18446744073709551616) % 18446744073709551616)) % 18446744073709551616))) (m1_.set ((69 - 1 - i1_) / 16) (((m1_.getD ((69 - 1 - i1_) / 16) 0) + (1 * 2 ^ (((69 - 1 - i1_) % 16) % 18446744073709551616) % 18446744073709551616)) % 18446744073709551616)))))) = true then
    m1_.set ((69 - 1 - i1_) / 16) v15_
  else
    m1_
def root3_it1 (n : Nat) (i1_ : Nat) : List Nat := iter (root3_s1 n) i1_ (List.replicate 20 0)
theorem root3_it1_z (n : Nat) : root3_it1 n 0 = List.replicate 20 0 := rfl
theorem root3_it1_s (n : Nat) (i1_ : Nat) : root3_it1 n (i1_ + 1) = root3_s1 n i1_ (root3_it1 n i1_) := by unfold root3_it1; exact iterS _ _ _
theorem root3_it1_l (n : Nat) (i1_ : Nat) : ((root3_it1 n i1_)).length = (List.replicate 20 0 : List Nat).length := iter_inv (fun (s : List Nat) => (s).length = (List.replicate 20 0 : List Nat).length) (by simp) (fun i s h => by
  unfold root3_s1
  first | (simp [rtim_l, h]; done) | (dsimp only; (repeat' split) <;> simp [rtim_l, h])) i1_
def root3 (n : Nat) : Nat :=
  let v29_ : Nat := ((root3_it1 n 69).getD 1 0) * 2 ^ 16 % 18446744073709551616
  let v30_ : Nat := (((root3_it1 n 69).getD 0 0) + v29_) % 18446744073709551616
  let v31_ : Nat := ((root3_it1 n 69).getD 2 0) * 2 ^ 32 % 18446744073709551616
  let v32_ : Nat := ((root3_it1 n 69).getD 3 0) * 2 ^ 48 % 18446744073709551616
  let v33_ : Nat := (((v30_ + v31_) % 18446744073709551616) + v32_) % 18446744073709551616
  v33_
theorem w_root3 (n : Nat) (h_n : n < 65536) : VC Try.prog 27 [.one (.n .u64 n), .one (.b true)] (.one (.n .u64 (root3 n))) := by
  refine VC.go Try.func27 rfl Try.ntmps27 rfl rfl fun O w => ?_
  have hg : Lt 65536 ((List.replicate 20 0).set 12 n) := (Lt.replicate (by decide)).set (by omega)
  refine Holds.seq ?_
  refine Holds.reg ?_
  refine OpsFrom.v (Y.assign (v := (.one (.n .u64 0))) (up0 rfl rfl rfl) rfl rfl) rfl ?_
  refine OpsFrom.nil ?_
  refine Holds.seq ?_
  refine Holds.reg ?_
  refine OpsFrom.v (Y.buildA ty64 ty27 rfl (up0 rfl rfl rfl) rfl (.nil _)) rfl ?_
  refine OpsFrom.u (Y.alloc (d := 5) ty64 rfl rfl (up0 rfl rfl rfl) rfl) rfl rfl rfl ?_
  refine OpsFrom.n (Y.stR ty64 (upN rfl rfl) rfl rfl rfl rfl rfl (by first | (with_reducible assumption) | omega | (simp only [lens, *]; first | done | omega) | decide | (split <;> simp only [lens, *]) | (with_reducible exact Lt.mono (by assumption) (by decide)) | (simp only [Cs.len]; done) | rfl) (by first | (with_reducible assumption) | omega | (simp only [lens, *]; first | done | omega) | decide | (split <;> simp only [lens, *]) | (with_reducible exact Lt.mono (by assumption) (by decide)) | (simp only [Cs.len]; done) | rfl) (by decide)) rfl rfl ?_
  refine OpsFrom.nil ?_
  refine Holds.seq ?_
  refine Holds.reg ?_
  refine OpsFrom.v (Y.assign (v := (.one (.n .i64 8))) (up0 rfl rfl rfl) rfl rfl) rfl ?_
  refine OpsFrom.nil ?_
  refine Holds.seq ?_
  refine Holds.seq ?_
  refine Holds.reg ?_
  refine OpsFrom.v (Y.move (up0 rfl rfl rfl) rfl rfl) rfl ?_
  refine OpsFrom.nil ?_
  refine Holds.condT rfl ?_
  refine Holds.reg ?_
  refine OpsFrom.v (Y.assign (v := (.one (.n .i64 12))) (up0 rfl rfl rfl) rfl rfl) rfl ?_
  refine OpsFrom.nil ?_
  refine Holds.seq ?_
  refine Holds.reg ?_
  refine OpsFrom.v (Y.move (up0 rfl rfl rfl) rfl rfl) rfl ?_
  refine OpsFrom.v (Y.move (up0 rfl rfl rfl) rfl rfl) rfl ?_
  refine OpsFrom.v (Y.ia0 ty64 ty27 (up0 rfl rfl rfl) rfl rfl rfl (by first | (with_reducible assumption) | omega | (simp only [lens, *]; first | done | omega) | decide | (split <;> simp only [lens, *]) | (with_reducible exact Lt.mono (by assumption) (by decide)) | (simp only [Cs.len]; done) | rfl)) rfl ?_
  refine OpsFrom.n (Y.stI ty27 (upN rfl rfl) rfl rfl rfl rfl (by first | (with_reducible assumption) | omega | (simp only [lens, *]; first | done | omega) | decide | (split <;> simp only [lens, *]) | (with_reducible exact Lt.mono (by assumption) (by decide)) | (simp only [Cs.len]; done) | rfl)) rfl rfl ?_
  refine OpsFrom.nil ?_
  refine Holds.seq ?_
  refine Holds.reg ?_
  refine OpsFrom.v (Y.buildA ty64 ty27 rfl (up0 rfl rfl rfl) rfl (.nil _)) rfl ?_
  refine OpsFrom.u (Y.alloc (d := 7) ty64 rfl rfl (up0 rfl rfl rfl) rfl) rfl rfl rfl ?_
  refine OpsFrom.n (Y.stR ty64 (upN rfl rfl) rfl rfl rfl rfl rfl (by first | (with_reducible assumption) | omega | (simp only [lens, *]; first | done | omega) | decide | (split <;> simp only [lens, *]) | (with_reducible exact Lt.mono (by assumption) (by decide)) | (simp only [Cs.len]; done) | rfl) (by first | (with_reducible assumption) | omega | (simp only [lens, *]; first | done | omega) | decide | (split <;> simp only [lens, *]) | (with_reducible exact Lt.mono (by assumption) (by decide)) | (simp only [Cs.len]; done) | rfl) (by decide)) rfl rfl ?_
  refine OpsFrom.nil ?_
  refine Holds.seq ?_
  refine Holds.seq ?_
  refine Holds.reg ?_
  refine OpsFrom.v (Y.assign (v := (.one (.n .i64 68))) (up0 rfl rfl rfl) rfl rfl) rfl ?_
  refine OpsFrom.nil ?_
  refine Holds.block ?_
  refine Holds.toZ 8 rfl (((69 : Nat) : Int) - 1 - ((0 : Nat) : Int)) (by first | (with_reducible assumption) | omega | (simp only [lens, *]; first | done | omega) | decide | (split <;> simp only [lens, *]) | (with_reducible exact Lt.mono (by assumption) (by decide)) | (simp only [Cs.len]; done) | rfl) ?_
  refine Holds.loop (fun (i1_ : Nat) => ⟨[(1, .one (.b true)), (4, .one (.n .u64 0)), (5, .one (.p 5 0)), (7, .one (.p 7 0)), (8, .one (.z (((69 : Nat) : Int) - 1 - ((i1_ : Nat) : Int))))], [(5, .own (.ints .u64 ((List.replicate 20 0).set 12 n))), (7, .own (.ints .u64 (root3_it1 n i1_)))]⟩) (fun (i1_ : Nat) => i1_ ≤ 69) (fun (i1_ : Nat) => 69 - i1_) 0 (by first | (with_reducible assumption) | omega | (simp only [lens, root3_it1_l, *]; first | done | omega) | decide | (split <;> simp only [lens, root3_it1_l, *]) | (with_reducible exact Lt.mono (by assumption) (by decide)) | (simp only [Cs.len]; done) | rfl) [] ⟨⟨rfl, rfl, rfl, rfl, (zEq (by first | (with_reducible assumption) | omega | (simp only [lens, root3_it1_l, *]; first | done | omega) | decide | (split <;> simp only [lens, root3_it1_l, *]) | (with_reducible exact Lt.mono (by assumption) (by decide)) | (simp only [Cs.len]; done) | rfl)), trivial⟩, ⟨rfl, (hEq (congrArg (fun (s : List Nat) => s) (root3_it1_z n)).symm), trivial⟩, rfl, rfl⟩ ?_
  intro i1_ k1_
  refine Holds.seq ?_
  refine Holds.seq ?_
  refine Holds.reg ?_
  refine OpsFrom.v (Y.move (up0 rfl rfl rfl) rfl rfl) rfl ?_
  refine OpsFrom.v (Y.geqZ (b := 0) (up0 rfl rfl rfl) rfl rfl rfl rfl rfl) rfl ?_
  refine OpsFrom.nil ?_
  refine Holds.condD rfl (fun h18 => ?_) (fun h18 => ?_)
  · refine Holds.nat 8 rfl (69 - 1 - i1_) (by first | (with_reducible assumption) | omega | (simp only [lens, root3_it1_l, *]; first | done | omega) | decide | (split <;> simp only [lens, root3_it1_l, *]) | (with_reducible exact Lt.mono (by assumption) (by decide)) | (simp only [Cs.len]; done) | rfl) ?_
    refine Holds.skip ?_
    refine Holds.seq ?_
    refine Holds.block ?_
    refine Holds.seq ?_
    refine Holds.reg ?_
    refine OpsFrom.v (Y.ldAll ty64 rfl (up0 rfl rfl rfl) rfl rfl rfl (by first | (with_reducible assumption) | omega | (simp only [lens, root3_it1_l, *]; first | done | omega) | decide | (split <;> simp only [lens, root3_it1_l, *]) | (with_reducible exact Lt.mono (by assumption) (by decide)) | (simp only [Cs.len]; done) | rfl) (by decide)) rfl ?_
    refine OpsFrom.u (Y.alloc (d := 9) ty64 rfl rfl (up0 rfl rfl rfl) rfl) rfl rfl rfl ?_
    refine OpsFrom.n (Y.stR ty64 (upN rfl rfl) rfl rfl rfl rfl rfl (by first | (with_reducible assumption) | omega | (simp only [lens, root3_it1_l, *]; first | done | omega) | decide | (split <;> simp only [lens, root3_it1_l, *]) | (with_reducible exact Lt.mono (by assumption) (by decide)) | (simp only [Cs.len]; done) | rfl) (by first | (with_reducible assumption) | omega | (simp only [lens, root3_it1_l, *]; first | done | omega) | decide | (split <;> simp only [lens, root3_it1_l, *]) | (with_reducible exact Lt.mono (by assumption) (by decide)) | (simp only [Cs.len]; done) | rfl) (by decide)) rfl rfl ?_
    refine OpsFrom.nil ?_
    refine Holds.seq ?_
    refine Holds.reg ?_
    refine OpsFrom.v (Y.move (up0 rfl rfl rfl) rfl rfl) rfl ?_
    refine OpsFrom.v (Y.quoI (b := 16) (up0 rfl rfl rfl) rfl rfl rfl (by first | (with_reducible assumption) | omega | (simp only [lens, root3_it1_l, *]; first | done | omega) | decide | (split <;> simp only [lens, root3_it1_l, *]) | (with_reducible exact Lt.mono (by assumption) (by decide)) | (simp only [Cs.len]; done) | rfl) (by decide)) rfl ?_
    refine OpsFrom.v (Y.move (up0 rfl rfl rfl) rfl rfl) rfl ?_
    refine OpsFrom.v (Y.quoI (b := 16) (up0 rfl rfl rfl) rfl rfl rfl (by first | (with_reducible assumption) | omega | (simp only [lens, root3_it1_l, *]; first | done | omega) | decide | (split <;> simp only [lens, root3_it1_l, *]) | (with_reducible exact Lt.mono (by assumption) (by decide)) | (simp only [Cs.len]; done) | rfl) (by decide)) rfl ?_
    refine OpsFrom.v (Y.ia0 ty64 ty27 (up0 rfl rfl rfl) rfl rfl rfl (by first | (with_reducible assumption) | omega | (simp only [lens, root3_it1_l, *]; first | done | omega) | decide | (split <;> simp only [lens, root3_it1_l, *]) | (with_reducible exact Lt.mono (by assumption) (by decide)) | (simp only [Cs.len]; done) | rfl)) rfl ?_
    refine OpsFrom.v (Y.ldI ty27 rfl (up0 rfl rfl rfl) rfl rfl rfl (by first | (with_reducible assumption) | omega | (simp only [lens, root3_it1_l, *]; first | done | omega) | decide | (split <;> simp only [lens, root3_it1_l, *]) | (with_reducible exact Lt.mono (by assumption) (by decide)) | (simp only [Cs.len]; done) | rfl)) rfl ?_
    refine OpsFrom.v (Y.move (up0 rfl rfl rfl) rfl rfl) rfl ?_
    refine OpsFrom.v (Y.rem (b := 16) (up0 rfl rfl rfl) rfl rfl rfl (by decide)) rfl ?_
    refine OpsFrom.v (Y.conv ty3.u ty65.u u64s u64m (up0 rfl rfl rfl) rfl rfl) rfl ?_
    refine OpsFrom.v (Y.shl (a := 1) u64s u64m (up0 rfl rfl rfl) rfl rfl rfl) rfl ?_
    refine OpsFrom.v (Y.add u64s u64m (up0 rfl rfl rfl) rfl rfl rfl) rfl ?_
    refine OpsFrom.v (Y.ia0 ty64 ty27 (up0 rfl rfl rfl) rfl rfl rfl (by first | (with_reducible assumption) | omega | (simp only [lens, root3_it1_l, *]; first | done | omega) | decide | (split <;> simp only [lens, root3_it1_l, *]) | (with_reducible exact Lt.mono (by assumption) (by decide)) | (simp only [Cs.len]; done) | rfl)) rfl ?_
    refine OpsFrom.n (Y.stI ty27 (upN rfl rfl) rfl rfl rfl rfl (by first | (with_reducible assumption) | omega | (simp only [lens, root3_it1_l, *]; first | done | omega) | decide | (split <;> simp only [lens, root3_it1_l, *]) | (with_reducible exact Lt.mono (by assumption) (by decide)) | (simp only [Cs.len]; done) | rfl)) rfl rfl ?_
    refine OpsFrom.nil ?_
    refine Holds.seq ?_
    refine Holds.reg ?_
    refine OpsFrom.v (Y.ldAll ty64 rfl (up0 rfl rfl rfl) rfl rfl rfl (by first | (with_reducible assumption) | omega | (simp only [lens, root3_it1_l, *]; first | done | omega) | decide | (split <;> simp only [lens, root3_it1_l, *]) | (with_reducible exact Lt.mono (by assumption) (by decide)) | (simp only [Cs.len]; done) | rfl) (by decide)) rfl ?_
    refine OpsFrom.v (Y.ldAll ty64 rfl (up0 rfl rfl rfl) rfl rfl rfl (by first | (with_reducible assumption) | omega | (simp only [lens, root3_it1_l, *]; first | done | omega) | decide | (split <;> simp only [lens, root3_it1_l, *]) | (with_reducible exact Lt.mono (by assumption) (by decide)) | (simp only [Cs.len]; done) | rfl) (by decide)) rfl ?_
    refine OpsFrom.v (Y.callV (w_rtim _ _ (by first | (with_reducible assumption) | omega | (simp only [lens, root3_it1_l, rtim_l, *]; first | done | omega) | decide | (split <;> simp only [lens, root3_it1_l, rtim_l, *]) | (with_reducible exact Lt.mono (by assumption) (by decide)) | (simp only [Cs.len]; done) | rfl) (by first | (with_reducible assumption) | omega | (simp only [lens, root3_it1_l, rtim_l, *]; first | done | omega) | decide | (split <;> simp only [lens, root3_it1_l, rtim_l, *]) | (with_reducible exact Lt.mono (by assumption) (by decide)) | (simp only [Cs.len]; done) | rfl)) fnok42 (up0 rfl rfl rfl) rfl rfl (.cons _ _ _ _ rfl (.cons _ _ _ _ rfl .nil)) (.cons _ _ _ _ (.same _) (.cons _ _ _ _ (.same _) .nil)) rfl rfl) rfl ?_
    refine OpsFrom.u (Y.alloc (d := 10) ty64 rfl rfl (up0 rfl rfl rfl) rfl) rfl rfl rfl ?_
    refine OpsFrom.n (Y.stR ty64 (upN rfl rfl) rfl rfl rfl rfl rfl (by first | (with_reducible assumption) | omega | (simp only [lens, root3_it1_l, rtim_l, *]; first | done | omega) | decide | (split <;> simp only [lens, root3_it1_l, rtim_l, *]) | (with_reducible exact Lt.mono (by assumption) (by decide)) | (simp only [Cs.len]; done) | rfl) (by first | (with_reducible assumption) | omega | (simp only [lens, root3_it1_l, rtim_l, *]; first | done | omega) | decide | (split <;> simp only [lens, root3_it1_l, rtim_l, *]) | (with_reducible exact Lt.mono (by assumption) (by decide)) | (simp only [Cs.len]; done) | rfl) (by decide)) rfl rfl ?_
    refine OpsFrom.nil ?_
    refine Holds.seq ?_
    refine Holds.seq ?_
    refine Holds.reg ?_
    refine OpsFrom.v (Y.move (up0 rfl rfl rfl) rfl rfl) rfl ?_
    refine OpsFrom.nil ?_
    refine Holds.condT rfl ?_
    refine Holds.reg ?_
    refine OpsFrom.v (Y.ldAll ty64 rfl (up0 rfl rfl rfl) rfl rfl rfl (by first | (with_reducible assumption) | omega | (simp only [lens, root3_it1_l, rtim_l, *]; first | done | omega) | decide | (split <;> simp only [lens, root3_it1_l, rtim_l, *]) | (with_reducible exact Lt.mono (by assumption) (by decide)) | (simp only [Cs.len]; done) | rfl) (by decide)) rfl ?_
    refine OpsFrom.v (Y.ldAll ty64 rfl (up0 rfl rfl rfl) rfl rfl rfl (by first | (with_reducible assumption) | omega | (simp only [lens, root3_it1_l, rtim_l, *]; first | done | omega) | decide | (split <;> simp only [lens, root3_it1_l, rtim_l, *]) | (with_reducible exact Lt.mono (by assumption) (by decide)) | (simp only [Cs.len]; done) | rfl) (by decide)) rfl ?_
    refine OpsFrom.v (Y.callV (w_rtim _ _ (by first | (with_reducible assumption) | omega | (simp only [lens, root3_it1_l, rtim_l, *]; first | done | omega) | decide | (split <;> simp only [lens, root3_it1_l, rtim_l, *]) | (with_reducible exact Lt.mono (by assumption) (by decide)) | (simp only [Cs.len]; done) | rfl) (by first | (with_reducible assumption) | omega | (simp only [lens, root3_it1_l, rtim_l, *]; first | done | omega) | decide | (split <;> simp only [lens, root3_it1_l, rtim_l, *]) | (with_reducible exact Lt.mono (by assumption) (by decide)) | (simp only [Cs.len]; done) | rfl)) fnok42 (up0 rfl rfl rfl) rfl rfl (.cons _ _ _ _ rfl (.cons _ _ _ _ rfl .nil)) (.cons _ _ _ _ (.same _) (.cons _ _ _ _ (.same _) .nil)) rfl rfl) rfl ?_
    refine OpsFrom.n (Y.stR ty64 (upN rfl rfl) rfl rfl rfl rfl rfl (by first | (with_reducible assumption) | omega | (simp only [lens, root3_it1_l, rtim_l, *]; first | done | omega) | decide | (split <;> simp only [lens, root3_it1_l, rtim_l, *]) | (with_reducible exact Lt.mono (by assumption) (by decide)) | (simp only [Cs.len]; done) | rfl) (by first | (with_reducible assumption) | omega | (simp only [lens, root3_it1_l, rtim_l, *]; first | done | omega) | decide | (split <;> simp only [lens, root3_it1_l, rtim_l, *]) | (with_reducible exact Lt.mono (by assumption) (by decide)) | (simp only [Cs.len]; done) | rfl) (by decide)) rfl rfl ?_
    refine OpsFrom.nil ?_
    refine Holds.seq ?_
    refine Holds.reg ?_
    refine OpsFrom.v (Y.ldAll ty64 rfl (up0 rfl rfl rfl) rfl rfl rfl (by first | (with_reducible assumption) | omega | (simp only [lens, root3_it1_l, rtim_l, *]; first | done | omega) | decide | (split <;> simp only [lens, root3_it1_l, rtim_l, *]) | (with_reducible exact Lt.mono (by assumption) (by decide)) | (simp only [Cs.len]; done) | rfl) (by decide)) rfl ?_
    refine OpsFrom.v (Y.ldAll ty64 rfl (up0 rfl rfl rfl) rfl rfl rfl (by first | (with_reducible assumption) | omega | (simp only [lens, root3_it1_l, rtim_l, *]; first | done | omega) | decide | (split <;> simp only [lens, root3_it1_l, rtim_l, *]) | (with_reducible exact Lt.mono (by assumption) (by decide)) | (simp only [Cs.len]; done) | rfl) (by decide)) rfl ?_
    refine OpsFrom.v (Y.callV (w43 _ _ (by first | (with_reducible assumption) | omega | (simp only [lens, root3_it1_l, rtim_l, *]; first | done | omega) | decide | (split <;> simp only [lens, root3_it1_l, rtim_l, *]) | (with_reducible exact Lt.mono (by assumption) (by decide)) | (simp only [Cs.len]; done) | rfl) (by first | (with_reducible assumption) | omega | (simp only [lens, root3_it1_l, rtim_l, *]; first | done | omega) | decide | (split <;> simp only [lens, root3_it1_l, rtim_l, *]) | (with_reducible exact Lt.mono (by assumption) (by decide)) | (simp only [Cs.len]; done) | rfl) (by first | (with_reducible assumption) | exact rtim_lt _ _ | exact hg) (by first | (with_reducible assumption) | exact rtim_lt _ _ | exact hg)) fnok43 (up0 rfl rfl rfl) rfl rfl (.cons _ _ _ _ rfl (.cons _ _ _ _ rfl .nil)) (.cons _ _ _ _ (.same _) (.cons _ _ _ _ (.same _) .nil)) rfl rfl) rfl ?_
    refine OpsFrom.v (Y.not (up0 rfl rfl rfl) rfl rfl) rfl ?_
    refine OpsFrom.nil ?_
    refine Holds.cond _ rfl (fun h44 => ?_) (fun h44 => ?_)
    · refine Holds.reg ?_
      refine OpsFrom.v (Y.ldAll ty64 rfl (up0 rfl rfl rfl) rfl rfl rfl (by first | (with_reducible assumption) | omega | (simp only [lens, root3_it1_l, rtim_l, *]; first | done | omega) | decide | (split <;> simp only [lens, root3_it1_l, rtim_l, *]) | (with_reducible exact Lt.mono (by assumption) (by decide)) | (simp only [Cs.len]; done) | rfl) (by decide)) rfl ?_
      refine OpsFrom.n (Y.stR ty64 (upN rfl rfl) rfl rfl rfl rfl rfl (by first | (with_reducible assumption) | omega | (simp only [lens, root3_it1_l, rtim_l, *]; first | done | omega) | decide | (split <;> simp only [lens, root3_it1_l, rtim_l, *]) | (with_reducible exact Lt.mono (by assumption) (by decide)) | (simp only [Cs.len]; done) | rfl) (by first | (with_reducible assumption) | omega | (simp only [lens, root3_it1_l, rtim_l, *]; first | done | omega) | decide | (split <;> simp only [lens, root3_it1_l, rtim_l, *]) | (with_reducible exact Lt.mono (by assumption) (by decide)) | (simp only [Cs.len]; done) | rfl) (by decide)) rfl rfl ?_
      refine OpsFrom.nil ?_
      refine Holds.reg ?_
      refine OpsFrom.v (Y.move (up0 rfl rfl rfl) rfl rfl) rfl ?_
      refine OpsFrom.v (Y.subZ (b := 1) (up0 rfl rfl rfl) rfl rfl rfl rfl rfl (by first | (with_reducible assumption) | omega | (simp only [lens, root3_it1_l, rtim_l, *]; first | done | omega) | decide | (split <;> simp only [lens, root3_it1_l, rtim_l, *]) | (with_reducible exact Lt.mono (by assumption) (by decide)) | (simp only [Cs.len]; done) | rfl) (by first | (with_reducible assumption) | omega | (simp only [lens, root3_it1_l, rtim_l, *]; first | done | omega) | decide | (split <;> simp only [lens, root3_it1_l, rtim_l, *]) | (with_reducible exact Lt.mono (by assumption) (by decide)) | (simp only [Cs.len]; done) | rfl)) rfl ?_
      refine OpsFrom.v (Y.assign (up0 rfl rfl rfl) rfl rfl) rfl ?_
      refine OpsFrom.nil ?_
      exact Holds.again (i1_ + 1) (by omega) (by omega) [] ⟨⟨rfl, rfl, rfl, rfl, (zEq (by omega)), trivial⟩, ⟨rfl, (hEq (congrArg (fun (s : List Nat) => s) ((root3_it1_s n i1_).trans ((if_pos h44)))).symm), trivial⟩, rfl, rfl⟩
    · refine Holds.skip ?_
      refine Holds.reg ?_
      refine OpsFrom.v (Y.move (up0 rfl rfl rfl) rfl rfl) rfl ?_
      refine OpsFrom.v (Y.subZ (b := 1) (up0 rfl rfl rfl) rfl rfl rfl rfl rfl (by first | (with_reducible assumption) | omega | (simp only [lens, root3_it1_l, rtim_l, *]; first | done | omega) | decide | (split <;> simp only [lens, root3_it1_l, rtim_l, *]) | (with_reducible exact Lt.mono (by assumption) (by decide)) | (simp only [Cs.len]; done) | rfl) (by first | (with_reducible assumption) | omega | (simp only [lens, root3_it1_l, rtim_l, *]; first | done | omega) | decide | (split <;> simp only [lens, root3_it1_l, rtim_l, *]) | (with_reducible exact Lt.mono (by assumption) (by decide)) | (simp only [Cs.len]; done) | rfl)) rfl ?_
      refine OpsFrom.v (Y.assign (up0 rfl rfl rfl) rfl rfl) rfl ?_
      refine OpsFrom.nil ?_
      exact Holds.again (i1_ + 1) (by omega) (by omega) [] ⟨⟨rfl, rfl, rfl, rfl, (zEq (by omega)), trivial⟩, ⟨rfl, (hEq (congrArg (fun (s : List Nat) => s) ((root3_it1_s n i1_).trans ((if_neg (by first | (rw [h44]; decide) | simp [h44]))))).symm), trivial⟩, rfl, rfl⟩
  · obtain rfl : i1_ = 69 := by omega
    refine Holds.exit ?_
    refine Holds.seq ?_
    refine Holds.reg ?_
    refine OpsFrom.v (Y.ia0 (i := 0) ty64 ty27 (up0 rfl rfl rfl) rfl rfl rfl (by first | (with_reducible assumption) | omega | (simp only [lens, root3_it1_l, *]; first | done | omega) | decide | (split <;> simp only [lens, root3_it1_l, *]) | (with_reducible exact Lt.mono (by assumption) (by decide)) | (simp only [Cs.len]; done) | rfl)) rfl ?_
    refine OpsFrom.v (Y.ldI ty27 rfl (up0 rfl rfl rfl) rfl rfl rfl (by first | (with_reducible assumption) | omega | (simp only [lens, root3_it1_l, *]; first | done | omega) | decide | (split <;> simp only [lens, root3_it1_l, *]) | (with_reducible exact Lt.mono (by assumption) (by decide)) | (simp only [Cs.len]; done) | rfl)) rfl ?_
    refine OpsFrom.v (Y.ia0 (i := 1) ty64 ty27 (up0 rfl rfl rfl) rfl rfl rfl (by first | (with_reducible assumption) | omega | (simp only [lens, root3_it1_l, *]; first | done | omega) | decide | (split <;> simp only [lens, root3_it1_l, *]) | (with_reducible exact Lt.mono (by assumption) (by decide)) | (simp only [Cs.len]; done) | rfl)) rfl ?_
    refine OpsFrom.v (Y.ldI ty27 rfl (up0 rfl rfl rfl) rfl rfl rfl (by first | (with_reducible assumption) | omega | (simp only [lens, root3_it1_l, *]; first | done | omega) | decide | (split <;> simp only [lens, root3_it1_l, *]) | (with_reducible exact Lt.mono (by assumption) (by decide)) | (simp only [Cs.len]; done) | rfl)) rfl ?_
    refine OpsFrom.v (Y.shl (b := 16) u64s u64m (up0 rfl rfl rfl) rfl rfl rfl) rfl ?_
    refine OpsFrom.v (Y.add u64s u64m (up0 rfl rfl rfl) rfl rfl rfl) rfl ?_
    refine OpsFrom.v (Y.ia0 (i := 2) ty64 ty27 (up0 rfl rfl rfl) rfl rfl rfl (by first | (with_reducible assumption) | omega | (simp only [lens, root3_it1_l, *]; first | done | omega) | decide | (split <;> simp only [lens, root3_it1_l, *]) | (with_reducible exact Lt.mono (by assumption) (by decide)) | (simp only [Cs.len]; done) | rfl)) rfl ?_
    refine OpsFrom.v (Y.ldI ty27 rfl (up0 rfl rfl rfl) rfl rfl rfl (by first | (with_reducible assumption) | omega | (simp only [lens, root3_it1_l, *]; first | done | omega) | decide | (split <;> simp only [lens, root3_it1_l, *]) | (with_reducible exact Lt.mono (by assumption) (by decide)) | (simp only [Cs.len]; done) | rfl)) rfl ?_
    refine OpsFrom.v (Y.shl (b := 32) u64s u64m (up0 rfl rfl rfl) rfl rfl rfl) rfl ?_
    refine OpsFrom.v (Y.add u64s u64m (up0 rfl rfl rfl) rfl rfl rfl) rfl ?_
    refine OpsFrom.v (Y.ia0 (i := 3) ty64 ty27 (up0 rfl rfl rfl) rfl rfl rfl (by first | (with_reducible assumption) | omega | (simp only [lens, root3_it1_l, *]; first | done | omega) | decide | (split <;> simp only [lens, root3_it1_l, *]) | (with_reducible exact Lt.mono (by assumption) (by decide)) | (simp only [Cs.len]; done) | rfl)) rfl ?_
    refine OpsFrom.v (Y.ldI ty27 rfl (up0 rfl rfl rfl) rfl rfl rfl (by first | (with_reducible assumption) | omega | (simp only [lens, root3_it1_l, *]; first | done | omega) | decide | (split <;> simp only [lens, root3_it1_l, *]) | (with_reducible exact Lt.mono (by assumption) (by decide)) | (simp only [Cs.len]; done) | rfl)) rfl ?_
    refine OpsFrom.v (Y.shl (b := 48) u64s u64m (up0 rfl rfl rfl) rfl rfl rfl) rfl ?_
    refine OpsFrom.v (Y.add u64s u64m (up0 rfl rfl rfl) rfl rfl rfl) rfl ?_
    refine OpsFrom.v (Y.assign (up0 rfl rfl rfl) rfl rfl) rfl ?_
    refine OpsFrom.nil ?_
    refine Holds.ret ?_
    exact Holds.ret1 (.inl rfl) rfl (.tmp _ _ rfl) (.same _) rfl

attribute [irreducible] root3

end Go.Proofs.Ytjgcmfedofmkpaa
