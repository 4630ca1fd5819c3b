/-
  Walks: the document: powers.
-/
import Derived.Test.YtnfiiclmbiiokaaRc
namespace Go.Proofs.Ytnfiiclmbiiokaa
open Go Go.Fx
set_option linter.unusedVariables false
set_option linter.unusedSimpArgs false
def rpow_s1 (a : List Nat) (e : List Nat) (i1_ : Nat) (m1_ : List Nat) : List Nat :=
  let v6_ : Nat := ((256 - 1 - i1_) % 16) % 18446744073709551616
  let v7_ : Nat := (e.getD ((256 - 1 - i1_) / 16) 0) / 2 ^ v6_
  if (v7_ &&& 1) = 1 then
    (rmul (rmul m1_ m1_) a)
  else
    (rmul m1_ m1_)
def rpow_it1 (a : List Nat) (e : List Nat) (i1_ : Nat) : List Nat := iter (rpow_s1 a e) i1_ (rof 1)
theorem rpow_it1_z (a : List Nat) (e : List Nat) : rpow_it1 a e 0 = (rof 1) := rfl
theorem rpow_it1_s (a : List Nat) (e : List Nat) (i1_ : Nat) : rpow_it1 a e (i1_ + 1) = rpow_s1 a e i1_ (rpow_it1 a e i1_) := by unfold rpow_it1; exact iterS _ _ _
theorem rpow_n (a e : List Nat) (i : Nat) : (rpow_it1 a e i).length = 16 := iter_inv (fun (s : List Nat) => s.length = 16) (rof_l _) (fun i s h => by
  unfold rpow_s1
  dsimp only
  split <;> exact rmul_l _ _) i
def rpow (a : List Nat) (e : List Nat) : List Nat :=
  (rpow_it1 a e 256)
theorem w_rpow (a : List Nat) (e : List Nat) (l_a : a.length = 16) (l_e : e.length = 16) : VC Try.prog 55 [.row (.ints .u64 a), .row (.ints .u64 e)] (.row (.ints .u64 (rpow a e))) := by
  refine VC.go Try.func55 rfl Try.ntmps55 rfl rfl fun O w => ?_
  refine Holds.seq ?_
  refine Holds.reg ?_
  refine OpsFrom.u (Y.boxR (d := 2) (up0 rfl rfl rfl) rfl rfl rfl) rfl rfl rfl ?_
  refine OpsFrom.u (Y.boxR (d := 3) (up0 rfl rfl rfl) rfl rfl rfl) rfl rfl rfl ?_
  refine OpsFrom.u (Y.alloc (d := 4) ty31 rfl rfl (up0 rfl rfl rfl) rfl) rfl rfl rfl ?_
  refine OpsFrom.nil ?_
  refine Holds.seq ?_
  refine Holds.reg ?_
  refine OpsFrom.v (Y.callV (w_rof _ ) fnok23 (up0 rfl rfl rfl) rfl rfl (.cons _ _ (.one (.n .u64 1)) _ rfl .nil) (.cons _ _ _ _ (.same _) .nil) rfl rfl) rfl ?_
  refine OpsFrom.u (Y.alloc (d := 5) ty31 rfl rfl (up0 rfl rfl rfl) rfl) rfl rfl rfl ?_
  refine OpsFrom.n (Y.stR ty31 (upN rfl rfl) rfl rfl rfl rfl rfl (by first | (with_reducible assumption) | omega | (simp only [lens, rof_l, *]; first | done | omega) | decide | (split <;> simp only [lens, rof_l, *]) | (with_reducible exact Lt.mono (by assumption) (by decide)) | (simp only [Cs.len]; done) | rfl) (by first | (with_reducible assumption) | omega | (simp only [lens, rof_l, *]; first | done | omega) | decide | (split <;> simp only [lens, rof_l, *]) | (with_reducible exact Lt.mono (by assumption) (by decide)) | (simp only [Cs.len]; done) | rfl) (by decide)) rfl rfl ?_
  refine OpsFrom.nil ?_
  refine Holds.seq ?_
  refine Holds.seq ?_
  refine Holds.reg ?_
  refine OpsFrom.v (Y.assign (v := (.one (.n .i64 255))) (up0 rfl rfl rfl) rfl rfl) rfl ?_
  refine OpsFrom.nil ?_
  refine Holds.block ?_
  refine Holds.toZ 6 rfl (((256 : Nat) : Int) - 1 - ((0 : Nat) : Int)) (by first | (with_reducible assumption) | omega | (simp only [lens, rof_l, *]; first | done | omega) | decide | (split <;> simp only [lens, rof_l, *]) | (with_reducible exact Lt.mono (by assumption) (by decide)) | (simp only [Cs.len]; done) | rfl) ?_
  refine Holds.loop (fun (i1_ : Nat) => ⟨[(2, .one (.p 2 0)), (3, .one (.p 3 0)), (4, .one (.p 4 0)), (5, .one (.p 5 0)), (6, .one (.z (((256 : Nat) : Int) - 1 - ((i1_ : Nat) : Int))))], [(2, .own (.ints .u64 a)), (3, .own (.ints .u64 e)), (4, .own (.ints .u64 (List.replicate 16 0))), (5, .own (.ints .u64 (rpow_it1 a e i1_)))]⟩) (fun (i1_ : Nat) => i1_ ≤ 256) (fun (i1_ : Nat) => 256 - i1_) 0 (by first | (with_reducible assumption) | omega | (simp only [lens, rof_l, *]; first | done | omega) | decide | (split <;> simp only [lens, rof_l, *]) | (with_reducible exact Lt.mono (by assumption) (by decide)) | (simp only [Cs.len]; done) | rfl) [] ⟨⟨rfl, rfl, rfl, rfl, (zEq (by first | (with_reducible assumption) | omega | (simp only [lens, rof_l, *]; first | done | omega) | decide | (split <;> simp only [lens, rof_l, *]) | (with_reducible exact Lt.mono (by assumption) (by decide)) | (simp only [Cs.len]; done) | rfl)), trivial⟩, ⟨rfl, rfl, rfl, (hEq (congrArg (fun (s : List Nat) => s) (rpow_it1_z a e)).symm), trivial⟩, rfl, rfl⟩ ?_
  intro i1_ k1_
  have hrn := rpow_n a e i1_
  refine Holds.seq ?_
  refine Holds.seq ?_
  refine Holds.reg ?_
  refine OpsFrom.v (Y.move (up0 rfl rfl rfl) rfl rfl) rfl ?_
  refine OpsFrom.v (Y.geqZ (b := 0) (up0 rfl rfl rfl) rfl rfl rfl rfl rfl) rfl ?_
  refine OpsFrom.nil ?_
  refine Holds.condD rfl (fun h9 => ?_) (fun h9 => ?_)
  · refine Holds.nat 6 rfl (256 - 1 - i1_) (by first | (with_reducible assumption) | omega | (simp only [lens, rof_l, *]; first | done | omega) | decide | (split <;> simp only [lens, rof_l, *]) | (with_reducible exact Lt.mono (by assumption) (by decide)) | (simp only [Cs.len]; done) | rfl) ?_
    refine Holds.skip ?_
    refine Holds.seq ?_
    refine Holds.block ?_
    refine Holds.seq ?_
    refine Holds.reg ?_
    refine OpsFrom.v (Y.ldAll ty31 rfl (up0 rfl rfl rfl) rfl rfl rfl (by first | (with_reducible assumption) | omega | (simp only [lens, rof_l, *]; first | done | omega) | decide | (split <;> simp only [lens, rof_l, *]) | (with_reducible exact Lt.mono (by assumption) (by decide)) | (simp only [Cs.len]; done) | rfl) (by decide)) rfl ?_
    refine OpsFrom.v (Y.ldAll ty31 rfl (up0 rfl rfl rfl) rfl rfl rfl (by first | (with_reducible assumption) | omega | (simp only [lens, rof_l, *]; first | done | omega) | decide | (split <;> simp only [lens, rof_l, *]) | (with_reducible exact Lt.mono (by assumption) (by decide)) | (simp only [Cs.len]; done) | rfl) (by decide)) rfl ?_
    refine OpsFrom.v (Y.callV (w_rmul _ _ (by first | (with_reducible assumption) | omega | (simp only [lens, rof_l, rmul_l, *]; first | done | omega) | decide | (split <;> simp only [lens, rof_l, rmul_l, *]) | (with_reducible exact Lt.mono (by assumption) (by decide)) | (simp only [Cs.len]; done) | rfl) (by first | (with_reducible assumption) | omega | (simp only [lens, rof_l, rmul_l, *]; first | done | omega) | decide | (split <;> simp only [lens, rof_l, rmul_l, *]) | (with_reducible exact Lt.mono (by assumption) (by decide)) | (simp only [Cs.len]; done) | rfl)) fnok29 (up0 rfl rfl rfl) rfl rfl (.cons _ _ _ _ rfl (.cons _ _ _ _ rfl .nil)) (.cons _ _ _ _ (.same _) (.cons _ _ _ _ (.same _) .nil)) rfl rfl) rfl ?_
    refine OpsFrom.n (Y.stR ty31 (upN rfl rfl) rfl rfl rfl rfl rfl (by first | (with_reducible assumption) | omega | (simp only [lens, rof_l, rmul_l, *]; first | done | omega) | decide | (split <;> simp only [lens, rof_l, rmul_l, *]) | (with_reducible exact Lt.mono (by assumption) (by decide)) | (simp only [Cs.len]; done) | rfl) (by first | (with_reducible assumption) | omega | (simp only [lens, rof_l, rmul_l, *]; first | done | omega) | decide | (split <;> simp only [lens, rof_l, rmul_l, *]) | (with_reducible exact Lt.mono (by assumption) (by decide)) | (simp only [Cs.len]; done) | rfl) (by decide)) rfl rfl ?_
    refine OpsFrom.nil ?_
    refine Holds.seq ?_
    refine Holds.reg ?_
    refine OpsFrom.v (Y.move (up0 rfl rfl rfl) rfl rfl) rfl ?_
    refine OpsFrom.v (Y.quoI (b := 16) (up0 rfl rfl rfl) rfl rfl rfl (by first | (with_reducible assumption) | omega | (simp only [lens, rof_l, rmul_l, *]; first | done | omega) | decide | (split <;> simp only [lens, rof_l, rmul_l, *]) | (with_reducible exact Lt.mono (by assumption) (by decide)) | (simp only [Cs.len]; done) | rfl) (by decide)) rfl ?_
    refine OpsFrom.v (Y.ia0 ty31 ty24 (up0 rfl rfl rfl) rfl rfl rfl (by first | (with_reducible assumption) | omega | (simp only [lens, rof_l, rmul_l, *]; first | done | omega) | decide | (split <;> simp only [lens, rof_l, rmul_l, *]) | (with_reducible exact Lt.mono (by assumption) (by decide)) | (simp only [Cs.len]; done) | rfl)) rfl ?_
    refine OpsFrom.v (Y.ldI ty24 rfl (up0 rfl rfl rfl) rfl rfl rfl (by first | (with_reducible assumption) | omega | (simp only [lens, rof_l, rmul_l, *]; first | done | omega) | decide | (split <;> simp only [lens, rof_l, rmul_l, *]) | (with_reducible exact Lt.mono (by assumption) (by decide)) | (simp only [Cs.len]; done) | rfl)) rfl ?_
    refine OpsFrom.v (Y.move (up0 rfl rfl rfl) rfl rfl) rfl ?_
    refine OpsFrom.v (Y.rem (b := 16) (up0 rfl rfl rfl) rfl rfl rfl (by decide)) rfl ?_
    refine OpsFrom.v (Y.conv ty3.u ty70.u u64s u64m (up0 rfl rfl rfl) rfl rfl) rfl ?_
    refine OpsFrom.v (Y.shr u64s u64m (up0 rfl rfl rfl) rfl rfl rfl) rfl ?_
    refine OpsFrom.v (Y.and (b := 1) u64s u64m (up0 rfl rfl rfl) rfl rfl rfl) rfl ?_
    refine OpsFrom.v (Y.eql (b := 1) (up0 rfl rfl rfl) rfl rfl rfl) rfl ?_
    refine OpsFrom.nil ?_
    refine Holds.condD rfl (fun h24 => ?_) (fun h24 => ?_)
    · refine Holds.reg ?_
      refine OpsFrom.v (Y.ldAll ty31 rfl (up0 rfl rfl rfl) rfl rfl rfl (by first | (with_reducible assumption) | omega | (simp only [lens, rof_l, rmul_l, *]; first | done | omega) | decide | (split <;> simp only [lens, rof_l, rmul_l, *]) | (with_reducible exact Lt.mono (by assumption) (by decide)) | (simp only [Cs.len]; done) | rfl) (by decide)) rfl ?_
      refine OpsFrom.v (Y.ldAll ty31 rfl (up0 rfl rfl rfl) rfl rfl rfl (by first | (with_reducible assumption) | omega | (simp only [lens, rof_l, rmul_l, *]; first | done | omega) | decide | (split <;> simp only [lens, rof_l, rmul_l, *]) | (with_reducible exact Lt.mono (by assumption) (by decide)) | (simp only [Cs.len]; done) | rfl) (by decide)) rfl ?_
      refine OpsFrom.v (Y.callV (w_rmul _ _ (by first | (with_reducible assumption) | omega | (simp only [lens, rof_l, rmul_l, *]; first | done | omega) | decide | (split <;> simp only [lens, rof_l, rmul_l, *]) | (with_reducible exact Lt.mono (by assumption) (by decide)) | (simp only [Cs.len]; done) | rfl) (by first | (with_reducible assumption) | omega | (simp only [lens, rof_l, rmul_l, *]; first | done | omega) | decide | (split <;> simp only [lens, rof_l, rmul_l, *]) | (with_reducible exact Lt.mono (by assumption) (by decide)) | (simp only [Cs.len]; done) | rfl)) fnok29 (up0 rfl rfl rfl) rfl rfl (.cons _ _ _ _ rfl (.cons _ _ _ _ rfl .nil)) (.cons _ _ _ _ (.same _) (.cons _ _ _ _ (.same _) .nil)) rfl rfl) rfl ?_
      refine OpsFrom.n (Y.stR ty31 (upN rfl rfl) rfl rfl rfl rfl rfl (by first | (with_reducible assumption) | omega | (simp only [lens, rof_l, rmul_l, *]; first | done | omega) | decide | (split <;> simp only [lens, rof_l, rmul_l, *]) | (with_reducible exact Lt.mono (by assumption) (by decide)) | (simp only [Cs.len]; done) | rfl) (by first | (with_reducible assumption) | omega | (simp only [lens, rof_l, rmul_l, *]; first | done | omega) | decide | (split <;> simp only [lens, rof_l, rmul_l, *]) | (with_reducible exact Lt.mono (by assumption) (by decide)) | (simp only [Cs.len]; done) | rfl) (by decide)) rfl rfl ?_
      refine OpsFrom.nil ?_
      refine Holds.reg ?_
      refine OpsFrom.v (Y.move (up0 rfl rfl rfl) rfl rfl) rfl ?_
      refine OpsFrom.v (Y.subZ (b := 1) (up0 rfl rfl rfl) rfl rfl rfl rfl rfl (by first | (with_reducible assumption) | omega | (simp only [lens, rof_l, rmul_l, *]; first | done | omega) | decide | (split <;> simp only [lens, rof_l, rmul_l, *]) | (with_reducible exact Lt.mono (by assumption) (by decide)) | (simp only [Cs.len]; done) | rfl) (by first | (with_reducible assumption) | omega | (simp only [lens, rof_l, rmul_l, *]; first | done | omega) | decide | (split <;> simp only [lens, rof_l, rmul_l, *]) | (with_reducible exact Lt.mono (by assumption) (by decide)) | (simp only [Cs.len]; done) | rfl)) rfl ?_
      refine OpsFrom.v (Y.assign (up0 rfl rfl rfl) rfl rfl) rfl ?_
      refine OpsFrom.nil ?_
      exact Holds.again (i1_ + 1) (by omega) (by omega) [] ⟨⟨rfl, rfl, rfl, rfl, (zEq (by omega)), trivial⟩, ⟨rfl, rfl, rfl, (hEq (congrArg (fun (s : List Nat) => s) ((rpow_it1_s a e i1_).trans ((if_pos h24)))).symm), trivial⟩, rfl, rfl⟩
    · refine Holds.skip ?_
      refine Holds.reg ?_
      refine OpsFrom.v (Y.move (up0 rfl rfl rfl) rfl rfl) rfl ?_
      refine OpsFrom.v (Y.subZ (b := 1) (up0 rfl rfl rfl) rfl rfl rfl rfl rfl (by first | (with_reducible assumption) | omega | (simp only [lens, rof_l, rmul_l, *]; first | done | omega) | decide | (split <;> simp only [lens, rof_l, rmul_l, *]) | (with_reducible exact Lt.mono (by assumption) (by decide)) | (simp only [Cs.len]; done) | rfl) (by first | (with_reducible assumption) | omega | (simp only [lens, rof_l, rmul_l, *]; first | done | omega) | decide | (split <;> simp only [lens, rof_l, rmul_l, *]) | (with_reducible exact Lt.mono (by assumption) (by decide)) | (simp only [Cs.len]; done) | rfl)) rfl ?_
      refine OpsFrom.v (Y.assign (up0 rfl rfl rfl) rfl rfl) rfl ?_
      refine OpsFrom.nil ?_
      exact Holds.again (i1_ + 1) (by omega) (by omega) [] ⟨⟨rfl, rfl, rfl, rfl, (zEq (by omega)), trivial⟩, ⟨rfl, rfl, rfl, (hEq (congrArg (fun (s : List Nat) => s) ((rpow_it1_s a e i1_).trans ((if_neg h24)))).symm), trivial⟩, rfl, rfl⟩
  · obtain rfl : i1_ = 256 := by omega
    refine Holds.exit ?_
    refine Holds.seq ?_
    refine Holds.reg ?_
    refine OpsFrom.v (Y.ldAll ty31 rfl (up0 rfl rfl rfl) rfl rfl rfl (by first | (with_reducible assumption) | omega | (simp only [lens, rof_l, *]; first | done | omega) | decide | (split <;> simp only [lens, rof_l, *]) | (with_reducible exact Lt.mono (by assumption) (by decide)) | (simp only [Cs.len]; done) | rfl) (by decide)) rfl ?_
    refine OpsFrom.n (Y.stR ty31 (upN rfl rfl) rfl rfl rfl rfl rfl (by first | (with_reducible assumption) | omega | (simp only [lens, rof_l, *]; first | done | omega) | decide | (split <;> simp only [lens, rof_l, *]) | (with_reducible exact Lt.mono (by assumption) (by decide)) | (simp only [Cs.len]; done) | rfl) (by first | (with_reducible assumption) | omega | (simp only [lens, rof_l, *]; first | done | omega) | decide | (split <;> simp only [lens, rof_l, *]) | (with_reducible exact Lt.mono (by assumption) (by decide)) | (simp only [Cs.len]; done) | rfl) (by decide)) rfl rfl ?_
    refine OpsFrom.nil ?_
    refine Holds.ret ?_
    exact Holds.ret1 (.inl rfl) rfl (.rowN rfl rfl ty31 rfl (by first | (with_reducible assumption) | omega | (simp only [lens, rof_l, *]; first | done | omega) | decide | (split <;> simp only [lens, rof_l, *]) | (with_reducible exact Lt.mono (by assumption) (by decide)) | (simp only [Cs.len]; done) | rfl) (by decide)) (.same _) rfl

theorem rpow_l (a e : List Nat) : (rpow a e).length = 16 := by unfold rpow; exact rpow_n _ _ _
theorem rpow_lt (a e : List Nat) : Lt 65536 (rpow a e) := by
  unfold rpow
  exact iter_inv (fun (s : List Nat) => Lt 65536 s) (rof_lt _) (fun i s h => by
    unfold rpow_s1
    dsimp only
    split <;> exact rmul_lt _ _) _
attribute [irreducible] rpow
def rinv (a : List Nat) : List Nat :=
  let v1_ : List Nat := (rless rP ((List.replicate 16 0).set 0 2))
  (rpow a v1_)
theorem w_rinv (a : List Nat) (l_a : a.length = 16) : VC Try.prog 35 [.row (.ints .u64 a)] (.row (.ints .u64 (rinv a))) := by
  refine VC.go Try.func35 rfl Try.ntmps35 rfl rfl fun O w => ?_
  have hpl := rP_lt
  have h2l : Lt 65536 ((List.replicate 16 0).set 0 2) := Lt.of_mem (by decide) (by decide)
  refine Holds.seq ?_
  refine Holds.reg ?_
  refine OpsFrom.u (Y.boxR (d := 1) (up0 rfl rfl rfl) rfl rfl rfl) rfl rfl rfl ?_
  refine OpsFrom.u (Y.alloc (d := 2) ty31 rfl rfl (up0 rfl rfl rfl) rfl) rfl rfl rfl ?_
  refine OpsFrom.nil ?_
  refine Holds.seq ?_
  refine Holds.dr mx [([3], [4, 5, 6]), ([4], [3, 5]), ([5], [3, 4]), ([6], [3]), ([7], []), ([2], [])] (by kernel_rfl) ?_
  refine CertK.vd (Y.ldAll ty31 rfl (up0 rfl rfl rfl) rfl rfl rfl (by first | (with_reducible assumption) | omega | (simp only [lens, rP_len, rless_len, rpow_l, *]; first | done | omega) | decide | (split <;> simp only [lens, rP_len, rless_len, rpow_l, *]) | (with_reducible exact Lt.mono (by assumption) (by decide)) | (simp only [Cs.len]; done) | rfl) (by decide)) rfl rfl ?_
  refine CertK.vd (Y.callV w_rP fnok48 (up0 rfl rfl rfl) rfl rfl .nil .nil rfl rfl) rfl rfl ?_
  refine CertK.vd (Y.buildA ty31 ty24 rfl (up0 rfl rfl rfl) rfl (.cons _ _ _ _ _ _ (.one (.n .u64 2)) _ _ rfl rfl rfl rfl (Spl.n (by first | decide | (simp; done))) (.nil _))) rfl rfl ?_
  refine CertK.vd (Y.callV (w_rless _ _ (by first | (with_reducible assumption) | omega | (simp only [lens, rP_len, rless_len, rpow_l, *]; first | done | omega) | decide | (split <;> simp only [lens, rP_len, rless_len, rpow_l, *]) | (with_reducible exact Lt.mono (by assumption) (by decide)) | (simp only [Cs.len]; done) | rfl) (by first | (with_reducible assumption) | omega | (simp only [lens, rP_len, rless_len, rpow_l, *]; first | done | omega) | decide | (split <;> simp only [lens, rP_len, rless_len, rpow_l, *]) | (with_reducible exact Lt.mono (by assumption) (by decide)) | (simp only [Cs.len]; done) | rfl) (by first | (with_reducible assumption) | omega | (simp only [lens, rP_len, rless_len, rpow_l, *]; first | done | omega) | decide | (split <;> simp only [lens, rP_len, rless_len, rpow_l, *]) | (with_reducible exact Lt.mono (by assumption) (by decide)) | (simp only [Cs.len]; done) | rfl) (by first | (with_reducible assumption) | omega | (simp only [lens, rP_len, rless_len, rpow_l, *]; first | done | omega) | decide | (split <;> simp only [lens, rP_len, rless_len, rpow_l, *]) | (with_reducible exact Lt.mono (by assumption) (by decide)) | (simp only [Cs.len]; done) | rfl)) fnok47 (up0 rfl rfl rfl) rfl rfl (.cons _ _ _ _ rfl (.cons _ _ _ _ rfl .nil)) (.cons _ _ _ _ (.same _) (.cons _ _ _ _ (.same _) .nil)) rfl rfl) rfl rfl ?_
  refine CertK.v (Y.callV (w_rpow _ _ (by first | (with_reducible assumption) | omega | (simp only [lens, rP_len, rless_len, rpow_l, *]; first | done | omega) | decide | (split <;> simp only [lens, rP_len, rless_len, rpow_l, *]) | (with_reducible exact Lt.mono (by assumption) (by decide)) | (simp only [Cs.len]; done) | rfl) (by first | (with_reducible assumption) | omega | (simp only [lens, rP_len, rless_len, rpow_l, *]; first | done | omega) | decide | (split <;> simp only [lens, rP_len, rless_len, rpow_l, *]) | (with_reducible exact Lt.mono (by assumption) (by decide)) | (simp only [Cs.len]; done) | rfl)) fnok55 (up0 rfl rfl rfl) rfl rfl (.cons _ _ _ _ rfl (.cons _ _ _ _ rfl .nil)) (.cons _ _ _ _ (.same _) (.cons _ _ _ _ (.same _) .nil)) rfl rfl) rfl ?_
  refine CertK.n (Y.stR ty31 (upN rfl rfl) rfl rfl rfl rfl rfl (by first | (with_reducible assumption) | omega | (simp only [lens, rP_len, rless_len, rpow_l, *]; first | done | omega) | decide | (split <;> simp only [lens, rP_len, rless_len, rpow_l, *]) | (with_reducible exact Lt.mono (by assumption) (by decide)) | (simp only [Cs.len]; done) | rfl) (by first | (with_reducible assumption) | omega | (simp only [lens, rP_len, rless_len, rpow_l, *]; first | done | omega) | decide | (split <;> simp only [lens, rP_len, rless_len, rpow_l, *]) | (with_reducible exact Lt.mono (by assumption) (by decide)) | (simp only [Cs.len]; done) | rfl) (by decide)) rfl rfl rfl rfl ?_
  refine CertK.nil ?_
  refine Holds.ret ?_
  exact Holds.ret1 (.inl rfl) rfl (.rowN rfl rfl ty31 rfl (by first | (with_reducible assumption) | omega | (simp only [lens, rP_len, rless_len, rpow_l, *]; first | done | omega) | decide | (split <;> simp only [lens, rP_len, rless_len, rpow_l, *]) | (with_reducible exact Lt.mono (by assumption) (by decide)) | (simp only [Cs.len]; done) | rfl) (by decide)) (.same _) rfl

theorem rinv_l (a : List Nat) : (rinv a).length = 16 := by unfold rinv; exact rpow_l _ _
attribute [irreducible] rinv
def rroot_s1  (i1_ : Nat) (m1_ : List Nat) : List Nat :=
  (rhalf m1_)
def rroot_it1  (i1_ : Nat) : List Nat := iter (rroot_s1) i1_ (rP.set 0 (((rP.getD 0 0) + 3) % 18446744073709551616))
theorem rroot_it1_z  : rroot_it1 0 = rP.set 0 (((rP.getD 0 0) + 3) % 18446744073709551616) := rfl
theorem rroot_it1_s  (i1_ : Nat) : rroot_it1 (i1_ + 1) = rroot_s1 i1_ (rroot_it1 i1_) := by unfold rroot_it1; exact iterS _ _ _
theorem rroot_it1_l  (i1_ : Nat) : ((rroot_it1 i1_)).length = (rP.set 0 (((rP.getD 0 0) + 3) % 18446744073709551616) : List Nat).length := iter_inv (fun (s : List Nat) => (s).length = (rP.set 0 (((rP.getD 0 0) + 3) % 18446744073709551616) : List Nat).length) (by simp) (fun i s h => by
  unfold rroot_s1
  first | (simp [rP_len, rhalf_len, h]; done) | (dsimp only; (repeat' split) <;> simp [rP_len, rhalf_len, h])) i1_
def rroot (a : List Nat) : List Nat :=
  (rpow a (rroot_it1 3))
theorem w_rroot (a : List Nat) (l_a : a.length = 16) : VC Try.prog 56 [.row (.ints .u64 a)] (.row (.ints .u64 (rroot a))) := by
  refine VC.go Try.func56 rfl Try.ntmps56 rfl rfl fun O w => ?_
  refine Holds.seq ?_
  refine Holds.reg ?_
  refine OpsFrom.u (Y.boxR (d := 1) (up0 rfl rfl rfl) rfl rfl rfl) rfl rfl rfl ?_
  refine OpsFrom.u (Y.alloc (d := 2) ty31 rfl rfl (up0 rfl rfl rfl) rfl) rfl rfl rfl ?_
  refine OpsFrom.nil ?_
  refine Holds.seq ?_
  refine Holds.reg ?_
  refine OpsFrom.v (Y.callV w_rP fnok48 (up0 rfl rfl rfl) rfl rfl .nil .nil rfl rfl) rfl ?_
  refine OpsFrom.u (Y.alloc (d := 3) ty31 rfl rfl (up0 rfl rfl rfl) rfl) rfl rfl rfl ?_
  refine OpsFrom.n (Y.stR ty31 (upN rfl rfl) rfl rfl rfl rfl rfl (by first | (with_reducible assumption) | omega | (simp only [lens, rP_len, *]; first | done | omega) | decide | (split <;> simp only [lens, rP_len, *]) | (with_reducible exact Lt.mono (by assumption) (by decide)) | (simp only [Cs.len]; done) | rfl) (by first | (with_reducible assumption) | omega | (simp only [lens, rP_len, *]; first | done | omega) | decide | (split <;> simp only [lens, rP_len, *]) | (with_reducible exact Lt.mono (by assumption) (by decide)) | (simp only [Cs.len]; done) | rfl) (by decide)) rfl rfl ?_
  refine OpsFrom.nil ?_
  refine Holds.seq ?_
  refine Holds.reg ?_
  refine OpsFrom.v (Y.ia0 (i := 0) ty31 ty24 (up0 rfl rfl rfl) rfl rfl rfl (by first | (with_reducible assumption) | omega | (simp only [lens, rP_len, *]; first | done | omega) | decide | (split <;> simp only [lens, rP_len, *]) | (with_reducible exact Lt.mono (by assumption) (by decide)) | (simp only [Cs.len]; done) | rfl)) rfl ?_
  refine OpsFrom.v (Y.ldI ty24 rfl (up0 rfl rfl rfl) rfl rfl rfl (by first | (with_reducible assumption) | omega | (simp only [lens, rP_len, *]; first | done | omega) | decide | (split <;> simp only [lens, rP_len, *]) | (with_reducible exact Lt.mono (by assumption) (by decide)) | (simp only [Cs.len]; done) | rfl)) rfl ?_
  refine OpsFrom.v (Y.add (b := 3) u64s u64m (up0 rfl rfl rfl) rfl rfl rfl) rfl ?_
  refine OpsFrom.v (Y.ia0 (i := 0) ty31 ty24 (up0 rfl rfl rfl) rfl rfl rfl (by first | (with_reducible assumption) | omega | (simp only [lens, rP_len, *]; first | done | omega) | decide | (split <;> simp only [lens, rP_len, *]) | (with_reducible exact Lt.mono (by assumption) (by decide)) | (simp only [Cs.len]; done) | rfl)) rfl ?_
  refine OpsFrom.n (Y.stI ty24 (upN rfl rfl) rfl rfl rfl rfl (by first | (with_reducible assumption) | omega | (simp only [lens, rP_len, *]; first | done | omega) | decide | (split <;> simp only [lens, rP_len, *]) | (with_reducible exact Lt.mono (by assumption) (by decide)) | (simp only [Cs.len]; done) | rfl)) rfl rfl ?_
  refine OpsFrom.nil ?_
  refine Holds.seq ?_
  refine Holds.seq ?_
  refine Holds.reg ?_
  refine OpsFrom.v (Y.assign (v := (.one (.n .i64 0))) (up0 rfl rfl rfl) rfl rfl) rfl ?_
  refine OpsFrom.nil ?_
  refine Holds.block ?_
  refine Holds.loop (fun (i1_ : Nat) => ⟨[(1, .one (.p 1 0)), (2, .one (.p 2 0)), (3, .one (.p 3 0)), (4, .one (.n .i64 i1_))], [(1, .own (.ints .u64 a)), (2, .own (.ints .u64 (List.replicate 16 0))), (3, .own (.ints .u64 (rroot_it1 i1_)))]⟩) (fun (i1_ : Nat) => i1_ ≤ 3) (fun (i1_ : Nat) => 3 - i1_) 0 (by first | (with_reducible assumption) | omega | (simp only [lens, rP_len, rroot_it1_l, *]; first | done | omega) | decide | (split <;> simp only [lens, rP_len, rroot_it1_l, *]) | (with_reducible exact Lt.mono (by assumption) (by decide)) | (simp only [Cs.len]; done) | rfl) [] ⟨⟨rfl, rfl, rfl, rfl, trivial⟩, ⟨rfl, rfl, (hEq (congrArg (fun (s : List Nat) => s) (rroot_it1_z)).symm), trivial⟩, rfl, rfl⟩ ?_
  intro i1_ k1_
  refine Holds.seq ?_
  refine Holds.seq ?_
  refine Holds.reg ?_
  refine OpsFrom.v (Y.move (up0 rfl rfl rfl) rfl rfl) rfl ?_
  refine OpsFrom.v (Y.lss (b := 3) (up0 rfl rfl rfl) rfl rfl rfl) rfl ?_
  refine OpsFrom.nil ?_
  refine Holds.condD rfl (fun h11 => ?_) (fun h11 => ?_)
  · refine Holds.skip ?_
    refine Holds.seq ?_
    refine Holds.block ?_
    refine Holds.reg ?_
    refine OpsFrom.v (Y.ldAll ty31 rfl (up0 rfl rfl rfl) rfl rfl rfl (by first | (with_reducible assumption) | omega | (simp only [lens, rP_len, rroot_it1_l, *]; first | done | omega) | decide | (split <;> simp only [lens, rP_len, rroot_it1_l, *]) | (with_reducible exact Lt.mono (by assumption) (by decide)) | (simp only [Cs.len]; done) | rfl) (by decide)) rfl ?_
    refine OpsFrom.v (Y.callV (w_rhalf _ (by first | (with_reducible assumption) | omega | (simp only [lens, rP_len, rroot_it1_l, rhalf_len, *]; first | done | omega) | decide | (split <;> simp only [lens, rP_len, rroot_it1_l, rhalf_len, *]) | (with_reducible exact Lt.mono (by assumption) (by decide)) | (simp only [Cs.len]; done) | rfl)) fnok57 (up0 rfl rfl rfl) rfl rfl (.cons _ _ _ _ rfl .nil) (.cons _ _ _ _ (.same _) .nil) rfl rfl) rfl ?_
    refine OpsFrom.n (Y.stR ty31 (upN rfl rfl) rfl rfl rfl rfl rfl (by first | (with_reducible assumption) | omega | (simp only [lens, rP_len, rroot_it1_l, rhalf_len, *]; first | done | omega) | decide | (split <;> simp only [lens, rP_len, rroot_it1_l, rhalf_len, *]) | (with_reducible exact Lt.mono (by assumption) (by decide)) | (simp only [Cs.len]; done) | rfl) (by first | (with_reducible assumption) | omega | (simp only [lens, rP_len, rroot_it1_l, rhalf_len, *]; first | done | omega) | decide | (split <;> simp only [lens, rP_len, rroot_it1_l, rhalf_len, *]) | (with_reducible exact Lt.mono (by assumption) (by decide)) | (simp only [Cs.len]; done) | rfl) (by decide)) rfl rfl ?_
    refine OpsFrom.nil ?_
    refine Holds.reg ?_
    refine OpsFrom.v (Y.move (up0 rfl rfl rfl) rfl rfl) rfl ?_
    refine OpsFrom.v (Y.addI (b := 1) (up0 rfl rfl rfl) rfl rfl rfl (by first | (with_reducible assumption) | omega | (simp only [lens, rP_len, rroot_it1_l, rhalf_len, *]; first | done | omega) | decide | (split <;> simp only [lens, rP_len, rroot_it1_l, rhalf_len, *]) | (with_reducible exact Lt.mono (by assumption) (by decide)) | (simp only [Cs.len]; done) | rfl)) rfl ?_
    refine OpsFrom.v (Y.assign (up0 rfl rfl rfl) rfl rfl) rfl ?_
    refine OpsFrom.nil ?_
    exact Holds.again (i1_ + 1) (by omega) (by omega) [] ⟨⟨rfl, rfl, rfl, (nEq (by omega)), trivial⟩, ⟨rfl, rfl, (hEq (by rw [rroot_it1_s]; unfold rroot_s1; first | (dsimp only; done) | rfl)), trivial⟩, rfl, rfl⟩
  · obtain rfl : i1_ = 3 := by omega
    refine Holds.exit ?_
    refine Holds.seq ?_
    refine Holds.reg ?_
    refine OpsFrom.v (Y.ldAll ty31 rfl (up0 rfl rfl rfl) rfl rfl rfl (by first | (with_reducible assumption) | omega | (simp only [lens, rP_len, rroot_it1_l, *]; first | done | omega) | decide | (split <;> simp only [lens, rP_len, rroot_it1_l, *]) | (with_reducible exact Lt.mono (by assumption) (by decide)) | (simp only [Cs.len]; done) | rfl) (by decide)) rfl ?_
    refine OpsFrom.v (Y.ldAll ty31 rfl (up0 rfl rfl rfl) rfl rfl rfl (by first | (with_reducible assumption) | omega | (simp only [lens, rP_len, rroot_it1_l, *]; first | done | omega) | decide | (split <;> simp only [lens, rP_len, rroot_it1_l, *]) | (with_reducible exact Lt.mono (by assumption) (by decide)) | (simp only [Cs.len]; done) | rfl) (by decide)) rfl ?_
    refine OpsFrom.v (Y.callV (w_rpow _ _ (by first | (with_reducible assumption) | omega | (simp only [lens, rP_len, rroot_it1_l, rpow_l, *]; first | done | omega) | decide | (split <;> simp only [lens, rP_len, rroot_it1_l, rpow_l, *]) | (with_reducible exact Lt.mono (by assumption) (by decide)) | (simp only [Cs.len]; done) | rfl) (by first | (with_reducible assumption) | omega | (simp only [lens, rP_len, rroot_it1_l, rpow_l, *]; first | done | omega) | decide | (split <;> simp only [lens, rP_len, rroot_it1_l, rpow_l, *]) | (with_reducible exact Lt.mono (by assumption) (by decide)) | (simp only [Cs.len]; done) | rfl)) fnok55 (up0 rfl rfl rfl) rfl rfl (.cons _ _ _ _ rfl (.cons _ _ _ _ rfl .nil)) (.cons _ _ _ _ (.same _) (.cons _ _ _ _ (.same _) .nil)) rfl rfl) rfl ?_
    refine OpsFrom.n (Y.stR ty31 (upN rfl rfl) rfl rfl rfl rfl rfl (by first | (with_reducible assumption) | omega | (simp only [lens, rP_len, rroot_it1_l, rpow_l, *]; first | done | omega) | decide | (split <;> simp only [lens, rP_len, rroot_it1_l, rpow_l, *]) | (with_reducible exact Lt.mono (by assumption) (by decide)) | (simp only [Cs.len]; done) | rfl) (by first | (with_reducible assumption) | omega | (simp only [lens, rP_len, rroot_it1_l, rpow_l, *]; first | done | omega) | decide | (split <;> simp only [lens, rP_len, rroot_it1_l, rpow_l, *]) | (with_reducible exact Lt.mono (by assumption) (by decide)) | (simp only [Cs.len]; done) | rfl) (by decide)) rfl rfl ?_
    refine OpsFrom.nil ?_
    refine Holds.ret ?_
    exact Holds.ret1 (.inl rfl) rfl (.rowN rfl rfl ty31 rfl (by first | (with_reducible assumption) | omega | (simp only [lens, rP_len, rroot_it1_l, rpow_l, *]; first | done | omega) | decide | (split <;> simp only [lens, rP_len, rroot_it1_l, rpow_l, *]) | (with_reducible exact Lt.mono (by assumption) (by decide)) | (simp only [Cs.len]; done) | rfl) (by decide)) (.same _) rfl

theorem rroot_l (a : List Nat) : (rroot a).length = 16 := by unfold rroot; exact rpow_l _ _
attribute [irreducible] rroot

end Go.Proofs.Ytnfiiclmbiiokaa
