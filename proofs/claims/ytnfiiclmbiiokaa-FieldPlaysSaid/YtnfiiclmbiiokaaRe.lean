/-
  Walks: the document: roots.
-/
import Derived.Test.YtnfiiclmbiiokaaRd
namespace Go.Proofs.Ytnfiiclmbiiokaa
open Go Go.Fx
set_option linter.unusedVariables false
set_option linter.unusedSimpArgs false
def rrq (u : List Nat) (v : List Nat) : List Nat :=
  (rmul u (rinv v))
theorem rrq_len (u : List Nat) (v : List Nat) : (rrq u v).length = 16 := by
  unfold rrq
  first | (simp [rinv_l, rmul_l]; done) | (dsimp only; (repeat' split) <;> simp [rinv_l, rmul_l])
def rrt (u : List Nat) (v : List Nat) : List Nat :=
  (rroot (rrq u v))
theorem rrt_len (u : List Nat) (v : List Nat) : (rrt u v).length = 16 := by
  unfold rrt
  first | (simp [rinv_l, rmul_l, rrq_len, rroot_l]; done) | (dsimp only; (repeat' split) <;> simp [rinv_l, rmul_l, rrq_len, rroot_l])
def rrt2 (u : List Nat) (v : List Nat) : List Nat := if (rmul (rrt u v) (rrt u v)) ≠ (rrq u v) then (rmul (rrt u v) (rpow (rof 2) (rhalf (rhalf (rP.set 0 (((rP.getD 0 0) + (18446744073709551616 - 1)) % 18446744073709551616)))))) else (rrt u v)
theorem rrt2_pos (u : List Nat) (v : List Nat) (h : (rmul (rrt u v) (rrt u v)) ≠ (rrq u v)) : (rmul (rrt u v) (rpow (rof 2) (rhalf (rhalf (rP.set 0 (((rP.getD 0 0) + (18446744073709551616 - 1)) % 18446744073709551616)))))) = (rrt2 u v) := (if_pos h).symm
theorem rrt2_neg (u : List Nat) (v : List Nat) (h : ¬ ((rmul (rrt u v) (rrt u v)) ≠ (rrq u v))) : (rrt u v) = (rrt2 u v) := (if_neg h).symm
theorem rrt2_len (u : List Nat) (v : List Nat) : (rrt2 u v).length = 16 := by
  unfold rrt2
  split <;> simp [rinv_l, rmul_l, rrq_len, rroot_l, rrt_len, rP_len, rof_l, rhalf_len, rpow_l]
theorem rrt2_lt (u v : List Nat) : Lt 65536 (rrt2 u v) := by
  unfold rrt2
  split
  · exact rmul_lt _ _
  · unfold rrt rroot; exact rpow_lt _ _
attribute [irreducible] rrt2
def rrt3 (u : List Nat) (v : List Nat) : List Nat := if (((rrt2 u v).getD 0 0) % 2) = 1 then (rsub (List.replicate 16 0) (rrt2 u v)) else (rrt2 u v)
theorem rrt3_pos (u : List Nat) (v : List Nat) (h : (((rrt2 u v).getD 0 0) % 2) = 1) : (rsub (List.replicate 16 0) (rrt2 u v)) = (rrt3 u v) := (if_pos h).symm
theorem rrt3_neg (u : List Nat) (v : List Nat) (h : ¬ ((((rrt2 u v).getD 0 0) % 2) = 1)) : (rrt2 u v) = (rrt3 u v) := (if_neg h).symm
theorem rrt3_len (u : List Nat) (v : List Nat) : (rrt3 u v).length = 16 := by
  unfold rrt3
  split <;> simp [rinv_l, rmul_l, rrq_len, rroot_l, rrt_len, rP_len, rof_l, rhalf_len, rpow_l, rrt2_len, rsub_l]
attribute [irreducible] rrt3
def rratio (u : List Nat) (v : List Nat) : (List Nat) × Bool :=
  if u = (List.replicate 16 0) then
    (List.replicate 16 0, true)
  else
    if v = (List.replicate 16 0) then
      (List.replicate 16 0, false)
    else
      if (rmul (rrt2 u v) (rrt2 u v)) ≠ (rrq u v) then
        (List.replicate 16 0, false)
      else
        ((rrt3 u v), true)
theorem w_rratio (u : List Nat) (v : List Nat) (l_u : u.length = 16) (l_v : v.length = 16) : VC Try.prog 36 [.row (.ints .u64 u), .row (.ints .u64 v)] (.two (.row (.ints .u64 ((rratio u v).1))) (.one (.b ((rratio u v).2)))) := by
  refine VC.go Try.func36 rfl Try.ntmps36 rfl rfl fun O w => ?_
  have hpl := rP_lt
  refine Holds.seq ?_
  refine Holds.reg ?_
  refine OpsFrom.u (Y.boxR (d := 2) (up0 rfl rfl rfl) rfl rfl rfl) rfl rfl rfl ?_
  refine OpsFrom.u (Y.boxR (d := 3) (up0 rfl rfl rfl) rfl rfl rfl) rfl rfl rfl ?_
  refine OpsFrom.u (Y.alloc (d := 4) ty31 rfl rfl (up0 rfl rfl rfl) rfl) rfl rfl rfl ?_
  refine OpsFrom.v (Y.assign (up0 rfl rfl rfl) rfl rfl) rfl ?_
  refine OpsFrom.nil ?_
  refine Holds.seq ?_
  refine Holds.reg ?_
  refine OpsFrom.v (Y.buildA ty31 ty24 rfl (up0 rfl rfl rfl) rfl (.nil _)) rfl ?_
  refine OpsFrom.u (Y.alloc (d := 6) ty31 rfl rfl (up0 rfl rfl rfl) rfl) rfl rfl rfl ?_
  refine OpsFrom.n (Y.stR ty31 (upN rfl rfl) rfl rfl rfl rfl rfl (by first | (with_reducible assumption) | omega | (simp only [lens, *]; first | done | omega) | decide | (split <;> simp only [lens, *]) | (with_reducible exact Lt.mono (by assumption) (by decide)) | (simp only [Cs.len]; done) | rfl) (by first | (with_reducible assumption) | omega | (simp only [lens, *]; first | done | omega) | decide | (split <;> simp only [lens, *]) | (with_reducible exact Lt.mono (by assumption) (by decide)) | (simp only [Cs.len]; done) | rfl) (by decide)) rfl rfl ?_
  refine OpsFrom.nil ?_
  refine Holds.seq ?_
  refine Holds.seq ?_
  refine Holds.reg ?_
  refine OpsFrom.v (Y.ldAll ty31 rfl (up0 rfl rfl rfl) rfl rfl rfl (by first | (with_reducible assumption) | omega | (simp only [lens, *]; first | done | omega) | decide | (split <;> simp only [lens, *]) | (with_reducible exact Lt.mono (by assumption) (by decide)) | (simp only [Cs.len]; done) | rfl) (by decide)) rfl ?_
  refine OpsFrom.v (Y.ldAll ty31 rfl (up0 rfl rfl rfl) rfl rfl rfl (by first | (with_reducible assumption) | omega | (simp only [lens, *]; first | done | omega) | decide | (split <;> simp only [lens, *]) | (with_reducible exact Lt.mono (by assumption) (by decide)) | (simp only [Cs.len]; done) | rfl) (by decide)) rfl ?_
  refine OpsFrom.v (Y.eqR ty31 ty24 (by kernel_rfl) (up0 rfl rfl rfl) rfl rfl rfl (by first | (with_reducible assumption) | omega | (simp only [lens, *]; first | done | omega) | decide | (split <;> simp only [lens, *]) | (with_reducible exact Lt.mono (by assumption) (by decide)) | (simp only [Cs.len]; done) | rfl) (by first | (with_reducible assumption) | omega | (simp only [lens, *]; first | done | omega) | decide | (split <;> simp only [lens, *]) | (with_reducible exact Lt.mono (by assumption) (by decide)) | (simp only [Cs.len]; done) | rfl)) rfl ?_
  refine OpsFrom.nil ?_
  refine Holds.condD rfl (fun h13 => ?_) (fun h13 => ?_)
  · refine Holds.seq ?_
    refine Holds.reg ?_
    refine OpsFrom.v (Y.ldAll ty31 rfl (up0 rfl rfl rfl) rfl rfl rfl (by first | (with_reducible assumption) | omega | (simp only [lens, *]; first | done | omega) | decide | (split <;> simp only [lens, *]) | (with_reducible exact Lt.mono (by assumption) (by decide)) | (simp only [Cs.len]; done) | rfl) (by decide)) rfl ?_
    refine OpsFrom.n (Y.stR ty31 (upN rfl rfl) rfl rfl rfl rfl rfl (by first | (with_reducible assumption) | omega | (simp only [lens, *]; first | done | omega) | decide | (split <;> simp only [lens, *]) | (with_reducible exact Lt.mono (by assumption) (by decide)) | (simp only [Cs.len]; done) | rfl) (by first | (with_reducible assumption) | omega | (simp only [lens, *]; first | done | omega) | decide | (split <;> simp only [lens, *]) | (with_reducible exact Lt.mono (by assumption) (by decide)) | (simp only [Cs.len]; done) | rfl) (by decide)) rfl rfl ?_
    refine OpsFrom.v (Y.assign (up0 rfl rfl rfl) rfl rfl) rfl ?_
    refine OpsFrom.nil ?_
    refine Holds.ret ?_
    exact Holds.ret2 (.inl rfl) rfl (.rowN rfl rfl ty31 rfl (by first | (with_reducible assumption) | omega | (simp only [lens, *]; first | done | omega) | decide | (split <;> simp only [lens, *]) | (with_reducible exact Lt.mono (by assumption) (by decide)) | (simp only [Cs.len]; done) | rfl) (by decide)) (.tmp _ _ rfl) (View.cg (congrArg (fun z => (.two (.row (.ints .u64 z.1)) (.one (.b z.2)) : AV)) (show (rratio u v) = _ from (by unfold rratio; exact (if_pos h13)))) (.two _ _ _ _ (.same _) (.same _))) rfl
  · refine Holds.skip ?_
    refine Holds.seq ?_
    refine Holds.seq ?_
    refine Holds.reg ?_
    refine OpsFrom.v (Y.ldAll ty31 rfl (up0 rfl rfl rfl) rfl rfl rfl (by first | (with_reducible assumption) | omega | (simp only [lens, *]; first | done | omega) | decide | (split <;> simp only [lens, *]) | (with_reducible exact Lt.mono (by assumption) (by decide)) | (simp only [Cs.len]; done) | rfl) (by decide)) rfl ?_
    refine OpsFrom.v (Y.ldAll ty31 rfl (up0 rfl rfl rfl) rfl rfl rfl (by first | (with_reducible assumption) | omega | (simp only [lens, *]; first | done | omega) | decide | (split <;> simp only [lens, *]) | (with_reducible exact Lt.mono (by assumption) (by decide)) | (simp only [Cs.len]; done) | rfl) (by decide)) rfl ?_
    refine OpsFrom.v (Y.eqR ty31 ty24 (by kernel_rfl) (up0 rfl rfl rfl) rfl rfl rfl (by first | (with_reducible assumption) | omega | (simp only [lens, *]; first | done | omega) | decide | (split <;> simp only [lens, *]) | (with_reducible exact Lt.mono (by assumption) (by decide)) | (simp only [Cs.len]; done) | rfl) (by first | (with_reducible assumption) | omega | (simp only [lens, *]; first | done | omega) | decide | (split <;> simp only [lens, *]) | (with_reducible exact Lt.mono (by assumption) (by decide)) | (simp only [Cs.len]; done) | rfl)) rfl ?_
    refine OpsFrom.nil ?_
    refine Holds.condD rfl (fun h17 => ?_) (fun h17 => ?_)
    · refine Holds.seq ?_
      refine Holds.reg ?_
      refine OpsFrom.v (Y.ldAll ty31 rfl (up0 rfl rfl rfl) rfl rfl rfl (by first | (with_reducible assumption) | omega | (simp only [lens, *]; first | done | omega) | decide | (split <;> simp only [lens, *]) | (with_reducible exact Lt.mono (by assumption) (by decide)) | (simp only [Cs.len]; done) | rfl) (by decide)) rfl ?_
      refine OpsFrom.n (Y.stR ty31 (upN rfl rfl) rfl rfl rfl rfl rfl (by first | (with_reducible assumption) | omega | (simp only [lens, *]; first | done | omega) | decide | (split <;> simp only [lens, *]) | (with_reducible exact Lt.mono (by assumption) (by decide)) | (simp only [Cs.len]; done) | rfl) (by first | (with_reducible assumption) | omega | (simp only [lens, *]; first | done | omega) | decide | (split <;> simp only [lens, *]) | (with_reducible exact Lt.mono (by assumption) (by decide)) | (simp only [Cs.len]; done) | rfl) (by decide)) rfl rfl ?_
      refine OpsFrom.v (Y.assign (up0 rfl rfl rfl) rfl rfl) rfl ?_
      refine OpsFrom.nil ?_
      refine Holds.ret ?_
      exact Holds.ret2 (.inl rfl) rfl (.rowN rfl rfl ty31 rfl (by first | (with_reducible assumption) | omega | (simp only [lens, *]; first | done | omega) | decide | (split <;> simp only [lens, *]) | (with_reducible exact Lt.mono (by assumption) (by decide)) | (simp only [Cs.len]; done) | rfl) (by decide)) (.tmp _ _ rfl) (View.cg (congrArg (fun z => (.two (.row (.ints .u64 z.1)) (.one (.b z.2)) : AV)) (show (rratio u v) = _ from (by unfold rratio; exact (if_neg h13).trans (if_pos h17)))) (.two _ _ _ _ (.same _) (.same _))) rfl
    · refine Holds.skip ?_
      refine Holds.seq ?_
      refine Holds.dr mx [([19], [20, 21, 7]), ([20], [19, 7]), ([21], [19, 7]), ([22], [7]), ([7], [19, 20, 21, 22]), ([7], [])] (by kernel_rfl) ?_
      refine CertK.vd (Y.ldAll ty31 rfl (up0 rfl rfl rfl) rfl rfl rfl (by first | (with_reducible assumption) | omega | (simp only [lens, rinv_l, rmul_l, *]; first | done | omega) | decide | (split <;> simp only [lens, rinv_l, rmul_l, *]) | (with_reducible exact Lt.mono (by assumption) (by decide)) | (simp only [Cs.len]; done) | rfl) (by decide)) rfl rfl ?_
      refine CertK.vd (Y.ldAll ty31 rfl (up0 rfl rfl rfl) rfl rfl rfl (by first | (with_reducible assumption) | omega | (simp only [lens, rinv_l, rmul_l, *]; first | done | omega) | decide | (split <;> simp only [lens, rinv_l, rmul_l, *]) | (with_reducible exact Lt.mono (by assumption) (by decide)) | (simp only [Cs.len]; done) | rfl) (by decide)) rfl rfl ?_
      refine CertK.vd (Y.callV (w_rinv _ (by first | (with_reducible assumption) | omega | (simp only [lens, rinv_l, rmul_l, *]; first | done | omega) | decide | (split <;> simp only [lens, rinv_l, rmul_l, *]) | (with_reducible exact Lt.mono (by assumption) (by decide)) | (simp only [Cs.len]; done) | rfl)) fnok35 (up0 rfl rfl rfl) rfl rfl (.cons _ _ _ _ rfl .nil) (.cons _ _ _ _ (.same _) .nil) rfl rfl) rfl rfl ?_
      refine CertK.vd (Y.callV (w_rmul _ _ (by first | (with_reducible assumption) | omega | (simp only [lens, rinv_l, rmul_l, *]; first | done | omega) | decide | (split <;> simp only [lens, rinv_l, rmul_l, *]) | (with_reducible exact Lt.mono (by assumption) (by decide)) | (simp only [Cs.len]; done) | rfl) (by first | (with_reducible assumption) | omega | (simp only [lens, rinv_l, rmul_l, *]; first | done | omega) | decide | (split <;> simp only [lens, rinv_l, rmul_l, *]) | (with_reducible exact Lt.mono (by assumption) (by decide)) | (simp only [Cs.len]; done) | rfl)) fnok29 (up0 rfl rfl rfl) rfl rfl (.cons _ _ _ _ rfl (.cons _ _ _ _ rfl .nil)) (.cons _ _ _ _ (.same _) (.cons _ _ _ _ (.same _) .nil)) rfl rfl) rfl rfl ?_
      refine CertK.u (Y.alloc (d := 7) ty31 rfl rfl (up0 rfl rfl rfl) rfl) rfl rfl rfl rfl rfl ?_
      refine CertK.n (Y.stR ty31 (upN rfl rfl) rfl rfl rfl rfl rfl (by first | (with_reducible assumption) | omega | (simp only [lens, rinv_l, rmul_l, *]; first | done | omega) | decide | (split <;> simp only [lens, rinv_l, rmul_l, *]) | (with_reducible exact Lt.mono (by assumption) (by decide)) | (simp only [Cs.len]; done) | rfl) (by first | (with_reducible assumption) | omega | (simp only [lens, rinv_l, rmul_l, *]; first | done | omega) | decide | (split <;> simp only [lens, rinv_l, rmul_l, *]) | (with_reducible exact Lt.mono (by assumption) (by decide)) | (simp only [Cs.len]; done) | rfl) (by decide)) rfl rfl rfl rfl ?_
      refine CertK.nil ?_
      rw [show (rmul u (rinv v)) = (rrq u v) from rfl]
      refine Holds.seq ?_
      refine Holds.reg ?_
      refine OpsFrom.v (Y.ldAll ty31 rfl (up0 rfl rfl rfl) rfl rfl rfl (by first | (with_reducible assumption) | omega | (simp only [lens, rinv_l, rmul_l, rrq_len, *]; first | done | omega) | decide | (split <;> simp only [lens, rinv_l, rmul_l, rrq_len, *]) | (with_reducible exact Lt.mono (by assumption) (by decide)) | (simp only [Cs.len]; done) | rfl) (by decide)) rfl ?_
      refine OpsFrom.v (Y.callV (w_rroot _ (by first | (with_reducible assumption) | omega | (simp only [lens, rinv_l, rmul_l, rrq_len, rroot_l, *]; first | done | omega) | decide | (split <;> simp only [lens, rinv_l, rmul_l, rrq_len, rroot_l, *]) | (with_reducible exact Lt.mono (by assumption) (by decide)) | (simp only [Cs.len]; done) | rfl)) fnok56 (up0 rfl rfl rfl) rfl rfl (.cons _ _ _ _ rfl .nil) (.cons _ _ _ _ (.same _) .nil) rfl rfl) rfl ?_
      refine OpsFrom.u (Y.alloc (d := 8) ty31 rfl rfl (up0 rfl rfl rfl) rfl) rfl rfl rfl ?_
      refine OpsFrom.n (Y.stR ty31 (upN rfl rfl) rfl rfl rfl rfl rfl (by first | (with_reducible assumption) | omega | (simp only [lens, rinv_l, rmul_l, rrq_len, rroot_l, *]; first | done | omega) | decide | (split <;> simp only [lens, rinv_l, rmul_l, rrq_len, rroot_l, *]) | (with_reducible exact Lt.mono (by assumption) (by decide)) | (simp only [Cs.len]; done) | rfl) (by first | (with_reducible assumption) | omega | (simp only [lens, rinv_l, rmul_l, rrq_len, rroot_l, *]; first | done | omega) | decide | (split <;> simp only [lens, rinv_l, rmul_l, rrq_len, rroot_l, *]) | (with_reducible exact Lt.mono (by assumption) (by decide)) | (simp only [Cs.len]; done) | rfl) (by decide)) rfl rfl ?_
      refine OpsFrom.nil ?_
      rw [show (rroot (rrq u v)) = (rrt u v) from rfl]
      refine Holds.seqJoin ⟨[(4, .one (.p 4 0)), (5, .one (.b false)), (6, .one (.p 6 0)), (7, .one (.p 7 0)), (8, .one (.p 8 0))], [(4, .own (.ints .u64 (List.replicate 16 0))), (6, .own (.ints .u64 (List.replicate 16 0))), (7, .own (.ints .u64 (rrq u v))), (8, .own (.ints .u64 (rrt2 u v)))]⟩ ?_ (fun join => ?_)
      · refine Holds.seq ?_
        refine Holds.seq ?_
        refine Holds.dr mx [([42], [43, 45]), ([43], [42, 45]), ([44], [45]), ([45], [42, 43, 44]), ([46], [])] (by kernel_rfl) ?_
        refine CertK.vd (Y.ldAll ty31 rfl (up0 rfl rfl rfl) rfl rfl rfl (by first | (with_reducible assumption) | omega | (simp only [lens, rinv_l, rmul_l, rrq_len, rroot_l, rrt_len, rrt2_len, *]; first | done | omega) | decide | (split <;> simp only [lens, rinv_l, rmul_l, rrq_len, rroot_l, rrt_len, rrt2_len, *]) | (with_reducible exact Lt.mono (by assumption) (by decide)) | (simp only [Cs.len]; done) | rfl) (by decide)) rfl rfl ?_
        refine CertK.vd (Y.ldAll ty31 rfl (up0 rfl rfl rfl) rfl rfl rfl (by first | (with_reducible assumption) | omega | (simp only [lens, rinv_l, rmul_l, rrq_len, rroot_l, rrt_len, rrt2_len, *]; first | done | omega) | decide | (split <;> simp only [lens, rinv_l, rmul_l, rrq_len, rroot_l, rrt_len, rrt2_len, *]) | (with_reducible exact Lt.mono (by assumption) (by decide)) | (simp only [Cs.len]; done) | rfl) (by decide)) rfl rfl ?_
        refine CertK.vd (Y.callV (w_rmul _ _ (by first | (with_reducible assumption) | omega | (simp only [lens, rinv_l, rmul_l, rrq_len, rroot_l, rrt_len, rrt2_len, *]; first | done | omega) | decide | (split <;> simp only [lens, rinv_l, rmul_l, rrq_len, rroot_l, rrt_len, rrt2_len, *]) | (with_reducible exact Lt.mono (by assumption) (by decide)) | (simp only [Cs.len]; done) | rfl) (by first | (with_reducible assumption) | omega | (simp only [lens, rinv_l, rmul_l, rrq_len, rroot_l, rrt_len, rrt2_len, *]; first | done | omega) | decide | (split <;> simp only [lens, rinv_l, rmul_l, rrq_len, rroot_l, rrt_len, rrt2_len, *]) | (with_reducible exact Lt.mono (by assumption) (by decide)) | (simp only [Cs.len]; done) | rfl)) fnok29 (up0 rfl rfl rfl) rfl rfl (.cons _ _ _ _ rfl (.cons _ _ _ _ rfl .nil)) (.cons _ _ _ _ (.same _) (.cons _ _ _ _ (.same _) .nil)) rfl rfl) rfl rfl ?_
        refine CertK.vd (Y.ldAll ty31 rfl (up0 rfl rfl rfl) rfl rfl rfl (by first | (with_reducible assumption) | omega | (simp only [lens, rinv_l, rmul_l, rrq_len, rroot_l, rrt_len, rrt2_len, *]; first | done | omega) | decide | (split <;> simp only [lens, rinv_l, rmul_l, rrq_len, rroot_l, rrt_len, rrt2_len, *]) | (with_reducible exact Lt.mono (by assumption) (by decide)) | (simp only [Cs.len]; done) | rfl) (by decide)) rfl rfl ?_
        refine CertK.v (Y.neqR ty31 ty24 (by kernel_rfl) (up0 rfl rfl rfl) rfl rfl rfl (by first | (with_reducible assumption) | omega | (simp only [lens, rinv_l, rmul_l, rrq_len, rroot_l, rrt_len, rrt2_len, *]; first | done | omega) | decide | (split <;> simp only [lens, rinv_l, rmul_l, rrq_len, rroot_l, rrt_len, rrt2_len, *]) | (with_reducible exact Lt.mono (by assumption) (by decide)) | (simp only [Cs.len]; done) | rfl) (by first | (with_reducible assumption) | omega | (simp only [lens, rinv_l, rmul_l, rrq_len, rroot_l, rrt_len, rrt2_len, *]; first | done | omega) | decide | (split <;> simp only [lens, rinv_l, rmul_l, rrq_len, rroot_l, rrt_len, rrt2_len, *]) | (with_reducible exact Lt.mono (by assumption) (by decide)) | (simp only [Cs.len]; done) | rfl)) rfl ?_
        refine CertK.nil ?_
        refine Holds.condD rfl (fun h46 => ?_) (fun h46 => ?_)
        · refine Holds.seq ?_
          refine Holds.reg ?_
          refine OpsFrom.v (Y.ldAll ty31 rfl (up0 rfl rfl rfl) rfl rfl rfl (by first | (with_reducible assumption) | omega | (simp only [lens, rinv_l, rmul_l, rrq_len, rroot_l, rrt_len, rrt2_len, *]; first | done | omega) | decide | (split <;> simp only [lens, rinv_l, rmul_l, rrq_len, rroot_l, rrt_len, rrt2_len, *]) | (with_reducible exact Lt.mono (by assumption) (by decide)) | (simp only [Cs.len]; done) | rfl) (by decide)) rfl ?_
          refine OpsFrom.n (Y.stR ty31 (upN rfl rfl) rfl rfl rfl rfl rfl (by first | (with_reducible assumption) | omega | (simp only [lens, rinv_l, rmul_l, rrq_len, rroot_l, rrt_len, rrt2_len, *]; first | done | omega) | decide | (split <;> simp only [lens, rinv_l, rmul_l, rrq_len, rroot_l, rrt_len, rrt2_len, *]) | (with_reducible exact Lt.mono (by assumption) (by decide)) | (simp only [Cs.len]; done) | rfl) (by first | (with_reducible assumption) | omega | (simp only [lens, rinv_l, rmul_l, rrq_len, rroot_l, rrt_len, rrt2_len, *]; first | done | omega) | decide | (split <;> simp only [lens, rinv_l, rmul_l, rrq_len, rroot_l, rrt_len, rrt2_len, *]) | (with_reducible exact Lt.mono (by assumption) (by decide)) | (simp only [Cs.len]; done) | rfl) (by decide)) rfl rfl ?_
          refine OpsFrom.v (Y.assign (up0 rfl rfl rfl) rfl rfl) rfl ?_
          refine OpsFrom.nil ?_
          refine Holds.ret ?_
          exact Holds.ret2 (.inl rfl) rfl (.rowN rfl rfl ty31 rfl (by first | (with_reducible assumption) | omega | (simp only [lens, rinv_l, rmul_l, rrq_len, rroot_l, rrt_len, rrt2_len, *]; first | done | omega) | decide | (split <;> simp only [lens, rinv_l, rmul_l, rrq_len, rroot_l, rrt_len, rrt2_len, *]) | (with_reducible exact Lt.mono (by assumption) (by decide)) | (simp only [Cs.len]; done) | rfl) (by decide)) (.tmp _ _ rfl) (View.cg (congrArg (fun z => (.two (.row (.ints .u64 z.1)) (.one (.b z.2)) : AV)) (show (rratio u v) = _ from (by unfold rratio; exact (if_neg h13).trans ((if_neg h17).trans (if_pos h46))))) (.two _ _ _ _ (.same _) (.same _))) rfl
        · refine Holds.skip ?_
          refine Holds.seqJoin ⟨[(4, .one (.p 4 0)), (5, .one (.b false)), (8, .one (.p 8 0))], [(4, .own (.ints .u64 (List.replicate 16 0))), (8, .own (.ints .u64 (rrt3 u v)))]⟩ ?_ (fun join => ?_)
          · refine Holds.seq ?_
            refine Holds.reg ?_
            refine OpsFrom.v (Y.ldAll ty31 rfl (up0 rfl rfl rfl) rfl rfl rfl (by first | (with_reducible assumption) | omega | (simp only [lens, rinv_l, rmul_l, rrq_len, rroot_l, rrt_len, rrt2_len, rrt3_len, *]; first | done | omega) | decide | (split <;> simp only [lens, rinv_l, rmul_l, rrq_len, rroot_l, rrt_len, rrt2_len, rrt3_len, *]) | (with_reducible exact Lt.mono (by assumption) (by decide)) | (simp only [Cs.len]; done) | rfl) (by decide)) rfl ?_
            refine OpsFrom.n (Y.stR ty31 (upN rfl rfl) rfl rfl rfl rfl rfl (by first | (with_reducible assumption) | omega | (simp only [lens, rinv_l, rmul_l, rrq_len, rroot_l, rrt_len, rrt2_len, rrt3_len, *]; first | done | omega) | decide | (split <;> simp only [lens, rinv_l, rmul_l, rrq_len, rroot_l, rrt_len, rrt2_len, rrt3_len, *]) | (with_reducible exact Lt.mono (by assumption) (by decide)) | (simp only [Cs.len]; done) | rfl) (by first | (with_reducible assumption) | omega | (simp only [lens, rinv_l, rmul_l, rrq_len, rroot_l, rrt_len, rrt2_len, rrt3_len, *]; first | done | omega) | decide | (split <;> simp only [lens, rinv_l, rmul_l, rrq_len, rroot_l, rrt_len, rrt2_len, rrt3_len, *]) | (with_reducible exact Lt.mono (by assumption) (by decide)) | (simp only [Cs.len]; done) | rfl) (by decide)) rfl rfl ?_
            refine OpsFrom.v (Y.assign (up0 rfl rfl rfl) rfl rfl) rfl ?_
            refine OpsFrom.nil ?_
            refine Holds.ret ?_
            exact Holds.ret2 (.inl rfl) rfl (.rowN rfl rfl ty31 rfl (by first | (with_reducible assumption) | omega | (simp only [lens, rinv_l, rmul_l, rrq_len, rroot_l, rrt_len, rrt2_len, rrt3_len, *]; first | done | omega) | decide | (split <;> simp only [lens, rinv_l, rmul_l, rrq_len, rroot_l, rrt_len, rrt2_len, rrt3_len, *]) | (with_reducible exact Lt.mono (by assumption) (by decide)) | (simp only [Cs.len]; done) | rfl) (by decide)) (.tmp _ _ rfl) (View.cg (congrArg (fun z => (.two (.row (.ints .u64 z.1)) (.one (.b z.2)) : AV)) (show (rratio u v) = _ from (by unfold rratio; exact (if_neg h13).trans ((if_neg h17).trans (if_neg h46))))) (.two _ _ _ _ (.same _) (.same _))) rfl
          · refine Holds.seq ?_
            refine Holds.reg ?_
            refine OpsFrom.v (Y.ia0 (i := 0) ty31 ty24 (up0 rfl rfl rfl) rfl rfl rfl (by first | (with_reducible assumption) | omega | (simp only [lens, rinv_l, rmul_l, rrq_len, rroot_l, rrt_len, rrt2_len, *]; first | done | omega) | decide | (split <;> simp only [lens, rinv_l, rmul_l, rrq_len, rroot_l, rrt_len, rrt2_len, *]) | (with_reducible exact Lt.mono (by assumption) (by decide)) | (simp only [Cs.len]; done) | rfl)) rfl ?_
            refine OpsFrom.v (Y.ldI ty24 rfl (up0 rfl rfl rfl) rfl rfl rfl (by first | (with_reducible assumption) | omega | (simp only [lens, rinv_l, rmul_l, rrq_len, rroot_l, rrt_len, rrt2_len, *]; first | done | omega) | decide | (split <;> simp only [lens, rinv_l, rmul_l, rrq_len, rroot_l, rrt_len, rrt2_len, *]) | (with_reducible exact Lt.mono (by assumption) (by decide)) | (simp only [Cs.len]; done) | rfl)) rfl ?_
            refine OpsFrom.v (Y.rem (b := 2) (up0 rfl rfl rfl) rfl rfl rfl (by decide)) rfl ?_
            refine OpsFrom.v (Y.eql (b := 1) (up0 rfl rfl rfl) rfl rfl rfl) rfl ?_
            refine OpsFrom.nil ?_
            refine Holds.condD rfl (fun h51 => ?_) (fun h51 => ?_)
            · have hr2 : Lt 65536 (rrt2 u v) := rrt2_lt u v
              refine Holds.reg ?_
              refine OpsFrom.v (Y.ldAll ty31 rfl (up0 rfl rfl rfl) rfl rfl rfl (by first | (with_reducible assumption) | omega | (simp only [lens, rinv_l, rmul_l, rrq_len, rroot_l, rrt_len, rrt2_len, *]; first | done | omega) | decide | (split <;> simp only [lens, rinv_l, rmul_l, rrq_len, rroot_l, rrt_len, rrt2_len, *]) | (with_reducible exact Lt.mono (by assumption) (by decide)) | (simp only [Cs.len]; done) | rfl) (by decide)) rfl ?_
              refine OpsFrom.v (Y.ldAll ty31 rfl (up0 rfl rfl rfl) rfl rfl rfl (by first | (with_reducible assumption) | omega | (simp only [lens, rinv_l, rmul_l, rrq_len, rroot_l, rrt_len, rrt2_len, *]; first | done | omega) | decide | (split <;> simp only [lens, rinv_l, rmul_l, rrq_len, rroot_l, rrt_len, rrt2_len, *]) | (with_reducible exact Lt.mono (by assumption) (by decide)) | (simp only [Cs.len]; done) | rfl) (by decide)) rfl ?_
              refine OpsFrom.v (Y.callV (w_rsub _ _ (by first | (with_reducible assumption) | omega | (simp only [lens, rinv_l, rmul_l, rrq_len, rroot_l, rrt_len, rrt2_len, rsub_l, *]; first | done | omega) | decide | (split <;> simp only [lens, rinv_l, rmul_l, rrq_len, rroot_l, rrt_len, rrt2_len, rsub_l, *]) | (with_reducible exact Lt.mono (by assumption) (by decide)) | (simp only [Cs.len]; done) | rfl) (by first | (with_reducible assumption) | omega | (simp only [lens, rinv_l, rmul_l, rrq_len, rroot_l, rrt_len, rrt2_len, rsub_l, *]; first | done | omega) | decide | (split <;> simp only [lens, rinv_l, rmul_l, rrq_len, rroot_l, rrt_len, rrt2_len, rsub_l, *]) | (with_reducible exact Lt.mono (by assumption) (by decide)) | (simp only [Cs.len]; done) | rfl) (by first | (with_reducible assumption) | omega | (simp only [lens, rinv_l, rmul_l, rrq_len, rroot_l, rrt_len, rrt2_len, rsub_l, *]; first | done | omega) | decide | (split <;> simp only [lens, rinv_l, rmul_l, rrq_len, rroot_l, rrt_len, rrt2_len, rsub_l, *]) | (with_reducible exact Lt.mono (by assumption) (by decide)) | (simp only [Cs.len]; done) | rfl)) fnok27 (up0 rfl rfl rfl) rfl rfl (.cons _ _ _ _ rfl (.cons _ _ _ _ rfl .nil)) (.cons _ _ _ _ (.same _) (.cons _ _ _ _ (.same _) .nil)) rfl rfl) rfl ?_
              refine OpsFrom.n (Y.stR ty31 (upN rfl rfl) rfl rfl rfl rfl rfl (by first | (with_reducible assumption) | omega | (simp only [lens, rinv_l, rmul_l, rrq_len, rroot_l, rrt_len, rrt2_len, rsub_l, *]; first | done | omega) | decide | (split <;> simp only [lens, rinv_l, rmul_l, rrq_len, rroot_l, rrt_len, rrt2_len, rsub_l, *]) | (with_reducible exact Lt.mono (by assumption) (by decide)) | (simp only [Cs.len]; done) | rfl) (by first | (with_reducible assumption) | omega | (simp only [lens, rinv_l, rmul_l, rrq_len, rroot_l, rrt_len, rrt2_len, rsub_l, *]; first | done | omega) | decide | (split <;> simp only [lens, rinv_l, rmul_l, rrq_len, rroot_l, rrt_len, rrt2_len, rsub_l, *]) | (with_reducible exact Lt.mono (by assumption) (by decide)) | (simp only [Cs.len]; done) | rfl) (by decide)) rfl rfl ?_
              refine OpsFrom.nil ?_
              exact join _ [] ⟨⟨rfl, rfl, rfl, trivial⟩, ⟨rfl, (hEq (rrt3_pos u v h51)), trivial⟩, rfl, rfl⟩
            · refine Holds.skip ?_
              exact join _ [] ⟨⟨rfl, rfl, rfl, trivial⟩, ⟨rfl, (hEq (rrt3_neg u v h51)), trivial⟩, rfl, rfl⟩
      · refine Holds.seq ?_
        refine Holds.dr mx [([25], [26, 28]), ([26], [25, 28]), ([27], [28]), ([28], [25, 26, 27]), ([29], [])] (by kernel_rfl) ?_
        refine CertK.vd (Y.ldAll ty31 rfl (up0 rfl rfl rfl) rfl rfl rfl (by first | (with_reducible assumption) | omega | (simp only [lens, rinv_l, rmul_l, rrq_len, rroot_l, rrt_len, *]; first | done | omega) | decide | (split <;> simp only [lens, rinv_l, rmul_l, rrq_len, rroot_l, rrt_len, *]) | (with_reducible exact Lt.mono (by assumption) (by decide)) | (simp only [Cs.len]; done) | rfl) (by decide)) rfl rfl ?_
        refine CertK.vd (Y.ldAll ty31 rfl (up0 rfl rfl rfl) rfl rfl rfl (by first | (with_reducible assumption) | omega | (simp only [lens, rinv_l, rmul_l, rrq_len, rroot_l, rrt_len, *]; first | done | omega) | decide | (split <;> simp only [lens, rinv_l, rmul_l, rrq_len, rroot_l, rrt_len, *]) | (with_reducible exact Lt.mono (by assumption) (by decide)) | (simp only [Cs.len]; done) | rfl) (by decide)) rfl rfl ?_
        refine CertK.vd (Y.callV (w_rmul _ _ (by first | (with_reducible assumption) | omega | (simp only [lens, rinv_l, rmul_l, rrq_len, rroot_l, rrt_len, *]; first | done | omega) | decide | (split <;> simp only [lens, rinv_l, rmul_l, rrq_len, rroot_l, rrt_len, *]) | (with_reducible exact Lt.mono (by assumption) (by decide)) | (simp only [Cs.len]; done) | rfl) (by first | (with_reducible assumption) | omega | (simp only [lens, rinv_l, rmul_l, rrq_len, rroot_l, rrt_len, *]; first | done | omega) | decide | (split <;> simp only [lens, rinv_l, rmul_l, rrq_len, rroot_l, rrt_len, *]) | (with_reducible exact Lt.mono (by assumption) (by decide)) | (simp only [Cs.len]; done) | rfl)) fnok29 (up0 rfl rfl rfl) rfl rfl (.cons _ _ _ _ rfl (.cons _ _ _ _ rfl .nil)) (.cons _ _ _ _ (.same _) (.cons _ _ _ _ (.same _) .nil)) rfl rfl) rfl rfl ?_
        refine CertK.vd (Y.ldAll ty31 rfl (up0 rfl rfl rfl) rfl rfl rfl (by first | (with_reducible assumption) | omega | (simp only [lens, rinv_l, rmul_l, rrq_len, rroot_l, rrt_len, *]; first | done | omega) | decide | (split <;> simp only [lens, rinv_l, rmul_l, rrq_len, rroot_l, rrt_len, *]) | (with_reducible exact Lt.mono (by assumption) (by decide)) | (simp only [Cs.len]; done) | rfl) (by decide)) rfl rfl ?_
        refine CertK.v (Y.neqR ty31 ty24 (by kernel_rfl) (up0 rfl rfl rfl) rfl rfl rfl (by first | (with_reducible assumption) | omega | (simp only [lens, rinv_l, rmul_l, rrq_len, rroot_l, rrt_len, *]; first | done | omega) | decide | (split <;> simp only [lens, rinv_l, rmul_l, rrq_len, rroot_l, rrt_len, *]) | (with_reducible exact Lt.mono (by assumption) (by decide)) | (simp only [Cs.len]; done) | rfl) (by first | (with_reducible assumption) | omega | (simp only [lens, rinv_l, rmul_l, rrq_len, rroot_l, rrt_len, *]; first | done | omega) | decide | (split <;> simp only [lens, rinv_l, rmul_l, rrq_len, rroot_l, rrt_len, *]) | (with_reducible exact Lt.mono (by assumption) (by decide)) | (simp only [Cs.len]; done) | rfl)) rfl ?_
        refine CertK.nil ?_
        refine Holds.condD rfl (fun h29 => ?_) (fun h29 => ?_)
        · refine Holds.seq ?_
          refine Holds.reg ?_
          refine OpsFrom.v (Y.callV w_rP fnok48 (up0 rfl rfl rfl) rfl rfl .nil .nil rfl rfl) rfl ?_
          refine OpsFrom.u (Y.alloc (d := 9) ty31 rfl rfl (up0 rfl rfl rfl) rfl) rfl rfl rfl ?_
          refine OpsFrom.n (Y.stR ty31 (upN rfl rfl) rfl rfl rfl rfl rfl (by first | (with_reducible assumption) | omega | (simp only [lens, rinv_l, rmul_l, rrq_len, rroot_l, rrt_len, rP_len, *]; first | done | omega) | decide | (split <;> simp only [lens, rinv_l, rmul_l, rrq_len, rroot_l, rrt_len, rP_len, *]) | (with_reducible exact Lt.mono (by assumption) (by decide)) | (simp only [Cs.len]; done) | rfl) (by first | (with_reducible assumption) | omega | (simp only [lens, rinv_l, rmul_l, rrq_len, rroot_l, rrt_len, rP_len, *]; first | done | omega) | decide | (split <;> simp only [lens, rinv_l, rmul_l, rrq_len, rroot_l, rrt_len, rP_len, *]) | (with_reducible exact Lt.mono (by assumption) (by decide)) | (simp only [Cs.len]; done) | rfl) (by decide)) rfl rfl ?_
          refine OpsFrom.nil ?_
          refine Holds.seq ?_
          refine Holds.reg ?_
          refine OpsFrom.v (Y.ia0 (i := 0) ty31 ty24 (up0 rfl rfl rfl) rfl rfl rfl (by first | (with_reducible assumption) | omega | (simp only [lens, rinv_l, rmul_l, rrq_len, rroot_l, rrt_len, rP_len, *]; first | done | omega) | decide | (split <;> simp only [lens, rinv_l, rmul_l, rrq_len, rroot_l, rrt_len, rP_len, *]) | (with_reducible exact Lt.mono (by assumption) (by decide)) | (simp only [Cs.len]; done) | rfl)) rfl ?_
          refine OpsFrom.v (Y.ldI ty24 rfl (up0 rfl rfl rfl) rfl rfl rfl (by first | (with_reducible assumption) | omega | (simp only [lens, rinv_l, rmul_l, rrq_len, rroot_l, rrt_len, rP_len, *]; first | done | omega) | decide | (split <;> simp only [lens, rinv_l, rmul_l, rrq_len, rroot_l, rrt_len, rP_len, *]) | (with_reducible exact Lt.mono (by assumption) (by decide)) | (simp only [Cs.len]; done) | rfl)) rfl ?_
          refine OpsFrom.v (Y.sub (b := 1) u64s u64m (up0 rfl rfl rfl) rfl rfl rfl) rfl ?_
          refine OpsFrom.v (Y.ia0 (i := 0) ty31 ty24 (up0 rfl rfl rfl) rfl rfl rfl (by first | (with_reducible assumption) | omega | (simp only [lens, rinv_l, rmul_l, rrq_len, rroot_l, rrt_len, rP_len, *]; first | done | omega) | decide | (split <;> simp only [lens, rinv_l, rmul_l, rrq_len, rroot_l, rrt_len, rP_len, *]) | (with_reducible exact Lt.mono (by assumption) (by decide)) | (simp only [Cs.len]; done) | rfl)) rfl ?_
          refine OpsFrom.n (Y.stI ty24 (upN rfl rfl) rfl rfl rfl rfl (by first | (with_reducible assumption) | omega | (simp only [lens, rinv_l, rmul_l, rrq_len, rroot_l, rrt_len, rP_len, *]; first | done | omega) | decide | (split <;> simp only [lens, rinv_l, rmul_l, rrq_len, rroot_l, rrt_len, rP_len, *]) | (with_reducible exact Lt.mono (by assumption) (by decide)) | (simp only [Cs.len]; done) | rfl)) rfl rfl ?_
          refine OpsFrom.nil ?_
          refine Holds.dr mx [([35], [36, 37, 38, 39, 40]), ([36], [35, 37]), ([37], [35, 36]), ([38], [35]), ([39], [35]), ([40], [35]), ([41], []), ([8], [])] (by kernel_rfl) ?_
          refine CertK.vd (Y.ldAll ty31 rfl (up0 rfl rfl rfl) rfl rfl rfl (by first | (with_reducible assumption) | omega | (simp only [lens, rinv_l, rmul_l, rrq_len, rroot_l, rrt_len, rP_len, rof_l, rhalf_len, rpow_l, *]; first | done | omega) | decide | (split <;> simp only [lens, rinv_l, rmul_l, rrq_len, rroot_l, rrt_len, rP_len, rof_l, rhalf_len, rpow_l, *]) | (with_reducible exact Lt.mono (by assumption) (by decide)) | (simp only [Cs.len]; done) | rfl) (by decide)) rfl rfl ?_
          refine CertK.vd (Y.callV (w_rof _ ) fnok23 (up0 rfl rfl rfl) rfl rfl (.cons _ _ (.one (.n .u64 2)) _ rfl .nil) (.cons _ _ _ _ (.same _) .nil) rfl rfl) rfl rfl ?_
          refine CertK.vd (Y.ldAll ty31 rfl (up0 rfl rfl rfl) rfl rfl rfl (by first | (with_reducible assumption) | omega | (simp only [lens, rinv_l, rmul_l, rrq_len, rroot_l, rrt_len, rP_len, rof_l, rhalf_len, rpow_l, *]; first | done | omega) | decide | (split <;> simp only [lens, rinv_l, rmul_l, rrq_len, rroot_l, rrt_len, rP_len, rof_l, rhalf_len, rpow_l, *]) | (with_reducible exact Lt.mono (by assumption) (by decide)) | (simp only [Cs.len]; done) | rfl) (by decide)) rfl rfl ?_
          refine CertK.vd (Y.callV (w_rhalf _ (by first | (with_reducible assumption) | omega | (simp only [lens, rinv_l, rmul_l, rrq_len, rroot_l, rrt_len, rP_len, rof_l, rhalf_len, rpow_l, *]; first | done | omega) | decide | (split <;> simp only [lens, rinv_l, rmul_l, rrq_len, rroot_l, rrt_len, rP_len, rof_l, rhalf_len, rpow_l, *]) | (with_reducible exact Lt.mono (by assumption) (by decide)) | (simp only [Cs.len]; done) | rfl)) fnok57 (up0 rfl rfl rfl) rfl rfl (.cons _ _ _ _ rfl .nil) (.cons _ _ _ _ (.same _) .nil) rfl rfl) rfl rfl ?_
          refine CertK.vd (Y.callV (w_rhalf _ (by first | (with_reducible assumption) | omega | (simp only [lens, rinv_l, rmul_l, rrq_len, rroot_l, rrt_len, rP_len, rof_l, rhalf_len, rpow_l, *]; first | done | omega) | decide | (split <;> simp only [lens, rinv_l, rmul_l, rrq_len, rroot_l, rrt_len, rP_len, rof_l, rhalf_len, rpow_l, *]) | (with_reducible exact Lt.mono (by assumption) (by decide)) | (simp only [Cs.len]; done) | rfl)) fnok57 (up0 rfl rfl rfl) rfl rfl (.cons _ _ _ _ rfl .nil) (.cons _ _ _ _ (.same _) .nil) rfl rfl) rfl rfl ?_
          refine CertK.vd (Y.callV (w_rpow _ _ (by first | (with_reducible assumption) | omega | (simp only [lens, rinv_l, rmul_l, rrq_len, rroot_l, rrt_len, rP_len, rof_l, rhalf_len, rpow_l, *]; first | done | omega) | decide | (split <;> simp only [lens, rinv_l, rmul_l, rrq_len, rroot_l, rrt_len, rP_len, rof_l, rhalf_len, rpow_l, *]) | (with_reducible exact Lt.mono (by assumption) (by decide)) | (simp only [Cs.len]; done) | rfl) (by first | (with_reducible assumption) | omega | (simp only [lens, rinv_l, rmul_l, rrq_len, rroot_l, rrt_len, rP_len, rof_l, rhalf_len, rpow_l, *]; first | done | omega) | decide | (split <;> simp only [lens, rinv_l, rmul_l, rrq_len, rroot_l, rrt_len, rP_len, rof_l, rhalf_len, rpow_l, *]) | (with_reducible exact Lt.mono (by assumption) (by decide)) | (simp only [Cs.len]; done) | rfl)) fnok55 (up0 rfl rfl rfl) rfl rfl (.cons _ _ _ _ rfl (.cons _ _ _ _ rfl .nil)) (.cons _ _ _ _ (.same _) (.cons _ _ _ _ (.same _) .nil)) rfl rfl) rfl rfl ?_
          refine CertK.v (Y.callV (w_rmul _ _ (by first | (with_reducible assumption) | omega | (simp only [lens, rinv_l, rmul_l, rrq_len, rroot_l, rrt_len, rP_len, rof_l, rhalf_len, rpow_l, *]; first | done | omega) | decide | (split <;> simp only [lens, rinv_l, rmul_l, rrq_len, rroot_l, rrt_len, rP_len, rof_l, rhalf_len, rpow_l, *]) | (with_reducible exact Lt.mono (by assumption) (by decide)) | (simp only [Cs.len]; done) | rfl) (by first | (with_reducible assumption) | omega | (simp only [lens, rinv_l, rmul_l, rrq_len, rroot_l, rrt_len, rP_len, rof_l, rhalf_len, rpow_l, *]; first | done | omega) | decide | (split <;> simp only [lens, rinv_l, rmul_l, rrq_len, rroot_l, rrt_len, rP_len, rof_l, rhalf_len, rpow_l, *]) | (with_reducible exact Lt.mono (by assumption) (by decide)) | (simp only [Cs.len]; done) | rfl)) fnok29 (up0 rfl rfl rfl) rfl rfl (.cons _ _ _ _ rfl (.cons _ _ _ _ rfl .nil)) (.cons _ _ _ _ (.same _) (.cons _ _ _ _ (.same _) .nil)) rfl rfl) rfl ?_
          refine CertK.n (Y.stR ty31 (upN rfl rfl) rfl rfl rfl rfl rfl (by first | (with_reducible assumption) | omega | (simp only [lens, rinv_l, rmul_l, rrq_len, rroot_l, rrt_len, rP_len, rof_l, rhalf_len, rpow_l, *]; first | done | omega) | decide | (split <;> simp only [lens, rinv_l, rmul_l, rrq_len, rroot_l, rrt_len, rP_len, rof_l, rhalf_len, rpow_l, *]) | (with_reducible exact Lt.mono (by assumption) (by decide)) | (simp only [Cs.len]; done) | rfl) (by first | (with_reducible assumption) | omega | (simp only [lens, rinv_l, rmul_l, rrq_len, rroot_l, rrt_len, rP_len, rof_l, rhalf_len, rpow_l, *]; first | done | omega) | decide | (split <;> simp only [lens, rinv_l, rmul_l, rrq_len, rroot_l, rrt_len, rP_len, rof_l, rhalf_len, rpow_l, *]) | (with_reducible exact Lt.mono (by assumption) (by decide)) | (simp only [Cs.len]; done) | rfl) (by decide)) rfl rfl rfl rfl ?_
          refine CertK.nil ?_
          exact join _ [] ⟨⟨rfl, rfl, rfl, rfl, rfl, trivial⟩, ⟨rfl, rfl, rfl, (hEq (rrt2_pos u v h29)), trivial⟩, rfl, rfl⟩
        · refine Holds.skip ?_
          exact join _ [] ⟨⟨rfl, rfl, rfl, rfl, rfl, trivial⟩, ⟨rfl, rfl, rfl, (hEq (rrt2_neg u v h29)), trivial⟩, rfl, rfl⟩

theorem rratio_l (u v : List Nat) : (rratio u v).1.length = 16 := by
  unfold rratio
  (repeat' split) <;> first | rfl | (dsimp only; exact rrt3_len _ _)
attribute [irreducible] rratio

end Go.Proofs.Ytnfiiclmbiiokaa
