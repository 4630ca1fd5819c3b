/-
  Walks: LadderChain.
-/
import Derived.Test.YtnfiiclmbiiokaaZd
import Derived.Test.YtnfiiclmbiiokaaEc
namespace Go.Proofs.Ytnfiiclmbiiokaa
open Go Go.Fx
set_option linter.unusedVariables false
set_option linter.unusedSimpArgs false
theorem w_lchain (a : List Nat) (b : List Nat) (p : List Nat) (l_a : a.length = 32) (l_b : b.length = 32) (l_p : p.length = 32) : VC Try.prog 13 [.row (.ints .u8 a), .row (.ints .u8 b), .row (.ints .u8 p)] (.one (.b true)) := by
  refine VC.go Try.func13 rfl Try.ntmps13 rfl rfl fun O w => ?_
  refine Holds.ltRow 2 rfl u8s u8m (fun bp => ?_)
  refine Holds.seq ?_
  refine Holds.reg ?_
  refine OpsFrom.u (Y.boxR (d := 3) (up0 rfl rfl rfl) rfl rfl rfl) rfl rfl rfl ?_
  refine OpsFrom.u (Y.boxR (d := 4) (up0 rfl rfl rfl) rfl rfl rfl) rfl rfl rfl ?_
  refine OpsFrom.u (Y.boxR (d := 5) (up0 rfl rfl rfl) rfl rfl rfl) rfl rfl rfl ?_
  refine OpsFrom.v (Y.assign (up0 rfl rfl rfl) rfl rfl) rfl ?_
  refine OpsFrom.nil ?_
  refine Holds.seq ?_
  refine Holds.reg ?_
  refine OpsFrom.v (Y.callV w_lawake fnok38 (up0 rfl rfl rfl) rfl rfl .nil .nil rfl rfl) rfl ?_
  refine OpsFrom.v (Y.assign (up0 rfl rfl rfl) rfl rfl) rfl ?_
  refine OpsFrom.nil ?_
  refine Holds.seq ?_
  refine Holds.dr mx [([9], []), ([10], []), ([11], [12, 13, 14, 16, 17, 18]), ([12], [11, 13, 16, 17, 18]), ([13], [11, 12, 16, 17, 18]), ([14], [11, 16, 17, 18]), ([15], [16, 17, 18]), ([16], [11, 12, 13, 14, 15, 17, 18, 19]), ([17], [11, 12, 13, 14, 15, 16, 18]), ([18], [11, 12, 13, 14, 15, 16, 17]), ([19], [16]), ([20], []), ([21], []), ([22], []), ([6], [])] (by kernel_rfl) ?_
  refine CertK.v (Y.move (up0 rfl rfl rfl) rfl rfl) rfl ?_
  refine CertK.v (Y.move (up0 rfl rfl rfl) rfl rfl) rfl ?_
  refine CertK.vd (Y.ldAll ty22 rfl (up1 rfl rfl rfl rfl rfl rfl) rfl rfl rfl (by first | (with_reducible assumption) | omega | (simp only [lens, lmul_l, *]; first | done | omega) | decide | (split <;> simp only [lens, lmul_l, *]) | (with_reducible exact Lt.mono (by assumption) (by decide)) | (simp only [Cs.len]; done) | rfl) (by decide)) rfl rfl ?_
  refine CertK.vd (Y.ldAll ty22 rfl (up1 rfl rfl rfl rfl rfl rfl) rfl rfl rfl (by first | (with_reducible assumption) | omega | (simp only [lens, lmul_l, *]; first | done | omega) | decide | (split <;> simp only [lens, lmul_l, *]) | (with_reducible exact Lt.mono (by assumption) (by decide)) | (simp only [Cs.len]; done) | rfl) (by decide)) rfl rfl ?_
  refine CertK.vd (Y.ldAll ty22 rfl (up1 rfl rfl rfl rfl rfl rfl) rfl rfl rfl (by first | (with_reducible assumption) | omega | (simp only [lens, lmul_l, *]; first | done | omega) | decide | (split <;> simp only [lens, lmul_l, *]) | (with_reducible exact Lt.mono (by assumption) (by decide)) | (simp only [Cs.len]; done) | rfl) (by decide)) rfl rfl ?_
  refine CertK.vd (Y.callV (w_lmul _ _ (by first | (with_reducible assumption) | omega | (simp only [lens, lmul_l, *]; first | done | omega) | decide | (split <;> simp only [lens, lmul_l, *]) | (with_reducible exact Lt.mono (by assumption) (by decide)) | (simp only [Cs.len]; done) | rfl) (by first | (with_reducible assumption) | omega | (simp only [lens, lmul_l, *]; first | done | omega) | decide | (split <;> simp only [lens, lmul_l, *]) | (with_reducible exact Lt.mono (by assumption) (by decide)) | (simp only [Cs.len]; done) | rfl)) fnok39 (up1 rfl rfl rfl rfl rfl rfl) rfl rfl (.cons _ _ _ _ rfl (.cons _ _ _ _ rfl .nil)) (.cons _ _ _ _ (.same _) (.cons _ _ _ _ (.same _) .nil)) rfl rfl) rfl rfl ?_
  refine CertK.vd (Y.callV (w_lmul _ _ (by first | (with_reducible assumption) | omega | (simp only [lens, lmul_l, *]; first | done | omega) | decide | (split <;> simp only [lens, lmul_l, *]) | (with_reducible exact Lt.mono (by assumption) (by decide)) | (simp only [Cs.len]; done) | rfl) (by first | (with_reducible assumption) | omega | (simp only [lens, lmul_l, *]; first | done | omega) | decide | (split <;> simp only [lens, lmul_l, *]) | (with_reducible exact Lt.mono (by assumption) (by decide)) | (simp only [Cs.len]; done) | rfl)) fnok39 (up1 rfl rfl rfl rfl rfl rfl) rfl rfl (.cons _ _ _ _ rfl (.cons _ _ _ _ rfl .nil)) (.cons _ _ _ _ (.same _) (.cons _ _ _ _ (.same _) .nil)) rfl rfl) rfl rfl ?_
  refine CertK.vd (Y.ldAll ty22 rfl (up1 rfl rfl rfl rfl rfl rfl) rfl rfl rfl (by first | (with_reducible assumption) | omega | (simp only [lens, lmul_l, *]; first | done | omega) | decide | (split <;> simp only [lens, lmul_l, *]) | (with_reducible exact Lt.mono (by assumption) (by decide)) | (simp only [Cs.len]; done) | rfl) (by decide)) rfl rfl ?_
  refine CertK.vd (Y.ldAll ty22 rfl (up1 rfl rfl rfl rfl rfl rfl) rfl rfl rfl (by first | (with_reducible assumption) | omega | (simp only [lens, lmul_l, *]; first | done | omega) | decide | (split <;> simp only [lens, lmul_l, *]) | (with_reducible exact Lt.mono (by assumption) (by decide)) | (simp only [Cs.len]; done) | rfl) (by decide)) rfl rfl ?_
  refine CertK.vd (Y.ldAll ty22 rfl (up1 rfl rfl rfl rfl rfl rfl) rfl rfl rfl (by first | (with_reducible assumption) | omega | (simp only [lens, lmul_l, *]; first | done | omega) | decide | (split <;> simp only [lens, lmul_l, *]) | (with_reducible exact Lt.mono (by assumption) (by decide)) | (simp only [Cs.len]; done) | rfl) (by decide)) rfl rfl ?_
  refine CertK.vd (Y.callV (w_lmul _ _ (by first | (with_reducible assumption) | omega | (simp only [lens, lmul_l, *]; first | done | omega) | decide | (split <;> simp only [lens, lmul_l, *]) | (with_reducible exact Lt.mono (by assumption) (by decide)) | (simp only [Cs.len]; done) | rfl) (by first | (with_reducible assumption) | omega | (simp only [lens, lmul_l, *]; first | done | omega) | decide | (split <;> simp only [lens, lmul_l, *]) | (with_reducible exact Lt.mono (by assumption) (by decide)) | (simp only [Cs.len]; done) | rfl)) fnok39 (up1 rfl rfl rfl rfl rfl rfl) rfl rfl (.cons _ _ _ _ rfl (.cons _ _ _ _ rfl .nil)) (.cons _ _ _ _ (.same _) (.cons _ _ _ _ (.same _) .nil)) rfl rfl) rfl rfl ?_
  refine CertK.v (Y.callV (w_lmul _ _ (by first | (with_reducible assumption) | omega | (simp only [lens, lmul_l, *]; first | done | omega) | decide | (split <;> simp only [lens, lmul_l, *]) | (with_reducible exact Lt.mono (by assumption) (by decide)) | (simp only [Cs.len]; done) | rfl) (by first | (with_reducible assumption) | omega | (simp only [lens, lmul_l, *]; first | done | omega) | decide | (split <;> simp only [lens, lmul_l, *]) | (with_reducible exact Lt.mono (by assumption) (by decide)) | (simp only [Cs.len]; done) | rfl)) fnok39 (up1 rfl rfl rfl rfl rfl rfl) rfl rfl (.cons _ _ _ _ rfl (.cons _ _ _ _ rfl .nil)) (.cons _ _ _ _ (.same _) (.cons _ _ _ _ (.same _) .nil)) rfl rfl) rfl ?_
  refine CertK.v (Doing.isB (c := true) (decide_eq_true (chain l_a l_b l_p bp)) (Y.eqR ty22 ty5 (by kernel_rfl) (up1 rfl rfl rfl rfl rfl rfl) rfl rfl rfl (by first | (with_reducible assumption) | omega | (simp only [lens, lmul_l, *]; first | done | omega) | decide | (split <;> simp only [lens, lmul_l, *]) | (with_reducible exact Lt.mono (by assumption) (by decide)) | (simp only [Cs.len]; done) | rfl) (by first | (with_reducible assumption) | omega | (simp only [lens, lmul_l, *]; first | done | omega) | decide | (split <;> simp only [lens, lmul_l, *]) | (with_reducible exact Lt.mono (by assumption) (by decide)) | (simp only [Cs.len]; done) | rfl))) rfl ?_
  refine CertK.v (Y.pickT (up0 rfl rfl rfl) rfl rfl rfl) rfl ?_
  refine CertK.v (Y.assign (up0 rfl rfl rfl) rfl rfl) rfl ?_
  refine CertK.nil ?_
  refine Holds.ret ?_
  exact Holds.ret1 (.inl rfl) rfl (.tmp _ _ rfl) (.same _) rfl


end Go.Proofs.Ytnfiiclmbiiokaa
