/-
  Walks: LadderMeets.
-/
import Derived.Test.YtnfiiclmbiiokaaZd
import Derived.Test.YtnfiiclmbiiokaaEd
namespace Go.Proofs.Ytnfiiclmbiiokaa
open Go Go.Fx
set_option linter.unusedVariables false
set_option linter.unusedSimpArgs false
theorem w_lmeets (a : List Nat) (b : List Nat) (l_a : a.length = 32) (l_b : b.length = 32) : VC Try.prog 11 [.row (.ints .u8 a), .row (.ints .u8 b)] (.one (.b true)) := by
  refine VC.go Try.func11 rfl Try.ntmps11 rfl rfl fun O w => ?_
  refine Holds.ltRow 0 rfl u8s u8m (fun ba => ?_)
  refine Holds.ltRow 1 rfl u8s u8m (fun bb => ?_)
  refine Holds.seq ?_
  refine Holds.reg ?_
  refine OpsFrom.u (Y.boxR (d := 2) (up0 rfl rfl rfl) rfl rfl rfl) rfl rfl rfl ?_
  refine OpsFrom.u (Y.boxR (d := 3) (up0 rfl rfl rfl) rfl rfl rfl) rfl rfl rfl ?_
  refine OpsFrom.v (Y.assign (up0 rfl rfl rfl) rfl rfl) rfl ?_
  refine OpsFrom.nil ?_
  refine Holds.seq ?_
  refine Holds.reg ?_
  refine OpsFrom.v (Y.callV w_lawake fnok38 (up0 rfl rfl rfl) rfl rfl .nil .nil rfl rfl) rfl ?_
  refine OpsFrom.v (Y.assign (up0 rfl rfl rfl) rfl rfl) rfl ?_
  refine OpsFrom.nil ?_
  refine Holds.seq ?_
  refine Holds.dr mx [([12], [13, 14, 6]), ([13], [12, 6]), ([14], [12, 6]), ([15], [6]), ([11], [6]), ([16], [17, 6]), ([17], [16, 6]), ([6], [12, 13, 14, 15, 11, 16, 17]), ([6], [17]), ([7], [])] (by kernel_rfl) ?_
  refine CertK.vd (Y.ldAll ty22 rfl (up0 rfl rfl rfl) rfl rfl rfl (by first | (with_reducible assumption) | omega | (simp only [lens, lpub_l, lshr_l, *]; first | done | omega) | decide | (split <;> simp only [lens, lpub_l, lshr_l, *]) | (with_reducible exact Lt.mono (by assumption) (by decide)) | (simp only [Cs.len]; done) | rfl) (by decide)) rfl rfl ?_
  refine CertK.vd (Y.ldAll ty22 rfl (up0 rfl rfl rfl) rfl rfl rfl (by first | (with_reducible assumption) | omega | (simp only [lens, lpub_l, lshr_l, *]; first | done | omega) | decide | (split <;> simp only [lens, lpub_l, lshr_l, *]) | (with_reducible exact Lt.mono (by assumption) (by decide)) | (simp only [Cs.len]; done) | rfl) (by decide)) rfl rfl ?_
  refine CertK.vd (Y.callV (w_lpub _ (by first | (with_reducible assumption) | omega | (simp only [lens, lpub_l, lshr_l, *]; first | done | omega) | decide | (split <;> simp only [lens, lpub_l, lshr_l, *]) | (with_reducible exact Lt.mono (by assumption) (by decide)) | (simp only [Cs.len]; done) | rfl)) fnok42 (up0 rfl rfl rfl) rfl rfl (.cons _ _ _ _ rfl .nil) (.cons _ _ _ _ (.same _) .nil) rfl rfl) rfl rfl ?_
  refine CertK.vd (Y.callV (w_lshr _ _ (by first | (with_reducible assumption) | omega | (simp only [lens, lpub_l, lshr_l, *]; first | done | omega) | decide | (split <;> simp only [lens, lpub_l, lshr_l, *]) | (with_reducible exact Lt.mono (by assumption) (by decide)) | (simp only [Cs.len]; done) | rfl) (by first | (with_reducible assumption) | omega | (simp only [lens, lpub_l, lshr_l, *]; first | done | omega) | decide | (split <;> simp only [lens, lpub_l, lshr_l, *]) | (with_reducible exact Lt.mono (by assumption) (by decide)) | (simp only [Cs.len]; done) | rfl)) fnok41 (up0 rfl rfl rfl) rfl rfl (.cons _ _ _ _ rfl (.cons _ _ _ _ rfl .nil)) (.cons _ _ _ _ (.same _) (.cons _ _ _ _ (.same _) .nil)) rfl rfl) rfl rfl ?_
  refine CertK.vd (Y.move (up0 rfl rfl rfl) rfl rfl) rfl rfl ?_
  refine CertK.vd (Y.ext0 (up0 rfl rfl rfl) rfl rfl) rfl rfl ?_
  refine CertK.vd (Y.ext1 (up0 rfl rfl rfl) rfl rfl) rfl rfl ?_
  refine CertK.u (Y.alloc (d := 6) ty22 rfl rfl (up0 rfl rfl rfl) rfl) rfl rfl rfl rfl rfl ?_
  refine CertK.n (Y.stR ty22 (upN rfl rfl) rfl rfl rfl rfl rfl (by first | (with_reducible assumption) | omega | (simp only [lens, lpub_l, lshr_l, *]; first | done | omega) | decide | (split <;> simp only [lens, lpub_l, lshr_l, *]) | (with_reducible exact Lt.mono (by assumption) (by decide)) | (simp only [Cs.len]; done) | rfl) (by first | (with_reducible assumption) | omega | (simp only [lens, lpub_l, lshr_l, *]; first | done | omega) | decide | (split <;> simp only [lens, lpub_l, lshr_l, *]) | (with_reducible exact Lt.mono (by assumption) (by decide)) | (simp only [Cs.len]; done) | rfl) (by decide)) rfl rfl rfl rfl ?_
  refine CertK.v (Y.assign (up0 rfl rfl rfl) rfl rfl) rfl ?_
  refine CertK.nil ?_
  refine Holds.seq ?_
  refine Holds.dr mx [([19], [20, 21, 8]), ([20], [19, 8]), ([21], [19, 8]), ([22], [8]), ([18], [8]), ([23], [24, 8]), ([24], [23, 8]), ([8], [19, 20, 21, 22, 18, 23, 24]), ([8], [24]), ([9], [])] (by kernel_rfl) ?_
  refine CertK.vd (Y.ldAll ty22 rfl (up0 rfl rfl rfl) rfl rfl rfl (by first | (with_reducible assumption) | omega | (simp only [lens, lpub_l, lshr_l, *]; first | done | omega) | decide | (split <;> simp only [lens, lpub_l, lshr_l, *]) | (with_reducible exact Lt.mono (by assumption) (by decide)) | (simp only [Cs.len]; done) | rfl) (by decide)) rfl rfl ?_
  refine CertK.vd (Y.ldAll ty22 rfl (up0 rfl rfl rfl) rfl rfl rfl (by first | (with_reducible assumption) | omega | (simp only [lens, lpub_l, lshr_l, *]; first | done | omega) | decide | (split <;> simp only [lens, lpub_l, lshr_l, *]) | (with_reducible exact Lt.mono (by assumption) (by decide)) | (simp only [Cs.len]; done) | rfl) (by decide)) rfl rfl ?_
  refine CertK.vd (Y.callV (w_lpub _ (by first | (with_reducible assumption) | omega | (simp only [lens, lpub_l, lshr_l, *]; first | done | omega) | decide | (split <;> simp only [lens, lpub_l, lshr_l, *]) | (with_reducible exact Lt.mono (by assumption) (by decide)) | (simp only [Cs.len]; done) | rfl)) fnok42 (up0 rfl rfl rfl) rfl rfl (.cons _ _ _ _ rfl .nil) (.cons _ _ _ _ (.same _) .nil) rfl rfl) rfl rfl ?_
  refine CertK.vd (Y.callV (w_lshr _ _ (by first | (with_reducible assumption) | omega | (simp only [lens, lpub_l, lshr_l, *]; first | done | omega) | decide | (split <;> simp only [lens, lpub_l, lshr_l, *]) | (with_reducible exact Lt.mono (by assumption) (by decide)) | (simp only [Cs.len]; done) | rfl) (by first | (with_reducible assumption) | omega | (simp only [lens, lpub_l, lshr_l, *]; first | done | omega) | decide | (split <;> simp only [lens, lpub_l, lshr_l, *]) | (with_reducible exact Lt.mono (by assumption) (by decide)) | (simp only [Cs.len]; done) | rfl)) fnok41 (up0 rfl rfl rfl) rfl rfl (.cons _ _ _ _ rfl (.cons _ _ _ _ rfl .nil)) (.cons _ _ _ _ (.same _) (.cons _ _ _ _ (.same _) .nil)) rfl rfl) rfl rfl ?_
  refine CertK.vd (Y.move (up0 rfl rfl rfl) rfl rfl) rfl rfl ?_
  refine CertK.vd (Y.ext0 (up0 rfl rfl rfl) rfl rfl) rfl rfl ?_
  refine CertK.vd (Y.ext1 (up0 rfl rfl rfl) rfl rfl) rfl rfl ?_
  refine CertK.u (Y.alloc (d := 8) ty22 rfl rfl (up0 rfl rfl rfl) rfl) rfl rfl rfl rfl rfl ?_
  refine CertK.n (Y.stR ty22 (upN rfl rfl) rfl rfl rfl rfl rfl (by first | (with_reducible assumption) | omega | (simp only [lens, lpub_l, lshr_l, *]; first | done | omega) | decide | (split <;> simp only [lens, lpub_l, lshr_l, *]) | (with_reducible exact Lt.mono (by assumption) (by decide)) | (simp only [Cs.len]; done) | rfl) (by first | (with_reducible assumption) | omega | (simp only [lens, lpub_l, lshr_l, *]; first | done | omega) | decide | (split <;> simp only [lens, lpub_l, lshr_l, *]) | (with_reducible exact Lt.mono (by assumption) (by decide)) | (simp only [Cs.len]; done) | rfl) (by decide)) rfl rfl rfl rfl ?_
  refine CertK.v (Y.assign (up0 rfl rfl rfl) rfl rfl) rfl ?_
  refine CertK.nil ?_
  refine Holds.seq ?_
  refine Holds.reg ?_
  refine OpsFrom.v (Y.move (up0 rfl rfl rfl) rfl rfl) rfl ?_
  refine OpsFrom.v (Y.move (up0 rfl rfl rfl) rfl rfl) rfl ?_
  refine OpsFrom.v (Y.ldAll ty22 rfl (up1 rfl rfl rfl rfl rfl rfl) rfl rfl rfl (by first | (with_reducible assumption) | omega | (simp only [lens, lpub_l, lshr_l, *]; first | done | omega) | decide | (split <;> simp only [lens, lpub_l, lshr_l, *]) | (with_reducible exact Lt.mono (by assumption) (by decide)) | (simp only [Cs.len]; done) | rfl) (by decide)) rfl ?_
  refine OpsFrom.v (Y.ldAll ty22 rfl (up1 rfl rfl rfl rfl rfl rfl) rfl rfl rfl (by first | (with_reducible assumption) | omega | (simp only [lens, lpub_l, lshr_l, *]; first | done | omega) | decide | (split <;> simp only [lens, lpub_l, lshr_l, *]) | (with_reducible exact Lt.mono (by assumption) (by decide)) | (simp only [Cs.len]; done) | rfl) (by decide)) rfl ?_
  refine OpsFrom.v (Doing.isB (c := true) (decide_eq_true (meets l_a l_b)) (Y.eqR ty22 ty5 (by kernel_rfl) (up1 rfl rfl rfl rfl rfl rfl) rfl rfl rfl (by first | (with_reducible assumption) | omega | (simp only [lens, lpub_l, lshr_l, *]; first | done | omega) | decide | (split <;> simp only [lens, lpub_l, lshr_l, *]) | (with_reducible exact Lt.mono (by assumption) (by decide)) | (simp only [Cs.len]; done) | rfl) (by first | (with_reducible assumption) | omega | (simp only [lens, lpub_l, lshr_l, *]; first | done | omega) | decide | (split <;> simp only [lens, lpub_l, lshr_l, *]) | (with_reducible exact Lt.mono (by assumption) (by decide)) | (simp only [Cs.len]; done) | rfl))) rfl ?_
  refine OpsFrom.v (Y.pickT (up0 rfl rfl rfl) rfl rfl rfl) rfl ?_
  refine OpsFrom.v (Y.move (up0 rfl rfl rfl) rfl rfl) rfl ?_
  refine OpsFrom.v (Doing.isB (c := true) (meets_ok l_a l_b ba bb) (Y.move (up1 rfl rfl rfl rfl rfl rfl) rfl rfl)) rfl ?_
  refine OpsFrom.v (Y.pickT (up0 rfl rfl rfl) rfl rfl rfl) rfl ?_
  refine OpsFrom.v (Y.move (up0 rfl rfl rfl) rfl rfl) rfl ?_
  refine OpsFrom.v (Doing.isB (c := true) (meets_ok l_b l_a bb ba) (Y.move (up1 rfl rfl rfl rfl rfl rfl) rfl rfl)) rfl ?_
  refine OpsFrom.v (Y.pickT (up0 rfl rfl rfl) rfl rfl rfl) rfl ?_
  refine OpsFrom.v (Y.assign (up0 rfl rfl rfl) rfl rfl) rfl ?_
  refine OpsFrom.nil ?_
  refine Holds.ret ?_
  exact Holds.ret1 (.inl rfl) rfl (.tmp _ _ rfl) (.same _) rfl


end Go.Proofs.Ytnfiiclmbiiokaa
