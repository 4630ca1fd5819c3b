/-
  Walks: LadderTells.
-/
import Derived.Test.YtnfiiclmbiiokaaZd
namespace Go.Proofs.Ytnfiiclmbiiokaa
open Go Go.Fx
set_option linter.unusedVariables false
set_option linter.unusedSimpArgs false
theorem lt_sh {a b : List Nat} (hl : b.length = 32) (hb : Lt 256 b) : (lshr a b).1 = rlmul a b := by
  rw [← lmul_eq hl hb]
  unfold lshr
  rfl
theorem lt_ok {a b : List Nat} (hl : b.length = 32) (hb : Lt 256 b) : ((lshr a b).2 == decide (rlmul a b ≠ List.replicate 32 0)) = true := by
  rw [← lmul_eq hl hb]
  unfold lshr
  exact beq_self_eq_true _
theorem lt_pub (a : List Nat) : lpub a = rlmul a ((List.replicate 32 0).set 0 9) := by
  rw [← lmul_eq rfl (Lt.of_mem (by decide) (by decide +kernel))]
  unfold lpub
  rfl
theorem w_ltells (a : List Nat) (b : List Nat) (l_a : a.length = 32) (l_b : b.length = 32) : VC Try.prog 10 [.row (.ints .u8 a), .row (.ints .u8 b)] (.one (.b true)) := by
  refine VC.go Try.func10 rfl Try.ntmps10 rfl rfl fun O w => ?_
  refine Holds.ltRow 0 rfl u8s u8m (fun ba => ?_)
  refine Holds.ltRow 1 rfl u8s u8m (fun bb => ?_)
  refine Holds.seq ?_
  refine Holds.reg ?_
  refine OpsFrom.u (Y.boxR (d := 2) (up0 rfl rfl rfl) rfl rfl rfl) rfl rfl rfl ?_
  refine OpsFrom.u (Y.boxR (d := 3) (up0 rfl rfl rfl) rfl rfl rfl) rfl rfl rfl ?_
  refine OpsFrom.v (Y.assign (up0 rfl rfl rfl) rfl rfl) rfl ?_
  refine OpsFrom.nil ?_
  refine Holds.seq ?_
  refine Holds.reg ?_
  refine OpsFrom.v (Y.callV w_lawake fnok38 (up0 rfl rfl rfl) rfl rfl .nil .nil rfl rfl) rfl ?_
  refine OpsFrom.v (Y.assign (up0 rfl rfl rfl) rfl rfl) rfl ?_
  refine OpsFrom.nil ?_
  refine Holds.seq ?_
  refine Holds.reg ?_
  refine OpsFrom.v (Y.ldAll ty22 rfl (up0 rfl rfl rfl) rfl rfl rfl (by first | (with_reducible assumption) | omega | (simp only [lens, *]; first | done | omega) | decide | (split <;> simp only [lens, *]) | (with_reducible exact Lt.mono (by assumption) (by decide)) | (simp only [Cs.len]; done) | rfl) (by decide)) rfl ?_
  refine OpsFrom.v (Y.ldAll ty22 rfl (up0 rfl rfl rfl) rfl rfl rfl (by first | (with_reducible assumption) | omega | (simp only [lens, *]; first | done | omega) | decide | (split <;> simp only [lens, *]) | (with_reducible exact Lt.mono (by assumption) (by decide)) | (simp only [Cs.len]; done) | rfl) (by decide)) rfl ?_
  refine OpsFrom.v (Y.callV (w_lmul _ _ (by first | (with_reducible assumption) | omega | (simp only [lens, lmul_l, *]; first | done | omega) | decide | (split <;> simp only [lens, lmul_l, *]) | (with_reducible exact Lt.mono (by assumption) (by decide)) | (simp only [Cs.len]; done) | rfl) (by first | (with_reducible assumption) | omega | (simp only [lens, lmul_l, *]; first | done | omega) | decide | (split <;> simp only [lens, lmul_l, *]) | (with_reducible exact Lt.mono (by assumption) (by decide)) | (simp only [Cs.len]; done) | rfl)) fnok39 (up0 rfl rfl rfl) rfl rfl (.cons _ _ _ _ rfl (.cons _ _ _ _ rfl .nil)) (.cons _ _ _ _ (.same _) (.cons _ _ _ _ (.same _) .nil)) rfl rfl) rfl ?_
  refine OpsFrom.u (Y.alloc (d := 6) ty22 rfl rfl (up0 rfl rfl rfl) rfl) rfl rfl rfl ?_
  refine OpsFrom.n (Y.stR ty22 (upN rfl rfl) rfl rfl rfl rfl rfl (by first | (with_reducible assumption) | omega | (simp only [lens, lmul_l, *]; first | done | omega) | decide | (split <;> simp only [lens, lmul_l, *]) | (with_reducible exact Lt.mono (by assumption) (by decide)) | (simp only [Cs.len]; done) | rfl) (by first | (with_reducible assumption) | omega | (simp only [lens, lmul_l, *]; first | done | omega) | decide | (split <;> simp only [lens, lmul_l, *]) | (with_reducible exact Lt.mono (by assumption) (by decide)) | (simp only [Cs.len]; done) | rfl) (by decide)) rfl rfl ?_
  refine OpsFrom.nil ?_
  refine Holds.seq ?_
  refine Holds.reg ?_
  refine OpsFrom.v (Y.ldAll ty22 rfl (up0 rfl rfl rfl) rfl rfl rfl (by first | (with_reducible assumption) | omega | (simp only [lens, lmul_l, *]; first | done | omega) | decide | (split <;> simp only [lens, lmul_l, *]) | (with_reducible exact Lt.mono (by assumption) (by decide)) | (simp only [Cs.len]; done) | rfl) (by decide)) rfl ?_
  refine OpsFrom.v (Y.ldAll ty22 rfl (up0 rfl rfl rfl) rfl rfl rfl (by first | (with_reducible assumption) | omega | (simp only [lens, lmul_l, *]; first | done | omega) | decide | (split <;> simp only [lens, lmul_l, *]) | (with_reducible exact Lt.mono (by assumption) (by decide)) | (simp only [Cs.len]; done) | rfl) (by decide)) rfl ?_
  refine OpsFrom.v (Y.callV (w_rlmul _ _ (by first | (with_reducible assumption) | omega | (simp only [lens, lmul_l, rlmul_l, *]; first | done | omega) | decide | (split <;> simp only [lens, lmul_l, rlmul_l, *]) | (with_reducible exact Lt.mono (by assumption) (by decide)) | (simp only [Cs.len]; done) | rfl) (by first | (with_reducible assumption) | omega | (simp only [lens, lmul_l, rlmul_l, *]; first | done | omega) | decide | (split <;> simp only [lens, lmul_l, rlmul_l, *]) | (with_reducible exact Lt.mono (by assumption) (by decide)) | (simp only [Cs.len]; done) | rfl)) fnok40 (up0 rfl rfl rfl) rfl rfl (.cons _ _ _ _ rfl (.cons _ _ _ _ rfl .nil)) (.cons _ _ _ _ (.same _) (.cons _ _ _ _ (.same _) .nil)) rfl rfl) rfl ?_
  refine OpsFrom.u (Y.alloc (d := 7) ty22 rfl rfl (up0 rfl rfl rfl) rfl) rfl rfl rfl ?_
  refine OpsFrom.n (Y.stR ty22 (upN rfl rfl) rfl rfl rfl rfl rfl (by first | (with_reducible assumption) | omega | (simp only [lens, lmul_l, rlmul_l, *]; first | done | omega) | decide | (split <;> simp only [lens, lmul_l, rlmul_l, *]) | (with_reducible exact Lt.mono (by assumption) (by decide)) | (simp only [Cs.len]; done) | rfl) (by first | (with_reducible assumption) | omega | (simp only [lens, lmul_l, rlmul_l, *]; first | done | omega) | decide | (split <;> simp only [lens, lmul_l, rlmul_l, *]) | (with_reducible exact Lt.mono (by assumption) (by decide)) | (simp only [Cs.len]; done) | rfl) (by decide)) rfl rfl ?_
  refine OpsFrom.nil ?_
  refine Holds.seq ?_
  refine Holds.reg ?_
  refine OpsFrom.v (Y.ldAll ty22 rfl (up0 rfl rfl rfl) rfl rfl rfl (by first | (with_reducible assumption) | omega | (simp only [lens, lmul_l, rlmul_l, *]; first | done | omega) | decide | (split <;> simp only [lens, lmul_l, rlmul_l, *]) | (with_reducible exact Lt.mono (by assumption) (by decide)) | (simp only [Cs.len]; done) | rfl) (by decide)) rfl ?_
  refine OpsFrom.v (Y.ldAll ty22 rfl (up0 rfl rfl rfl) rfl rfl rfl (by first | (with_reducible assumption) | omega | (simp only [lens, lmul_l, rlmul_l, *]; first | done | omega) | decide | (split <;> simp only [lens, lmul_l, rlmul_l, *]) | (with_reducible exact Lt.mono (by assumption) (by decide)) | (simp only [Cs.len]; done) | rfl) (by decide)) rfl ?_
  refine OpsFrom.v (Y.callV (w_lshr _ _ (by first | (with_reducible assumption) | omega | (simp only [lens, lmul_l, rlmul_l, lshr_l, *]; first | done | omega) | decide | (split <;> simp only [lens, lmul_l, rlmul_l, lshr_l, *]) | (with_reducible exact Lt.mono (by assumption) (by decide)) | (simp only [Cs.len]; done) | rfl) (by first | (with_reducible assumption) | omega | (simp only [lens, lmul_l, rlmul_l, lshr_l, *]; first | done | omega) | decide | (split <;> simp only [lens, lmul_l, rlmul_l, lshr_l, *]) | (with_reducible exact Lt.mono (by assumption) (by decide)) | (simp only [Cs.len]; done) | rfl)) fnok41 (up0 rfl rfl rfl) rfl rfl (.cons _ _ _ _ rfl (.cons _ _ _ _ rfl .nil)) (.cons _ _ _ _ (.same _) (.cons _ _ _ _ (.same _) .nil)) rfl rfl) rfl ?_
  refine OpsFrom.v (Y.move (up0 rfl rfl rfl) rfl rfl) rfl ?_
  refine OpsFrom.v (Y.ext0 (up0 rfl rfl rfl) rfl rfl) rfl ?_
  refine OpsFrom.v (Y.ext1 (up0 rfl rfl rfl) rfl rfl) rfl ?_
  refine OpsFrom.u (Y.alloc (d := 8) ty22 rfl rfl (up0 rfl rfl rfl) rfl) rfl rfl rfl ?_
  refine OpsFrom.n (Y.stR ty22 (upN rfl rfl) rfl rfl rfl rfl rfl (by first | (with_reducible assumption) | omega | (simp only [lens, lmul_l, rlmul_l, lshr_l, *]; first | done | omega) | decide | (split <;> simp only [lens, lmul_l, rlmul_l, lshr_l, *]) | (with_reducible exact Lt.mono (by assumption) (by decide)) | (simp only [Cs.len]; done) | rfl) (by first | (with_reducible assumption) | omega | (simp only [lens, lmul_l, rlmul_l, lshr_l, *]; first | done | omega) | decide | (split <;> simp only [lens, lmul_l, rlmul_l, lshr_l, *]) | (with_reducible exact Lt.mono (by assumption) (by decide)) | (simp only [Cs.len]; done) | rfl) (by decide)) rfl rfl ?_
  refine OpsFrom.v (Y.assign (up0 rfl rfl rfl) rfl rfl) rfl ?_
  refine OpsFrom.nil ?_
  refine Holds.seq ?_
  refine Holds.dr mx [([23], []), ([24], []), ([25], [26]), ([26], [25]), ([27], []), ([28], []), ([29], []), ([30], [31]), ([31], [30]), ([32], []), ([33], []), ([34], []), ([35], [36, 37, 38]), ([36], [35, 37]), ([37], [35, 36]), ([38], [35]), ([39], []), ([40], []), ([41], []), ([42], [44, 45]), ([43], [44, 45]), ([44], [42, 43, 45]), ([45], [42, 43, 44]), ([46], []), ([47], []), ([48], []), ([4], [])] (by kernel_rfl) ?_
  refine CertK.v (Y.move (up0 rfl rfl rfl) rfl rfl) rfl ?_
  refine CertK.v (Y.move (up0 rfl rfl rfl) rfl rfl) rfl ?_
  refine CertK.vd (Y.ldAll ty22 rfl (up1 rfl rfl rfl rfl rfl rfl) rfl rfl rfl (by first | (with_reducible assumption) | omega | (simp only [lens, lmul_l, rlmul_l, lshr_l, lpub_l, *]; first | done | omega) | decide | (split <;> simp only [lens, lmul_l, rlmul_l, lshr_l, lpub_l, *]) | (with_reducible exact Lt.mono (by assumption) (by decide)) | (simp only [Cs.len]; done) | rfl) (by decide)) rfl rfl ?_
  refine CertK.vd (Y.ldAll ty22 rfl (up1 rfl rfl rfl rfl rfl rfl) rfl rfl rfl (by first | (with_reducible assumption) | omega | (simp only [lens, lmul_l, rlmul_l, lshr_l, lpub_l, *]; first | done | omega) | decide | (split <;> simp only [lens, lmul_l, rlmul_l, lshr_l, lpub_l, *]) | (with_reducible exact Lt.mono (by assumption) (by decide)) | (simp only [Cs.len]; done) | rfl) (by decide)) rfl rfl ?_
  refine CertK.v (Doing.isB (c := true) (decide_eq_true (lmul_eq l_b bb)) (Y.eqR ty22 ty5 (by kernel_rfl) (up1 rfl rfl rfl rfl rfl rfl) rfl rfl rfl (by first | (with_reducible assumption) | omega | (simp only [lens, lmul_l, rlmul_l, lshr_l, lpub_l, *]; first | done | omega) | decide | (split <;> simp only [lens, lmul_l, rlmul_l, lshr_l, lpub_l, *]) | (with_reducible exact Lt.mono (by assumption) (by decide)) | (simp only [Cs.len]; done) | rfl) (by first | (with_reducible assumption) | omega | (simp only [lens, lmul_l, rlmul_l, lshr_l, lpub_l, *]; first | done | omega) | decide | (split <;> simp only [lens, lmul_l, rlmul_l, lshr_l, lpub_l, *]) | (with_reducible exact Lt.mono (by assumption) (by decide)) | (simp only [Cs.len]; done) | rfl))) rfl ?_
  refine CertK.v (Y.pickT (up0 rfl rfl rfl) rfl rfl rfl) rfl ?_
  refine CertK.v (Y.move (up0 rfl rfl rfl) rfl rfl) rfl ?_
  refine CertK.vd (Y.ldAll ty22 rfl (up1 rfl rfl rfl rfl rfl rfl) rfl rfl rfl (by first | (with_reducible assumption) | omega | (simp only [lens, lmul_l, rlmul_l, lshr_l, lpub_l, *]; first | done | omega) | decide | (split <;> simp only [lens, lmul_l, rlmul_l, lshr_l, lpub_l, *]) | (with_reducible exact Lt.mono (by assumption) (by decide)) | (simp only [Cs.len]; done) | rfl) (by decide)) rfl rfl ?_
  refine CertK.vd (Y.ldAll ty22 rfl (up1 rfl rfl rfl rfl rfl rfl) rfl rfl rfl (by first | (with_reducible assumption) | omega | (simp only [lens, lmul_l, rlmul_l, lshr_l, lpub_l, *]; first | done | omega) | decide | (split <;> simp only [lens, lmul_l, rlmul_l, lshr_l, lpub_l, *]) | (with_reducible exact Lt.mono (by assumption) (by decide)) | (simp only [Cs.len]; done) | rfl) (by decide)) rfl rfl ?_
  refine CertK.v (Doing.isB (c := true) (decide_eq_true (lt_sh l_b bb)) (Y.eqR ty22 ty5 (by kernel_rfl) (up1 rfl rfl rfl rfl rfl rfl) rfl rfl rfl (by first | (with_reducible assumption) | omega | (simp only [lens, lmul_l, rlmul_l, lshr_l, lpub_l, *]; first | done | omega) | decide | (split <;> simp only [lens, lmul_l, rlmul_l, lshr_l, lpub_l, *]) | (with_reducible exact Lt.mono (by assumption) (by decide)) | (simp only [Cs.len]; done) | rfl) (by first | (with_reducible assumption) | omega | (simp only [lens, lmul_l, rlmul_l, lshr_l, lpub_l, *]; first | done | omega) | decide | (split <;> simp only [lens, lmul_l, rlmul_l, lshr_l, lpub_l, *]) | (with_reducible exact Lt.mono (by assumption) (by decide)) | (simp only [Cs.len]; done) | rfl))) rfl ?_
  refine CertK.v (Y.pickT (up0 rfl rfl rfl) rfl rfl rfl) rfl ?_
  refine CertK.v (Y.move (up0 rfl rfl rfl) rfl rfl) rfl ?_
  refine CertK.vd (Y.move (up1 rfl rfl rfl rfl rfl rfl) rfl rfl) rfl rfl ?_
  refine CertK.vd (Y.ldAll ty22 rfl (up1 rfl rfl rfl rfl rfl rfl) rfl rfl rfl (by first | (with_reducible assumption) | omega | (simp only [lens, lmul_l, rlmul_l, lshr_l, lpub_l, *]; first | done | omega) | decide | (split <;> simp only [lens, lmul_l, rlmul_l, lshr_l, lpub_l, *]) | (with_reducible exact Lt.mono (by assumption) (by decide)) | (simp only [Cs.len]; done) | rfl) (by decide)) rfl rfl ?_
  refine CertK.vd (Y.buildA ty22 ty5 rfl (up1 rfl rfl rfl rfl rfl rfl) rfl (.nil _)) rfl rfl ?_
  refine CertK.vd (Y.neqR ty22 ty5 (by kernel_rfl) (up1 rfl rfl rfl rfl rfl rfl) rfl rfl rfl (by first | (with_reducible assumption) | omega | (simp only [lens, lmul_l, rlmul_l, lshr_l, lpub_l, *]; first | done | omega) | decide | (split <;> simp only [lens, lmul_l, rlmul_l, lshr_l, lpub_l, *]) | (with_reducible exact Lt.mono (by assumption) (by decide)) | (simp only [Cs.len]; done) | rfl) (by first | (with_reducible assumption) | omega | (simp only [lens, lmul_l, rlmul_l, lshr_l, lpub_l, *]; first | done | omega) | decide | (split <;> simp only [lens, lmul_l, rlmul_l, lshr_l, lpub_l, *]) | (with_reducible exact Lt.mono (by assumption) (by decide)) | (simp only [Cs.len]; done) | rfl)) rfl rfl ?_
  refine CertK.v (Doing.isB (c := true) (lt_ok l_b bb) (Y.eqB ty4 (up1 rfl rfl rfl rfl rfl rfl) rfl rfl rfl)) rfl ?_
  refine CertK.v (Y.pickT (up0 rfl rfl rfl) rfl rfl rfl) rfl ?_
  refine CertK.v (Y.move (up0 rfl rfl rfl) rfl rfl) rfl ?_
  refine CertK.vd (Y.ldAll ty22 rfl (up1 rfl rfl rfl rfl rfl rfl) rfl rfl rfl (by first | (with_reducible assumption) | omega | (simp only [lens, lmul_l, rlmul_l, lshr_l, lpub_l, *]; first | done | omega) | decide | (split <;> simp only [lens, lmul_l, rlmul_l, lshr_l, lpub_l, *]) | (with_reducible exact Lt.mono (by assumption) (by decide)) | (simp only [Cs.len]; done) | rfl) (by decide)) rfl rfl ?_
  refine CertK.vd (Y.callV (w_lpub _ (by first | (with_reducible assumption) | omega | (simp only [lens, lmul_l, rlmul_l, lshr_l, lpub_l, *]; first | done | omega) | decide | (split <;> simp only [lens, lmul_l, rlmul_l, lshr_l, lpub_l, *]) | (with_reducible exact Lt.mono (by assumption) (by decide)) | (simp only [Cs.len]; done) | rfl)) fnok42 (up1 rfl rfl rfl rfl rfl rfl) rfl rfl (.cons _ _ _ _ rfl .nil) (.cons _ _ _ _ (.same _) .nil) rfl rfl) rfl rfl ?_
  refine CertK.vd (Y.ldAll ty22 rfl (up1 rfl rfl rfl rfl rfl rfl) rfl rfl rfl (by first | (with_reducible assumption) | omega | (simp only [lens, lmul_l, rlmul_l, lshr_l, lpub_l, *]; first | done | omega) | decide | (split <;> simp only [lens, lmul_l, rlmul_l, lshr_l, lpub_l, *]) | (with_reducible exact Lt.mono (by assumption) (by decide)) | (simp only [Cs.len]; done) | rfl) (by decide)) rfl rfl ?_
  refine CertK.vd (Y.buildA ty22 ty5 rfl (up1 rfl rfl rfl rfl rfl rfl) rfl (.cons _ _ _ _ _ _ (.one (.n .u8 9)) _ _ rfl rfl rfl rfl (Spl.n (by first | decide | (simp; done))) (.nil _))) rfl rfl ?_
  refine CertK.v (Y.callV (w_rlmul _ _ (by first | (with_reducible assumption) | omega | (simp only [lens, lmul_l, rlmul_l, lshr_l, lpub_l, *]; first | done | omega) | decide | (split <;> simp only [lens, lmul_l, rlmul_l, lshr_l, lpub_l, *]) | (with_reducible exact Lt.mono (by assumption) (by decide)) | (simp only [Cs.len]; done) | rfl) (by first | (with_reducible assumption) | omega | (simp only [lens, lmul_l, rlmul_l, lshr_l, lpub_l, *]; first | done | omega) | decide | (split <;> simp only [lens, lmul_l, rlmul_l, lshr_l, lpub_l, *]) | (with_reducible exact Lt.mono (by assumption) (by decide)) | (simp only [Cs.len]; done) | rfl)) fnok40 (up1 rfl rfl rfl rfl rfl rfl) rfl rfl (.cons _ _ _ _ rfl (.cons _ _ _ _ rfl .nil)) (.cons _ _ _ _ (.same _) (.cons _ _ _ _ (.same _) .nil)) rfl rfl) rfl ?_
  refine CertK.v (Doing.isB (c := true) (decide_eq_true (lt_pub a)) (Y.eqR ty22 ty5 (by kernel_rfl) (up1 rfl rfl rfl rfl rfl rfl) rfl rfl rfl (by first | (with_reducible assumption) | omega | (simp only [lens, lmul_l, rlmul_l, lshr_l, lpub_l, *]; first | done | omega) | decide | (split <;> simp only [lens, lmul_l, rlmul_l, lshr_l, lpub_l, *]) | (with_reducible exact Lt.mono (by assumption) (by decide)) | (simp only [Cs.len]; done) | rfl) (by first | (with_reducible assumption) | omega | (simp only [lens, lmul_l, rlmul_l, lshr_l, lpub_l, *]; first | done | omega) | decide | (split <;> simp only [lens, lmul_l, rlmul_l, lshr_l, lpub_l, *]) | (with_reducible exact Lt.mono (by assumption) (by decide)) | (simp only [Cs.len]; done) | rfl))) rfl ?_
  refine CertK.v (Y.pickT (up0 rfl rfl rfl) rfl rfl rfl) rfl ?_
  refine CertK.v (Y.assign (up0 rfl rfl rfl) rfl rfl) rfl ?_
  refine CertK.nil ?_
  refine Holds.ret ?_
  exact Holds.ret1 (.inl rfl) rfl (.tmp _ _ rfl) (.same _) rfl


end Go.Proofs.Ytnfiiclmbiiokaa
