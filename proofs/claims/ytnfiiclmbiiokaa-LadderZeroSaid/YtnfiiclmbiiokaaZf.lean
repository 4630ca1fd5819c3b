/-
  Walks: LadderZero.
-/
import Derived.Test.YtnfiiclmbiiokaaZd
namespace Go.Proofs.Ytnfiiclmbiiokaa
open Go Go.Fx
set_option linter.unusedVariables false
set_option linter.unusedSimpArgs false
theorem w_lzero (a : List Nat) (n : Nat) (l_a : a.length = 32) : VC Try.prog 14 [.row (.ints .u8 a), .one (.n .u8 n)] (.one (.b true)) := by
  refine VC.go Try.func14 rfl Try.ntmps14 rfl rfl fun O w => ?_
  refine Holds.ltRow 0 rfl u8s u8m (fun ba => ?_)
  refine Holds.seq ?_
  refine Holds.reg ?_
  refine OpsFrom.u (Y.boxR (d := 2) (up0 rfl rfl rfl) rfl rfl rfl) rfl rfl rfl ?_
  refine OpsFrom.v (Y.assign (up0 rfl rfl rfl) rfl rfl) rfl ?_
  refine OpsFrom.nil ?_
  refine Holds.seq ?_
  refine Holds.reg ?_
  refine OpsFrom.v (Y.callV w_lawake fnok38 (up0 rfl rfl rfl) rfl rfl .nil .nil rfl rfl) rfl ?_
  refine OpsFrom.v (Y.assign (up0 rfl rfl rfl) rfl rfl) rfl ?_
  refine OpsFrom.nil ?_
  refine Holds.seq ?_
  refine Holds.reg ?_
  refine OpsFrom.v (Y.buildA ty22 ty5 rfl (up0 rfl rfl rfl) rfl (.nil _)) rfl ?_
  refine OpsFrom.u (Y.alloc (d := 6) ty22 rfl rfl (up0 rfl rfl rfl) rfl) rfl rfl rfl ?_
  refine OpsFrom.n (Y.stR ty22 (upN rfl rfl) rfl rfl rfl rfl rfl (by first | (with_reducible assumption) | omega | (simp only [lens, *]; first | done | omega) | decide | (split <;> simp only [lens, *]) | (with_reducible exact Lt.mono (by assumption) (by decide)) | (simp only [Cs.len]; done) | rfl) (by first | (with_reducible assumption) | omega | (simp only [lens, *]; first | done | omega) | decide | (split <;> simp only [lens, *]) | (with_reducible exact Lt.mono (by assumption) (by decide)) | (simp only [Cs.len]; done) | rfl) (by decide)) rfl rfl ?_
  refine OpsFrom.nil ?_
  refine Holds.seq ?_
  refine Holds.seq ?_
  refine Holds.reg ?_
  refine OpsFrom.v (Y.move (up0 rfl rfl rfl) rfl rfl) rfl ?_
  refine OpsFrom.v (Y.rem (b := 5) (up0 rfl rfl rfl) rfl rfl rfl (by decide)) rfl ?_
  refine OpsFrom.nil ?_
  refine Holds.block ?_
  refine Holds.seq ?_
  refine Holds.reg ?_
  refine OpsFrom.v (Y.eql (b := 1) (up0 rfl rfl rfl) rfl rfl rfl) rfl ?_
  refine OpsFrom.v (Y.assign (up0 rfl rfl rfl) rfl rfl) rfl ?_
  refine OpsFrom.nil ?_
  refine Holds.condD rfl (fun h13 => ?_) (fun h13 => ?_)
  · refine Holds.reg ?_
    refine OpsFrom.v (Y.ia0 (i := 0) ty22 ty5 (up0 rfl rfl rfl) rfl rfl rfl (by first | (with_reducible assumption) | omega | (simp only [lens, *]; first | done | omega) | decide | (split <;> simp only [lens, *]) | (with_reducible exact Lt.mono (by assumption) (by decide)) | (simp only [Cs.len]; done) | rfl)) rfl ?_
    refine OpsFrom.n (Y.stI ty5 (upN rfl rfl) rfl rfl rfl rfl (by first | (with_reducible assumption) | omega | (simp only [lens, *]; first | done | omega) | decide | (split <;> simp only [lens, *]) | (with_reducible exact Lt.mono (by assumption) (by decide)) | (simp only [Cs.len]; done) | rfl)) rfl rfl ?_
    refine OpsFrom.nil ?_
    refine Holds.seq ?_
    refine Holds.reg ?_
    refine OpsFrom.v (Y.ldAll ty22 rfl (up0 rfl rfl rfl) rfl rfl rfl (by first | (with_reducible assumption) | omega | (simp only [lens, *]; first | done | omega) | decide | (split <;> simp only [lens, *]) | (with_reducible exact Lt.mono (by assumption) (by decide)) | (simp only [Cs.len]; done) | rfl) (by decide)) rfl ?_
    refine OpsFrom.v (Y.ldAll ty22 rfl (up0 rfl rfl rfl) rfl rfl rfl (by first | (with_reducible assumption) | omega | (simp only [lens, *]; first | done | omega) | decide | (split <;> simp only [lens, *]) | (with_reducible exact Lt.mono (by assumption) (by decide)) | (simp only [Cs.len]; done) | rfl) (by decide)) rfl ?_
    refine OpsFrom.v (Y.callV (w_lshr _ _ (by first | (with_reducible assumption) | omega | (simp only [lens, lshr_l, *]; first | done | omega) | decide | (split <;> simp only [lens, lshr_l, *]) | (with_reducible exact Lt.mono (by assumption) (by decide)) | (simp only [Cs.len]; done) | rfl) (by first | (with_reducible assumption) | omega | (simp only [lens, lshr_l, *]; first | done | omega) | decide | (split <;> simp only [lens, lshr_l, *]) | (with_reducible exact Lt.mono (by assumption) (by decide)) | (simp only [Cs.len]; done) | rfl)) fnok41 (up0 rfl rfl rfl) rfl rfl (.cons _ _ _ _ rfl (.cons _ _ _ _ rfl .nil)) (.cons _ _ _ _ (.same _) (.cons _ _ _ _ (.same _) .nil)) rfl rfl) rfl ?_
    refine OpsFrom.v (Y.move (up0 rfl rfl rfl) rfl rfl) rfl ?_
    refine OpsFrom.v (Y.ext0 (up0 rfl rfl rfl) rfl rfl) rfl ?_
    refine OpsFrom.v (Y.ext1 (up0 rfl rfl rfl) rfl rfl) rfl ?_
    refine OpsFrom.u (Y.alloc (d := 7) ty22 rfl rfl (up0 rfl rfl rfl) rfl) rfl rfl rfl ?_
    refine OpsFrom.n (Y.stR ty22 (upN rfl rfl) rfl rfl rfl rfl rfl (by first | (with_reducible assumption) | omega | (simp only [lens, lshr_l, *]; first | done | omega) | decide | (split <;> simp only [lens, lshr_l, *]) | (with_reducible exact Lt.mono (by assumption) (by decide)) | (simp only [Cs.len]; done) | rfl) (by first | (with_reducible assumption) | omega | (simp only [lens, lshr_l, *]; first | done | omega) | decide | (split <;> simp only [lens, lshr_l, *]) | (with_reducible exact Lt.mono (by assumption) (by decide)) | (simp only [Cs.len]; done) | rfl) (by decide)) rfl rfl ?_
    refine OpsFrom.v (Y.assign (up0 rfl rfl rfl) rfl rfl) rfl ?_
    refine OpsFrom.nil ?_
    refine Holds.seq ?_
    refine Holds.reg ?_
    refine OpsFrom.v (Y.move (up0 rfl rfl rfl) rfl rfl) rfl ?_
    refine OpsFrom.v (Y.move (up0 rfl rfl rfl) rfl rfl) rfl ?_
    refine OpsFrom.v (Y.ldAll ty22 rfl (up1 rfl rfl rfl rfl rfl rfl) rfl rfl rfl (by first | (with_reducible assumption) | omega | (simp only [lens, lshr_l, *]; first | done | omega) | decide | (split <;> simp only [lens, lshr_l, *]) | (with_reducible exact Lt.mono (by assumption) (by decide)) | (simp only [Cs.len]; done) | rfl) (by decide)) rfl ?_
    refine OpsFrom.v (Y.buildA ty22 ty5 rfl (up1 rfl rfl rfl rfl rfl rfl) rfl (.nil _)) rfl ?_
    refine OpsFrom.v (Doing.isB (c := true) (decide_eq_true (by first | exact (zer0 l_a).1 | exact (zer1 l_a).1 | exact (zer2 l_a).1 | exact (zer3 l_a).1 | exact (zer4 l_a).1)) (Y.eqR ty22 ty5 (by kernel_rfl) (up1 rfl rfl rfl rfl rfl rfl) rfl rfl rfl (by first | (with_reducible assumption) | omega | (simp only [lens, lshr_l, *]; first | done | omega) | decide | (split <;> simp only [lens, lshr_l, *]) | (with_reducible exact Lt.mono (by assumption) (by decide)) | (simp only [Cs.len]; done) | rfl) (by first | (with_reducible assumption) | omega | (simp only [lens, lshr_l, *]; first | done | omega) | decide | (split <;> simp only [lens, lshr_l, *]) | (with_reducible exact Lt.mono (by assumption) (by decide)) | (simp only [Cs.len]; done) | rfl))) rfl ?_
    refine OpsFrom.v (Y.pickT (up0 rfl rfl rfl) rfl rfl rfl) rfl ?_
    refine OpsFrom.v (Y.move (up0 rfl rfl rfl) rfl rfl) rfl ?_
    refine OpsFrom.v (Y.move (up1 rfl rfl rfl rfl rfl rfl) rfl rfl) rfl ?_
    refine OpsFrom.v (Doing.isB (c := true) (by first | (rw [(zer0 l_a).2]; rfl) | (rw [(zer1 l_a).2]; rfl) | (rw [(zer2 l_a).2]; rfl) | (rw [(zer3 l_a).2]; rfl) | (rw [(zer4 l_a).2]; rfl)) (Y.not (up1 rfl rfl rfl rfl rfl rfl) rfl rfl)) rfl ?_
    refine OpsFrom.v (Y.pickT (up0 rfl rfl rfl) rfl rfl rfl) rfl ?_
    refine OpsFrom.v (Y.assign (up0 rfl rfl rfl) rfl rfl) rfl ?_
    refine OpsFrom.nil ?_
    refine Holds.ret ?_
    exact Holds.ret1 (.inl rfl) rfl (.tmp _ _ rfl) (.same _) rfl
  · refine Holds.seq ?_
    refine Holds.reg ?_
    refine OpsFrom.v (Y.eql (b := 2) (up0 rfl rfl rfl) rfl rfl rfl) rfl ?_
    refine OpsFrom.v (Y.assign (up0 rfl rfl rfl) rfl rfl) rfl ?_
    refine OpsFrom.nil ?_
    refine Holds.condD rfl (fun h16 => ?_) (fun h16 => ?_)
    · refine Holds.reg ?_
      refine OpsFrom.v (Y.buildA ty22 ty5 rfl (up0 rfl rfl rfl) rfl (.cons _ _ _ _ _ _ (.one (.n .u8 1)) _ _ rfl rfl rfl rfl (Spl.n (by first | decide | (simp; done))) (.nil _))) rfl ?_
      refine OpsFrom.v (Y.callV (w_load _ (by first | (with_reducible assumption) | omega | (simp only [lens, load_l, *]; first | done | omega) | decide | (split <;> simp only [lens, load_l, *]) | (with_reducible exact Lt.mono (by assumption) (by decide)) | (simp only [Cs.len]; done) | rfl)) fnok16 (up0 rfl rfl rfl) rfl rfl (.cons _ _ _ _ rfl .nil) (.cons _ _ _ _ (.same _) .nil) rfl rfl) rfl ?_
      refine OpsFrom.v (Y.callV (w_neg _ (by first | (with_reducible assumption) | omega | (simp only [lens, load_l, neg_l, *]; first | done | omega) | decide | (split <;> simp only [lens, load_l, neg_l, *]) | (with_reducible exact Lt.mono (by assumption) (by decide)) | (simp only [Cs.len]; done) | rfl)) fnok31 (up0 rfl rfl rfl) rfl rfl (.cons _ _ _ _ rfl .nil) (.cons _ _ _ _ (.same _) .nil) rfl rfl) rfl ?_
      refine OpsFrom.v (Y.callV (w_fbytes _ (by first | (with_reducible assumption) | omega | (simp only [lens, load_l, neg_l, fbytes_l, *]; first | done | omega) | decide | (split <;> simp only [lens, load_l, neg_l, fbytes_l, *]) | (with_reducible exact Lt.mono (by assumption) (by decide)) | (simp only [Cs.len]; done) | rfl)) fnok19 (up0 rfl rfl rfl) rfl rfl (.cons _ _ _ _ rfl .nil) (.cons _ _ _ _ (.same _) .nil) rfl rfl) rfl ?_
      refine OpsFrom.n (Y.stR ty22 (upN rfl rfl) rfl rfl rfl rfl rfl (by first | (with_reducible assumption) | omega | (simp only [lens, load_l, neg_l, fbytes_l, *]; first | done | omega) | decide | (split <;> simp only [lens, load_l, neg_l, fbytes_l, *]) | (with_reducible exact Lt.mono (by assumption) (by decide)) | (simp only [Cs.len]; done) | rfl) (by first | (with_reducible assumption) | omega | (simp only [lens, load_l, neg_l, fbytes_l, *]; first | done | omega) | decide | (split <;> simp only [lens, load_l, neg_l, fbytes_l, *]) | (with_reducible exact Lt.mono (by assumption) (by decide)) | (simp only [Cs.len]; done) | rfl) (by decide)) rfl rfl ?_
      refine OpsFrom.nil ?_
      refine Holds.seq ?_
      refine Holds.reg ?_
      refine OpsFrom.v (Y.ldAll ty22 rfl (up0 rfl rfl rfl) rfl rfl rfl (by first | (with_reducible assumption) | omega | (simp only [lens, load_l, neg_l, fbytes_l, *]; first | done | omega) | decide | (split <;> simp only [lens, load_l, neg_l, fbytes_l, *]) | (with_reducible exact Lt.mono (by assumption) (by decide)) | (simp only [Cs.len]; done) | rfl) (by decide)) rfl ?_
      refine OpsFrom.v (Y.ldAll ty22 rfl (up0 rfl rfl rfl) rfl rfl rfl (by first | (with_reducible assumption) | omega | (simp only [lens, load_l, neg_l, fbytes_l, *]; first | done | omega) | decide | (split <;> simp only [lens, load_l, neg_l, fbytes_l, *]) | (with_reducible exact Lt.mono (by assumption) (by decide)) | (simp only [Cs.len]; done) | rfl) (by decide)) rfl ?_
      refine OpsFrom.v (Y.callV (w_lshr _ _ (by first | (with_reducible assumption) | omega | (simp only [lens, load_l, neg_l, fbytes_l, lshr_l, *]; first | done | omega) | decide | (split <;> simp only [lens, load_l, neg_l, fbytes_l, lshr_l, *]) | (with_reducible exact Lt.mono (by assumption) (by decide)) | (simp only [Cs.len]; done) | rfl) (by first | (with_reducible assumption) | omega | (simp only [lens, load_l, neg_l, fbytes_l, lshr_l, *]; first | done | omega) | decide | (split <;> simp only [lens, load_l, neg_l, fbytes_l, lshr_l, *]) | (with_reducible exact Lt.mono (by assumption) (by decide)) | (simp only [Cs.len]; done) | rfl)) fnok41 (up0 rfl rfl rfl) rfl rfl (.cons _ _ _ _ rfl (.cons _ _ _ _ rfl .nil)) (.cons _ _ _ _ (.same _) (.cons _ _ _ _ (.same _) .nil)) rfl rfl) rfl ?_
      refine OpsFrom.v (Y.move (up0 rfl rfl rfl) rfl rfl) rfl ?_
      refine OpsFrom.v (Y.ext0 (up0 rfl rfl rfl) rfl rfl) rfl ?_
      refine OpsFrom.v (Y.ext1 (up0 rfl rfl rfl) rfl rfl) rfl ?_
      refine OpsFrom.u (Y.alloc (d := 7) ty22 rfl rfl (up0 rfl rfl rfl) rfl) rfl rfl rfl ?_
      refine OpsFrom.n (Y.stR ty22 (upN rfl rfl) rfl rfl rfl rfl rfl (by first | (with_reducible assumption) | omega | (simp only [lens, load_l, neg_l, fbytes_l, lshr_l, *]; first | done | omega) | decide | (split <;> simp only [lens, load_l, neg_l, fbytes_l, lshr_l, *]) | (with_reducible exact Lt.mono (by assumption) (by decide)) | (simp only [Cs.len]; done) | rfl) (by first | (with_reducible assumption) | omega | (simp only [lens, load_l, neg_l, fbytes_l, lshr_l, *]; first | done | omega) | decide | (split <;> simp only [lens, load_l, neg_l, fbytes_l, lshr_l, *]) | (with_reducible exact Lt.mono (by assumption) (by decide)) | (simp only [Cs.len]; done) | rfl) (by decide)) rfl rfl ?_
      refine OpsFrom.v (Y.assign (up0 rfl rfl rfl) rfl rfl) rfl ?_
      refine OpsFrom.nil ?_
      refine Holds.seq ?_
      refine Holds.reg ?_
      refine OpsFrom.v (Y.move (up0 rfl rfl rfl) rfl rfl) rfl ?_
      refine OpsFrom.v (Y.move (up0 rfl rfl rfl) rfl rfl) rfl ?_
      refine OpsFrom.v (Y.ldAll ty22 rfl (up1 rfl rfl rfl rfl rfl rfl) rfl rfl rfl (by first | (with_reducible assumption) | omega | (simp only [lens, load_l, neg_l, fbytes_l, lshr_l, *]; first | done | omega) | decide | (split <;> simp only [lens, load_l, neg_l, fbytes_l, lshr_l, *]) | (with_reducible exact Lt.mono (by assumption) (by decide)) | (simp only [Cs.len]; done) | rfl) (by decide)) rfl ?_
      refine OpsFrom.v (Y.buildA ty22 ty5 rfl (up1 rfl rfl rfl rfl rfl rfl) rfl (.nil _)) rfl ?_
      refine OpsFrom.v (Doing.isB (c := true) (decide_eq_true (by first | exact (zer0 l_a).1 | exact (zer1 l_a).1 | exact (zer2 l_a).1 | exact (zer3 l_a).1 | exact (zer4 l_a).1)) (Y.eqR ty22 ty5 (by kernel_rfl) (up1 rfl rfl rfl rfl rfl rfl) rfl rfl rfl (by first | (with_reducible assumption) | omega | (simp only [lens, load_l, neg_l, fbytes_l, lshr_l, *]; first | done | omega) | decide | (split <;> simp only [lens, load_l, neg_l, fbytes_l, lshr_l, *]) | (with_reducible exact Lt.mono (by assumption) (by decide)) | (simp only [Cs.len]; done) | rfl) (by first | (with_reducible assumption) | omega | (simp only [lens, load_l, neg_l, fbytes_l, lshr_l, *]; first | done | omega) | decide | (split <;> simp only [lens, load_l, neg_l, fbytes_l, lshr_l, *]) | (with_reducible exact Lt.mono (by assumption) (by decide)) | (simp only [Cs.len]; done) | rfl))) rfl ?_
      refine OpsFrom.v (Y.pickT (up0 rfl rfl rfl) rfl rfl rfl) rfl ?_
      refine OpsFrom.v (Y.move (up0 rfl rfl rfl) rfl rfl) rfl ?_
      refine OpsFrom.v (Y.move (up1 rfl rfl rfl rfl rfl rfl) rfl rfl) rfl ?_
      refine OpsFrom.v (Doing.isB (c := true) (by first | (rw [(zer0 l_a).2]; rfl) | (rw [(zer1 l_a).2]; rfl) | (rw [(zer2 l_a).2]; rfl) | (rw [(zer3 l_a).2]; rfl) | (rw [(zer4 l_a).2]; rfl)) (Y.not (up1 rfl rfl rfl rfl rfl rfl) rfl rfl)) rfl ?_
      refine OpsFrom.v (Y.pickT (up0 rfl rfl rfl) rfl rfl rfl) rfl ?_
      refine OpsFrom.v (Y.assign (up0 rfl rfl rfl) rfl rfl) rfl ?_
      refine OpsFrom.nil ?_
      refine Holds.ret ?_
      exact Holds.ret1 (.inl rfl) rfl (.tmp _ _ rfl) (.same _) rfl
    · refine Holds.seq ?_
      refine Holds.reg ?_
      refine OpsFrom.v (Y.eql (b := 3) (up0 rfl rfl rfl) rfl rfl rfl) rfl ?_
      refine OpsFrom.v (Y.assign (up0 rfl rfl rfl) rfl rfl) rfl ?_
      refine OpsFrom.nil ?_
      refine Holds.condD rfl (fun h22 => ?_) (fun h22 => ?_)
      · refine Holds.reg ?_
        refine OpsFrom.v (Y.buildA ty22 ty5 rfl (up0 rfl rfl rfl) rfl (.cons _ _ _ _ _ _ (.one (.n .u8 224)) _ _ rfl rfl rfl rfl (Spl.n (by first | decide | (simp; done))) (.cons _ _ _ _ _ _ (.one (.n .u8 235)) _ _ rfl rfl rfl rfl (Spl.n (by first | decide | (simp; done))) (.cons _ _ _ _ _ _ (.one (.n .u8 122)) _ _ rfl rfl rfl rfl (Spl.n (by first | decide | (simp; done))) (.cons _ _ _ _ _ _ (.one (.n .u8 124)) _ _ rfl rfl rfl rfl (Spl.n (by first | decide | (simp; done))) (.cons _ _ _ _ _ _ (.one (.n .u8 59)) _ _ rfl rfl rfl rfl (Spl.n (by first | decide | (simp; done))) (.cons _ _ _ _ _ _ (.one (.n .u8 65)) _ _ rfl rfl rfl rfl (Spl.n (by first | decide | (simp; done))) (.cons _ _ _ _ _ _ (.one (.n .u8 184)) _ _ rfl rfl rfl rfl (Spl.n (by first | decide | (simp; done))) (.cons _ _ _ _ _ _ (.one (.n .u8 174)) _ _ rfl rfl rfl rfl (Spl.n (by first | decide | (simp; done))) (.cons _ _ _ _ _ _ (.one (.n .u8 22)) _ _ rfl rfl rfl rfl (Spl.n (by first | decide | (simp; done))) (.cons _ _ _ _ _ _ (.one (.n .u8 86)) _ _ rfl rfl rfl rfl (Spl.n (by first | decide | (simp; done))) (.cons _ _ _ _ _ _ (.one (.n .u8 227)) _ _ rfl rfl rfl rfl (Spl.n (by first | decide | (simp; done))) (.cons _ _ _ _ _ _ (.one (.n .u8 250)) _ _ rfl rfl rfl rfl (Spl.n (by first | decide | (simp; done))) (.cons _ _ _ _ _ _ (.one (.n .u8 241)) _ _ rfl rfl rfl rfl (Spl.n (by first | decide | (simp; done))) (.cons _ _ _ _ _ _ (.one (.n .u8 159)) _ _ rfl rfl rfl rfl (Spl.n (by first | decide | (simp; done))) (.cons _ _ _ _ _ _ (.one (.n .u8 196)) _ _ rfl rfl rfl rfl (Spl.n (by first | decide | (simp; done))) (.cons _ _ _ _ _ _ (.one (.n .u8 106)) _ _ rfl rfl rfl rfl (Spl.n (by first | decide | (simp; done))) (.cons _ _ _ _ _ _ (.one (.n .u8 218)) _ _ rfl rfl rfl rfl (Spl.n (by first | decide | (simp; done))) (.cons _ _ _ _ _ _ (.one (.n .u8 9)) _ _ rfl rfl rfl rfl (Spl.n (by first | decide | (simp; done))) (.cons _ _ _ _ _ _ (.one (.n .u8 141)) _ _ rfl rfl rfl rfl (Spl.n (by first | decide | (simp; done))) (.cons _ _ _ _ _ _ (.one (.n .u8 235)) _ _ rfl rfl rfl rfl (Spl.n (by first | decide | (simp; done))) (.cons _ _ _ _ _ _ (.one (.n .u8 156)) _ _ rfl rfl rfl rfl (Spl.n (by first | decide | (simp; done))) (.cons _ _ _ _ _ _ (.one (.n .u8 50)) _ _ rfl rfl rfl rfl (Spl.n (by first | decide | (simp; done))) (.cons _ _ _ _ _ _ (.one (.n .u8 177)) _ _ rfl rfl rfl rfl (Spl.n (by first | decide | (simp; done))) (.cons _ _ _ _ _ _ (.one (.n .u8 253)) _ _ rfl rfl rfl rfl (Spl.n (by first | decide | (simp; done))) (.cons _ _ _ _ _ _ (.one (.n .u8 134)) _ _ rfl rfl rfl rfl (Spl.n (by first | decide | (simp; done))) (.cons _ _ _ _ _ _ (.one (.n .u8 98)) _ _ rfl rfl rfl rfl (Spl.n (by first | decide | (simp; done))) (.cons _ _ _ _ _ _ (.one (.n .u8 5)) _ _ rfl rfl rfl rfl (Spl.n (by first | decide | (simp; done))) (.cons _ _ _ _ _ _ (.one (.n .u8 22)) _ _ rfl rfl rfl rfl (Spl.n (by first | decide | (simp; done))) (.cons _ _ _ _ _ _ (.one (.n .u8 95)) _ _ rfl rfl rfl rfl (Spl.n (by first | decide | (simp; done))) (.cons _ _ _ _ _ _ (.one (.n .u8 73)) _ _ rfl rfl rfl rfl (Spl.n (by first | decide | (simp; done))) (.cons _ _ _ _ _ _ (.one (.n .u8 184)) _ _ rfl rfl rfl rfl (Spl.n (by first | decide | (simp; done))) (.cons _ _ _ _ _ _ (.one (.n .u8 0)) _ _ rfl rfl rfl rfl (Spl.n (by first | decide | (simp; done))) (.nil _)))))))))))))))))))))))))))))))))) rfl ?_
        refine OpsFrom.n (Y.stR ty22 (upN rfl rfl) rfl rfl rfl rfl rfl (by first | (with_reducible assumption) | omega | (simp only [lens, *]; first | done | omega) | decide | (split <;> simp only [lens, *]) | (with_reducible exact Lt.mono (by assumption) (by decide)) | (simp only [Cs.len]; done) | rfl) (by first | (with_reducible assumption) | omega | (simp only [lens, *]; first | done | omega) | decide | (split <;> simp only [lens, *]) | (with_reducible exact Lt.mono (by assumption) (by decide)) | (simp only [Cs.len]; done) | rfl) (by decide)) rfl rfl ?_
        refine OpsFrom.nil ?_
        refine Holds.seq ?_
        refine Holds.reg ?_
        refine OpsFrom.v (Y.ldAll ty22 rfl (up0 rfl rfl rfl) rfl rfl rfl (by first | (with_reducible assumption) | omega | (simp only [lens, *]; first | done | omega) | decide | (split <;> simp only [lens, *]) | (with_reducible exact Lt.mono (by assumption) (by decide)) | (simp only [Cs.len]; done) | rfl) (by decide)) rfl ?_
        refine OpsFrom.v (Y.ldAll ty22 rfl (up0 rfl rfl rfl) rfl rfl rfl (by first | (with_reducible assumption) | omega | (simp only [lens, *]; first | done | omega) | decide | (split <;> simp only [lens, *]) | (with_reducible exact Lt.mono (by assumption) (by decide)) | (simp only [Cs.len]; done) | rfl) (by decide)) rfl ?_
        refine OpsFrom.v (Y.callV (w_lshr _ _ (by first | (with_reducible assumption) | omega | (simp only [lens, lshr_l, *]; first | done | omega) | decide | (split <;> simp only [lens, lshr_l, *]) | (with_reducible exact Lt.mono (by assumption) (by decide)) | (simp only [Cs.len]; done) | rfl) (by first | (with_reducible assumption) | omega | (simp only [lens, lshr_l, *]; first | done | omega) | decide | (split <;> simp only [lens, lshr_l, *]) | (with_reducible exact Lt.mono (by assumption) (by decide)) | (simp only [Cs.len]; done) | rfl)) fnok41 (up0 rfl rfl rfl) rfl rfl (.cons _ _ _ _ rfl (.cons _ _ _ _ rfl .nil)) (.cons _ _ _ _ (.same _) (.cons _ _ _ _ (.same _) .nil)) rfl rfl) rfl ?_
        refine OpsFrom.v (Y.move (up0 rfl rfl rfl) rfl rfl) rfl ?_
        refine OpsFrom.v (Y.ext0 (up0 rfl rfl rfl) rfl rfl) rfl ?_
        refine OpsFrom.v (Y.ext1 (up0 rfl rfl rfl) rfl rfl) rfl ?_
        refine OpsFrom.u (Y.alloc (d := 7) ty22 rfl rfl (up0 rfl rfl rfl) rfl) rfl rfl rfl ?_
        refine OpsFrom.n (Y.stR ty22 (upN rfl rfl) rfl rfl rfl rfl rfl (by first | (with_reducible assumption) | omega | (simp only [lens, lshr_l, *]; first | done | omega) | decide | (split <;> simp only [lens, lshr_l, *]) | (with_reducible exact Lt.mono (by assumption) (by decide)) | (simp only [Cs.len]; done) | rfl) (by first | (with_reducible assumption) | omega | (simp only [lens, lshr_l, *]; first | done | omega) | decide | (split <;> simp only [lens, lshr_l, *]) | (with_reducible exact Lt.mono (by assumption) (by decide)) | (simp only [Cs.len]; done) | rfl) (by decide)) rfl rfl ?_
        refine OpsFrom.v (Y.assign (up0 rfl rfl rfl) rfl rfl) rfl ?_
        refine OpsFrom.nil ?_
        refine Holds.seq ?_
        refine Holds.reg ?_
        refine OpsFrom.v (Y.move (up0 rfl rfl rfl) rfl rfl) rfl ?_
        refine OpsFrom.v (Y.move (up0 rfl rfl rfl) rfl rfl) rfl ?_
        refine OpsFrom.v (Y.ldAll ty22 rfl (up1 rfl rfl rfl rfl rfl rfl) rfl rfl rfl (by first | (with_reducible assumption) | omega | (simp only [lens, lshr_l, *]; first | done | omega) | decide | (split <;> simp only [lens, lshr_l, *]) | (with_reducible exact Lt.mono (by assumption) (by decide)) | (simp only [Cs.len]; done) | rfl) (by decide)) rfl ?_
        refine OpsFrom.v (Y.buildA ty22 ty5 rfl (up1 rfl rfl rfl rfl rfl rfl) rfl (.nil _)) rfl ?_
        refine OpsFrom.v (Doing.isB (c := true) (decide_eq_true (by first | exact (zer0 l_a).1 | exact (zer1 l_a).1 | exact (zer2 l_a).1 | exact (zer3 l_a).1 | exact (zer4 l_a).1)) (Y.eqR ty22 ty5 (by kernel_rfl) (up1 rfl rfl rfl rfl rfl rfl) rfl rfl rfl (by first | (with_reducible assumption) | omega | (simp only [lens, lshr_l, *]; first | done | omega) | decide | (split <;> simp only [lens, lshr_l, *]) | (with_reducible exact Lt.mono (by assumption) (by decide)) | (simp only [Cs.len]; done) | rfl) (by first | (with_reducible assumption) | omega | (simp only [lens, lshr_l, *]; first | done | omega) | decide | (split <;> simp only [lens, lshr_l, *]) | (with_reducible exact Lt.mono (by assumption) (by decide)) | (simp only [Cs.len]; done) | rfl))) rfl ?_
        refine OpsFrom.v (Y.pickT (up0 rfl rfl rfl) rfl rfl rfl) rfl ?_
        refine OpsFrom.v (Y.move (up0 rfl rfl rfl) rfl rfl) rfl ?_
        refine OpsFrom.v (Y.move (up1 rfl rfl rfl rfl rfl rfl) rfl rfl) rfl ?_
        refine OpsFrom.v (Doing.isB (c := true) (by first | (rw [(zer0 l_a).2]; rfl) | (rw [(zer1 l_a).2]; rfl) | (rw [(zer2 l_a).2]; rfl) | (rw [(zer3 l_a).2]; rfl) | (rw [(zer4 l_a).2]; rfl)) (Y.not (up1 rfl rfl rfl rfl rfl rfl) rfl rfl)) rfl ?_
        refine OpsFrom.v (Y.pickT (up0 rfl rfl rfl) rfl rfl rfl) rfl ?_
        refine OpsFrom.v (Y.assign (up0 rfl rfl rfl) rfl rfl) rfl ?_
        refine OpsFrom.nil ?_
        refine Holds.ret ?_
        exact Holds.ret1 (.inl rfl) rfl (.tmp _ _ rfl) (.same _) rfl
      · refine Holds.seq ?_
        refine Holds.reg ?_
        refine OpsFrom.v (Y.eql (b := 4) (up0 rfl rfl rfl) rfl rfl rfl) rfl ?_
        refine OpsFrom.v (Y.assign (up0 rfl rfl rfl) rfl rfl) rfl ?_
        refine OpsFrom.nil ?_
        refine Holds.condD rfl (fun h25 => ?_) (fun h25 => ?_)
        · refine Holds.reg ?_
          refine OpsFrom.v (Y.buildA ty22 ty5 rfl (up0 rfl rfl rfl) rfl (.cons _ _ _ _ _ _ (.one (.n .u8 95)) _ _ rfl rfl rfl rfl (Spl.n (by first | decide | (simp; done))) (.cons _ _ _ _ _ _ (.one (.n .u8 156)) _ _ rfl rfl rfl rfl (Spl.n (by first | decide | (simp; done))) (.cons _ _ _ _ _ _ (.one (.n .u8 149)) _ _ rfl rfl rfl rfl (Spl.n (by first | decide | (simp; done))) (.cons _ _ _ _ _ _ (.one (.n .u8 188)) _ _ rfl rfl rfl rfl (Spl.n (by first | decide | (simp; done))) (.cons _ _ _ _ _ _ (.one (.n .u8 163)) _ _ rfl rfl rfl rfl (Spl.n (by first | decide | (simp; done))) (.cons _ _ _ _ _ _ (.one (.n .u8 80)) _ _ rfl rfl rfl rfl (Spl.n (by first | decide | (simp; done))) (.cons _ _ _ _ _ _ (.one (.n .u8 140)) _ _ rfl rfl rfl rfl (Spl.n (by first | decide | (simp; done))) (.cons _ _ _ _ _ _ (.one (.n .u8 36)) _ _ rfl rfl rfl rfl (Spl.n (by first | decide | (simp; done))) (.cons _ _ _ _ _ _ (.one (.n .u8 177)) _ _ rfl rfl rfl rfl (Spl.n (by first | decide | (simp; done))) (.cons _ _ _ _ _ _ (.one (.n .u8 208)) _ _ rfl rfl rfl rfl (Spl.n (by first | decide | (simp; done))) (.cons _ _ _ _ _ _ (.one (.n .u8 177)) _ _ rfl rfl rfl rfl (Spl.n (by first | decide | (simp; done))) (.cons _ _ _ _ _ _ (.one (.n .u8 85)) _ _ rfl rfl rfl rfl (Spl.n (by first | decide | (simp; done))) (.cons _ _ _ _ _ _ (.one (.n .u8 156)) _ _ rfl rfl rfl rfl (Spl.n (by first | decide | (simp; done))) (.cons _ _ _ _ _ _ (.one (.n .u8 131)) _ _ rfl rfl rfl rfl (Spl.n (by first | decide | (simp; done))) (.cons _ _ _ _ _ _ (.one (.n .u8 239)) _ _ rfl rfl rfl rfl (Spl.n (by first | decide | (simp; done))) (.cons _ _ _ _ _ _ (.one (.n .u8 91)) _ _ rfl rfl rfl rfl (Spl.n (by first | decide | (simp; done))) (.cons _ _ _ _ _ _ (.one (.n .u8 4)) _ _ rfl rfl rfl rfl (Spl.n (by first | decide | (simp; done))) (.cons _ _ _ _ _ _ (.one (.n .u8 68)) _ _ rfl rfl rfl rfl (Spl.n (by first | decide | (simp; done))) (.cons _ _ _ _ _ _ (.one (.n .u8 92)) _ _ rfl rfl rfl rfl (Spl.n (by first | decide | (simp; done))) (.cons _ _ _ _ _ _ (.one (.n .u8 196)) _ _ rfl rfl rfl rfl (Spl.n (by first | decide | (simp; done))) (.cons _ _ _ _ _ _ (.one (.n .u8 88)) _ _ rfl rfl rfl rfl (Spl.n (by first | decide | (simp; done))) (.cons _ _ _ _ _ _ (.one (.n .u8 28)) _ _ rfl rfl rfl rfl (Spl.n (by first | decide | (simp; done))) (.cons _ _ _ _ _ _ (.one (.n .u8 142)) _ _ rfl rfl rfl rfl (Spl.n (by first | decide | (simp; done))) (.cons _ _ _ _ _ _ (.one (.n .u8 134)) _ _ rfl rfl rfl rfl (Spl.n (by first | decide | (simp; done))) (.cons _ _ _ _ _ _ (.one (.n .u8 216)) _ _ rfl rfl rfl rfl (Spl.n (by first | decide | (simp; done))) (.cons _ _ _ _ _ _ (.one (.n .u8 34)) _ _ rfl rfl rfl rfl (Spl.n (by first | decide | (simp; done))) (.cons _ _ _ _ _ _ (.one (.n .u8 78)) _ _ rfl rfl rfl rfl (Spl.n (by first | decide | (simp; done))) (.cons _ _ _ _ _ _ (.one (.n .u8 221)) _ _ rfl rfl rfl rfl (Spl.n (by first | decide | (simp; done))) (.cons _ _ _ _ _ _ (.one (.n .u8 208)) _ _ rfl rfl rfl rfl (Spl.n (by first | decide | (simp; done))) (.cons _ _ _ _ _ _ (.one (.n .u8 159)) _ _ rfl rfl rfl rfl (Spl.n (by first | decide | (simp; done))) (.cons _ _ _ _ _ _ (.one (.n .u8 17)) _ _ rfl rfl rfl rfl (Spl.n (by first | decide | (simp; done))) (.cons _ _ _ _ _ _ (.one (.n .u8 87)) _ _ rfl rfl rfl rfl (Spl.n (by first | decide | (simp; done))) (.nil _)))))))))))))))))))))))))))))))))) rfl ?_
          refine OpsFrom.n (Y.stR ty22 (upN rfl rfl) rfl rfl rfl rfl rfl (by first | (with_reducible assumption) | omega | (simp only [lens, *]; first | done | omega) | decide | (split <;> simp only [lens, *]) | (with_reducible exact Lt.mono (by assumption) (by decide)) | (simp only [Cs.len]; done) | rfl) (by first | (with_reducible assumption) | omega | (simp only [lens, *]; first | done | omega) | decide | (split <;> simp only [lens, *]) | (with_reducible exact Lt.mono (by assumption) (by decide)) | (simp only [Cs.len]; done) | rfl) (by decide)) rfl rfl ?_
          refine OpsFrom.nil ?_
          refine Holds.seq ?_
          refine Holds.reg ?_
          refine OpsFrom.v (Y.ldAll ty22 rfl (up0 rfl rfl rfl) rfl rfl rfl (by first | (with_reducible assumption) | omega | (simp only [lens, *]; first | done | omega) | decide | (split <;> simp only [lens, *]) | (with_reducible exact Lt.mono (by assumption) (by decide)) | (simp only [Cs.len]; done) | rfl) (by decide)) rfl ?_
          refine OpsFrom.v (Y.ldAll ty22 rfl (up0 rfl rfl rfl) rfl rfl rfl (by first | (with_reducible assumption) | omega | (simp only [lens, *]; first | done | omega) | decide | (split <;> simp only [lens, *]) | (with_reducible exact Lt.mono (by assumption) (by decide)) | (simp only [Cs.len]; done) | rfl) (by decide)) rfl ?_
          refine OpsFrom.v (Y.callV (w_lshr _ _ (by first | (with_reducible assumption) | omega | (simp only [lens, lshr_l, *]; first | done | omega) | decide | (split <;> simp only [lens, lshr_l, *]) | (with_reducible exact Lt.mono (by assumption) (by decide)) | (simp only [Cs.len]; done) | rfl) (by first | (with_reducible assumption) | omega | (simp only [lens, lshr_l, *]; first | done | omega) | decide | (split <;> simp only [lens, lshr_l, *]) | (with_reducible exact Lt.mono (by assumption) (by decide)) | (simp only [Cs.len]; done) | rfl)) fnok41 (up0 rfl rfl rfl) rfl rfl (.cons _ _ _ _ rfl (.cons _ _ _ _ rfl .nil)) (.cons _ _ _ _ (.same _) (.cons _ _ _ _ (.same _) .nil)) rfl rfl) rfl ?_
          refine OpsFrom.v (Y.move (up0 rfl rfl rfl) rfl rfl) rfl ?_
          refine OpsFrom.v (Y.ext0 (up0 rfl rfl rfl) rfl rfl) rfl ?_
          refine OpsFrom.v (Y.ext1 (up0 rfl rfl rfl) rfl rfl) rfl ?_
          refine OpsFrom.u (Y.alloc (d := 7) ty22 rfl rfl (up0 rfl rfl rfl) rfl) rfl rfl rfl ?_
          refine OpsFrom.n (Y.stR ty22 (upN rfl rfl) rfl rfl rfl rfl rfl (by first | (with_reducible assumption) | omega | (simp only [lens, lshr_l, *]; first | done | omega) | decide | (split <;> simp only [lens, lshr_l, *]) | (with_reducible exact Lt.mono (by assumption) (by decide)) | (simp only [Cs.len]; done) | rfl) (by first | (with_reducible assumption) | omega | (simp only [lens, lshr_l, *]; first | done | omega) | decide | (split <;> simp only [lens, lshr_l, *]) | (with_reducible exact Lt.mono (by assumption) (by decide)) | (simp only [Cs.len]; done) | rfl) (by decide)) rfl rfl ?_
          refine OpsFrom.v (Y.assign (up0 rfl rfl rfl) rfl rfl) rfl ?_
          refine OpsFrom.nil ?_
          refine Holds.seq ?_
          refine Holds.reg ?_
          refine OpsFrom.v (Y.move (up0 rfl rfl rfl) rfl rfl) rfl ?_
          refine OpsFrom.v (Y.move (up0 rfl rfl rfl) rfl rfl) rfl ?_
          refine OpsFrom.v (Y.ldAll ty22 rfl (up1 rfl rfl rfl rfl rfl rfl) rfl rfl rfl (by first | (with_reducible assumption) | omega | (simp only [lens, lshr_l, *]; first | done | omega) | decide | (split <;> simp only [lens, lshr_l, *]) | (with_reducible exact Lt.mono (by assumption) (by decide)) | (simp only [Cs.len]; done) | rfl) (by decide)) rfl ?_
          refine OpsFrom.v (Y.buildA ty22 ty5 rfl (up1 rfl rfl rfl rfl rfl rfl) rfl (.nil _)) rfl ?_
          refine OpsFrom.v (Doing.isB (c := true) (decide_eq_true (by first | exact (zer0 l_a).1 | exact (zer1 l_a).1 | exact (zer2 l_a).1 | exact (zer3 l_a).1 | exact (zer4 l_a).1)) (Y.eqR ty22 ty5 (by kernel_rfl) (up1 rfl rfl rfl rfl rfl rfl) rfl rfl rfl (by first | (with_reducible assumption) | omega | (simp only [lens, lshr_l, *]; first | done | omega) | decide | (split <;> simp only [lens, lshr_l, *]) | (with_reducible exact Lt.mono (by assumption) (by decide)) | (simp only [Cs.len]; done) | rfl) (by first | (with_reducible assumption) | omega | (simp only [lens, lshr_l, *]; first | done | omega) | decide | (split <;> simp only [lens, lshr_l, *]) | (with_reducible exact Lt.mono (by assumption) (by decide)) | (simp only [Cs.len]; done) | rfl))) rfl ?_
          refine OpsFrom.v (Y.pickT (up0 rfl rfl rfl) rfl rfl rfl) rfl ?_
          refine OpsFrom.v (Y.move (up0 rfl rfl rfl) rfl rfl) rfl ?_
          refine OpsFrom.v (Y.move (up1 rfl rfl rfl rfl rfl rfl) rfl rfl) rfl ?_
          refine OpsFrom.v (Doing.isB (c := true) (by first | (rw [(zer0 l_a).2]; rfl) | (rw [(zer1 l_a).2]; rfl) | (rw [(zer2 l_a).2]; rfl) | (rw [(zer3 l_a).2]; rfl) | (rw [(zer4 l_a).2]; rfl)) (Y.not (up1 rfl rfl rfl rfl rfl rfl) rfl rfl)) rfl ?_
          refine OpsFrom.v (Y.pickT (up0 rfl rfl rfl) rfl rfl rfl) rfl ?_
          refine OpsFrom.v (Y.assign (up0 rfl rfl rfl) rfl rfl) rfl ?_
          refine OpsFrom.nil ?_
          refine Holds.ret ?_
          exact Holds.ret1 (.inl rfl) rfl (.tmp _ _ rfl) (.same _) rfl
        · refine Holds.skip ?_
          refine Holds.seq ?_
          refine Holds.reg ?_
          refine OpsFrom.v (Y.ldAll ty22 rfl (up0 rfl rfl rfl) rfl rfl rfl (by first | (with_reducible assumption) | omega | (simp only [lens, *]; first | done | omega) | decide | (split <;> simp only [lens, *]) | (with_reducible exact Lt.mono (by assumption) (by decide)) | (simp only [Cs.len]; done) | rfl) (by decide)) rfl ?_
          refine OpsFrom.v (Y.ldAll ty22 rfl (up0 rfl rfl rfl) rfl rfl rfl (by first | (with_reducible assumption) | omega | (simp only [lens, *]; first | done | omega) | decide | (split <;> simp only [lens, *]) | (with_reducible exact Lt.mono (by assumption) (by decide)) | (simp only [Cs.len]; done) | rfl) (by decide)) rfl ?_
          refine OpsFrom.v (Y.callV (w_lshr _ _ (by first | (with_reducible assumption) | omega | (simp only [lens, lshr_l, *]; first | done | omega) | decide | (split <;> simp only [lens, lshr_l, *]) | (with_reducible exact Lt.mono (by assumption) (by decide)) | (simp only [Cs.len]; done) | rfl) (by first | (with_reducible assumption) | omega | (simp only [lens, lshr_l, *]; first | done | omega) | decide | (split <;> simp only [lens, lshr_l, *]) | (with_reducible exact Lt.mono (by assumption) (by decide)) | (simp only [Cs.len]; done) | rfl)) fnok41 (up0 rfl rfl rfl) rfl rfl (.cons _ _ _ _ rfl (.cons _ _ _ _ rfl .nil)) (.cons _ _ _ _ (.same _) (.cons _ _ _ _ (.same _) .nil)) rfl rfl) rfl ?_
          refine OpsFrom.v (Y.move (up0 rfl rfl rfl) rfl rfl) rfl ?_
          refine OpsFrom.v (Y.ext0 (up0 rfl rfl rfl) rfl rfl) rfl ?_
          refine OpsFrom.v (Y.ext1 (up0 rfl rfl rfl) rfl rfl) rfl ?_
          refine OpsFrom.u (Y.alloc (d := 7) ty22 rfl rfl (up0 rfl rfl rfl) rfl) rfl rfl rfl ?_
          refine OpsFrom.n (Y.stR ty22 (upN rfl rfl) rfl rfl rfl rfl rfl (by first | (with_reducible assumption) | omega | (simp only [lens, lshr_l, *]; first | done | omega) | decide | (split <;> simp only [lens, lshr_l, *]) | (with_reducible exact Lt.mono (by assumption) (by decide)) | (simp only [Cs.len]; done) | rfl) (by first | (with_reducible assumption) | omega | (simp only [lens, lshr_l, *]; first | done | omega) | decide | (split <;> simp only [lens, lshr_l, *]) | (with_reducible exact Lt.mono (by assumption) (by decide)) | (simp only [Cs.len]; done) | rfl) (by decide)) rfl rfl ?_
          refine OpsFrom.v (Y.assign (up0 rfl rfl rfl) rfl rfl) rfl ?_
          refine OpsFrom.nil ?_
          refine Holds.seq ?_
          refine Holds.reg ?_
          refine OpsFrom.v (Y.move (up0 rfl rfl rfl) rfl rfl) rfl ?_
          refine OpsFrom.v (Y.move (up0 rfl rfl rfl) rfl rfl) rfl ?_
          refine OpsFrom.v (Y.ldAll ty22 rfl (up1 rfl rfl rfl rfl rfl rfl) rfl rfl rfl (by first | (with_reducible assumption) | omega | (simp only [lens, lshr_l, *]; first | done | omega) | decide | (split <;> simp only [lens, lshr_l, *]) | (with_reducible exact Lt.mono (by assumption) (by decide)) | (simp only [Cs.len]; done) | rfl) (by decide)) rfl ?_
          refine OpsFrom.v (Y.buildA ty22 ty5 rfl (up1 rfl rfl rfl rfl rfl rfl) rfl (.nil _)) rfl ?_
          refine OpsFrom.v (Doing.isB (c := true) (decide_eq_true (by first | exact (zer0 l_a).1 | exact (zer1 l_a).1 | exact (zer2 l_a).1 | exact (zer3 l_a).1 | exact (zer4 l_a).1)) (Y.eqR ty22 ty5 (by kernel_rfl) (up1 rfl rfl rfl rfl rfl rfl) rfl rfl rfl (by first | (with_reducible assumption) | omega | (simp only [lens, lshr_l, *]; first | done | omega) | decide | (split <;> simp only [lens, lshr_l, *]) | (with_reducible exact Lt.mono (by assumption) (by decide)) | (simp only [Cs.len]; done) | rfl) (by first | (with_reducible assumption) | omega | (simp only [lens, lshr_l, *]; first | done | omega) | decide | (split <;> simp only [lens, lshr_l, *]) | (with_reducible exact Lt.mono (by assumption) (by decide)) | (simp only [Cs.len]; done) | rfl))) rfl ?_
          refine OpsFrom.v (Y.pickT (up0 rfl rfl rfl) rfl rfl rfl) rfl ?_
          refine OpsFrom.v (Y.move (up0 rfl rfl rfl) rfl rfl) rfl ?_
          refine OpsFrom.v (Y.move (up1 rfl rfl rfl rfl rfl rfl) rfl rfl) rfl ?_
          refine OpsFrom.v (Doing.isB (c := true) (by first | (rw [(zer0 l_a).2]; rfl) | (rw [(zer1 l_a).2]; rfl) | (rw [(zer2 l_a).2]; rfl) | (rw [(zer3 l_a).2]; rfl) | (rw [(zer4 l_a).2]; rfl)) (Y.not (up1 rfl rfl rfl rfl rfl rfl) rfl rfl)) rfl ?_
          refine OpsFrom.v (Y.pickT (up0 rfl rfl rfl) rfl rfl rfl) rfl ?_
          refine OpsFrom.v (Y.assign (up0 rfl rfl rfl) rfl rfl) rfl ?_
          refine OpsFrom.nil ?_
          refine Holds.ret ?_
          exact Holds.ret1 (.inl rfl) rfl (.tmp _ _ rfl) (.same _) rfl


end Go.Proofs.Ytnfiiclmbiiokaa
