/-
  Walks: chapter 18: the head, the numbers.
-/
import Derived.Test.YtkpelchcpiafaaaPh
namespace Go.Proofs.Ytkpelchcpiafaaa
open Go Go.Fx
set_option linter.unusedVariables false
set_option linter.unusedSimpArgs false
theorem w_sawake   : VC Try.prog 34 [] (.one (.b true)) := by
  refine VC.go Try.func34 rfl Try.ntmps34 rfl rfl fun O w => ?_
  refine Holds.seq ?_
  refine Holds.reg ?_
  refine OpsFrom.v (Y.assign (up0 rfl rfl rfl) rfl rfl) rfl ?_
  refine OpsFrom.nil ?_
  refine Holds.seq ?_
  refine Holds.reg ?_
  refine OpsFrom.v (Y.callV (w_count _ ) fnok36 (up0 rfl rfl rfl) rfl rfl (.cons _ _ (.one (.n .i64 0)) _ rfl .nil) (.cons _ _ _ _ (.same _) .nil) rfl rfl) rfl ?_
  refine OpsFrom.v (Y.move (up0 rfl rfl rfl) rfl rfl) rfl ?_
  refine OpsFrom.v (Y.ext0 (up0 rfl rfl rfl) rfl rfl) rfl ?_
  refine OpsFrom.v (Y.ext1 (up0 rfl rfl rfl) rfl rfl) rfl ?_
  refine OpsFrom.v (Y.assign (up0 rfl rfl rfl) rfl rfl) rfl ?_
  refine OpsFrom.v (Y.assign (up0 rfl rfl rfl) rfl rfl) rfl ?_
  refine OpsFrom.nil ?_
  refine Holds.seq ?_
  refine Holds.reg ?_
  refine OpsFrom.v (Y.callV (w_count _ ) fnok36 (up0 rfl rfl rfl) rfl rfl (.cons _ _ (.one (.n .i64 513)) _ rfl .nil) (.cons _ _ _ _ (.same _) .nil) rfl rfl) rfl ?_
  refine OpsFrom.v (Y.move (up0 rfl rfl rfl) rfl rfl) rfl ?_
  refine OpsFrom.v (Y.ext0 (up0 rfl rfl rfl) rfl rfl) rfl ?_
  refine OpsFrom.v (Y.ext1 (up0 rfl rfl rfl) rfl rfl) rfl ?_
  refine OpsFrom.v (Y.assign (up0 rfl rfl rfl) rfl rfl) rfl ?_
  refine OpsFrom.v (Y.assign (up0 rfl rfl rfl) rfl rfl) rfl ?_
  refine OpsFrom.nil ?_
  refine Holds.seq ?_
  refine Holds.reg ?_
  refine OpsFrom.v (Y.callV (w_nonce _ _ ) fnok35 (up0 rfl rfl rfl) rfl rfl (.cons _ _ (.one (.n .u64 258)) _ rfl (.cons _ _ _ _ rfl .nil)) (.cons _ _ _ _ (.same _) (.cons _ _ _ _ (.same _) .nil)) rfl rfl) rfl ?_
  refine OpsFrom.u (Y.alloc (d := 5) ty25 rfl rfl (up0 rfl rfl rfl) rfl) rfl rfl rfl ?_
  refine OpsFrom.n (Y.stR ty25 (upN rfl rfl) rfl rfl rfl rfl rfl (by first | (with_reducible assumption) | omega | (simp only [lens, nonce_len, *]; first | done | omega) | decide | (split <;> simp only [lens, nonce_len, *]) | (with_reducible exact Lt.mono (by assumption) (by decide)) | (simp only [Cs.len]; done) | rfl) (by first | (with_reducible assumption) | omega | (simp only [lens, nonce_len, *]; first | done | omega) | decide | (split <;> simp only [lens, nonce_len, *]) | (with_reducible exact Lt.mono (by assumption) (by decide)) | (simp only [Cs.len]; done) | rfl) (by decide)) rfl rfl ?_
  refine OpsFrom.nil ?_
  refine Holds.seq ?_
  refine Holds.reg ?_
  refine OpsFrom.v (Y.buildA ty23 ty5 rfl (up0 rfl rfl rfl) rfl (.cons _ _ _ _ _ _ (.one (.n .u8 1)) _ _ rfl rfl rfl rfl (Spl.n (by first | decide | (simp; done))) (.nil _))) rfl ?_
  refine OpsFrom.u (Y.bldS (d := 23) ty26 ty5 rfl (up0 rfl rfl rfl) rfl (.ints .u8 (List.replicate 1 0)) rfl rfl rfl rfl (by decide) (by decide) (.cons _ _ _ _ _ _ (.one (.n .u8 120)) _ _ rfl rfl rfl rfl (Spl.n (by first | decide | (simp; done))) (.nil _))) rfl rfl rfl ?_
  refine OpsFrom.u (Y.cvS ty26 ty5 (up0 rfl rfl rfl) rfl rfl rfl (by decide)) rfl rfl rfl ?_
  refine OpsFrom.u (Y.bldS (d := 25) ty26 ty5 rfl (up0 rfl rfl rfl) rfl (.ints .u8 (List.replicate 3 0)) rfl rfl rfl rfl (by decide) (by decide) (.cons _ _ _ _ _ _ (.one (.n .u8 97)) _ _ rfl rfl rfl rfl (Spl.n (by first | decide | (simp; done))) (.cons _ _ _ _ _ _ (.one (.n .u8 98)) _ _ rfl rfl rfl rfl (Spl.n (by first | decide | (simp; done))) (.cons _ _ _ _ _ _ (.one (.n .u8 99)) _ _ rfl rfl rfl rfl (Spl.n (by first | decide | (simp; done))) (.nil _))))) rfl rfl rfl ?_
  refine OpsFrom.u (Y.cvS ty26 ty5 (up0 rfl rfl rfl) rfl rfl rfl (by decide)) rfl rfl rfl ?_
  refine OpsFrom.u (Y.callF (d := 27) (w_seal1 _ _ _ (by first | (with_reducible assumption) | omega | (simp only [lens, nonce_len, *]; first | done | omega) | decide | (split <;> simp only [lens, nonce_len, *]) | (with_reducible exact Lt.mono (by assumption) (by decide)) | (simp only [Cs.len]; done) | rfl) (by first | (with_reducible assumption) | omega | (simp only [lens, nonce_len, *]; first | done | omega) | decide | (split <;> simp only [lens, nonce_len, *]) | (with_reducible exact Lt.mono (by assumption) (by decide)) | (simp only [Cs.len]; done) | rfl) (by first | (with_reducible assumption) | omega | (simp only [lens, nonce_len, *]; first | done | omega) | decide | (split <;> simp only [lens, nonce_len, *]) | (with_reducible exact Lt.mono (by assumption) (by decide)) | (simp only [Cs.len]; done) | rfl)) fnok37 (up0 rfl rfl rfl) rfl rfl (.cons _ _ _ _ rfl (.cons _ _ _ _ rfl (.cons _ _ _ _ rfl .nil))) (.cons _ _ _ _ (.same _) (.cons _ _ _ _ (.all rfl (by first | (with_reducible assumption) | omega | (simp only [lens, nonce_len, *]; first | done | omega) | decide | (split <;> simp only [lens, nonce_len, *]) | (with_reducible exact Lt.mono (by assumption) (by decide)) | (simp only [Cs.len]; done) | rfl)) (.cons _ _ _ _ (.all rfl (by first | (with_reducible assumption) | omega | (simp only [lens, nonce_len, *]; first | done | omega) | decide | (split <;> simp only [lens, nonce_len, *]) | (with_reducible exact Lt.mono (by assumption) (by decide)) | (simp only [Cs.len]; done) | rfl)) .nil))) rfl rfl rfl) rfl rfl rfl ?_
  refine OpsFrom.v (Y.move (up0 rfl rfl rfl) rfl rfl) rfl ?_
  refine OpsFrom.v (Y.ext0 (up0 rfl rfl rfl) rfl rfl) rfl ?_
  refine OpsFrom.v (Y.ext1 (up0 rfl rfl rfl) rfl rfl) rfl ?_
  refine OpsFrom.v (Y.assign (up0 rfl rfl rfl) rfl rfl) rfl ?_
  refine OpsFrom.v (Y.assign (up0 rfl rfl rfl) rfl rfl) rfl ?_
  refine OpsFrom.nil ?_
  refine Holds.seq ?_
  refine Holds.freezeV 6 27 rfl rfl (.all rfl (by first | (with_reducible assumption) | omega | (simp only [lens, nonce_len, *]; first | done | omega) | decide | (split <;> simp only [lens, nonce_len, *]) | (with_reducible exact Lt.mono (by assumption) (by decide)) | (simp only [Cs.len]; done) | rfl)) ?_
  refine Holds.reg ?_
  refine OpsFrom.v (Y.buildA ty23 ty5 rfl (up0 rfl rfl rfl) rfl (.cons _ _ _ _ _ _ (.one (.n .u8 1)) _ _ rfl rfl rfl rfl (Spl.n (by first | decide | (simp; done))) (.nil _))) rfl ?_
  refine OpsFrom.u (Y.bldS (d := 32) ty26 ty5 rfl (up0 rfl rfl rfl) rfl (.ints .u8 (List.replicate 1 0)) rfl rfl rfl rfl (by decide) (by decide) (.cons _ _ _ _ _ _ (.one (.n .u8 120)) _ _ rfl rfl rfl rfl (Spl.n (by first | decide | (simp; done))) (.nil _))) rfl rfl rfl ?_
  refine OpsFrom.u (Y.cvS ty26 ty5 (up0 rfl rfl rfl) rfl rfl rfl (by decide)) rfl rfl rfl ?_
  refine OpsFrom.v (Y.move (up0 rfl rfl rfl) rfl rfl) rfl ?_
  refine OpsFrom.freezeV 33 32 rfl rfl (.all rfl (by first | (with_reducible assumption) | omega | (simp only [lens, nonce_len, *]; first | done | omega) | decide | (split <;> simp only [lens, nonce_len, *]) | (with_reducible exact Lt.mono (by assumption) (by decide)) | (simp only [Cs.len]; done) | rfl)) ?_
  refine OpsFrom.v (Y.callW (w_open1 _ _ _ (by first | (with_reducible assumption) | omega | (simp only [lens, nonce_len, *]; first | done | omega) | decide | (split <;> simp only [lens, nonce_len, *]) | (with_reducible exact Lt.mono (by assumption) (by decide)) | (simp only [Cs.len]; done) | rfl) (by first | (with_reducible assumption) | omega | (simp only [lens, nonce_len, *]; first | done | omega) | decide | (split <;> simp only [lens, nonce_len, *]) | (with_reducible exact Lt.mono (by assumption) (by decide)) | (simp only [Cs.len]; done) | rfl) (by first | (with_reducible assumption) | omega | (simp only [lens, nonce_len, *]; first | done | omega) | decide | (split <;> simp only [lens, nonce_len, *]) | (with_reducible exact Lt.mono (by assumption) (by decide)) | (simp only [Cs.len]; done) | rfl)) fnok44 (up0 rfl rfl rfl) rfl rfl (.cons _ _ _ _ rfl (.cons _ _ _ _ rfl (.cons _ _ _ _ rfl .nil))) (.cons _ _ _ _ (.same _) (.cons _ _ _ _ (.same _) (.cons _ _ _ _ (.same _) .nil))) rfl rfl) rfl ?_
  refine OpsFrom.v (Y.move (up0 rfl rfl rfl) rfl rfl) rfl ?_
  refine OpsFrom.v (Y.ext0 (up0 rfl rfl rfl) rfl rfl) rfl ?_
  refine OpsFrom.v (Y.ext1 (up0 rfl rfl rfl) rfl rfl) rfl ?_
  refine OpsFrom.v (Y.assign (up0 rfl rfl rfl) rfl rfl) rfl ?_
  refine OpsFrom.v (Y.assign (up0 rfl rfl rfl) rfl rfl) rfl ?_
  refine OpsFrom.nil ?_
  refine Holds.seq ?_
  refine Holds.reg ?_
  refine OpsFrom.v (Y.buildA ty23 ty5 rfl (up0 rfl rfl rfl) rfl (.cons _ _ _ _ _ _ (.one (.n .u8 1)) _ _ rfl rfl rfl rfl (Spl.n (by first | decide | (simp; done))) (.nil _))) rfl ?_
  refine OpsFrom.v (Y.callW (w_open1 _ _ _ (by first | (with_reducible assumption) | omega | (simp only [lens, nonce_len, *]; first | done | omega) | decide | (split <;> simp only [lens, nonce_len, *]) | (with_reducible exact Lt.mono (by assumption) (by decide)) | (simp only [Cs.len]; done) | rfl) (by first | (with_reducible assumption) | omega | (simp only [lens, nonce_len, *]; first | done | omega) | decide | (split <;> simp only [lens, nonce_len, *]) | (with_reducible exact Lt.mono (by assumption) (by decide)) | (simp only [Cs.len]; done) | rfl) (by first | (with_reducible assumption) | omega | (simp only [lens, nonce_len, *]; first | done | omega) | decide | (split <;> simp only [lens, nonce_len, *]) | (with_reducible exact Lt.mono (by assumption) (by decide)) | (simp only [Cs.len]; done) | rfl)) fnok44 (up0 rfl rfl rfl) rfl rfl (.cons _ _ _ _ rfl (.cons _ _ _ _ rfl (.cons _ _ _ _ rfl .nil))) (.cons _ _ _ _ (.same _) (.cons _ _ _ _ (.nilB _ _) (.cons _ _ _ _ (.nilB _ _) .nil))) rfl rfl) rfl ?_
  refine OpsFrom.v (Y.move (up0 rfl rfl rfl) rfl rfl) rfl ?_
  refine OpsFrom.v (Y.ext0 (up0 rfl rfl rfl) rfl rfl) rfl ?_
  refine OpsFrom.v (Y.ext1 (up0 rfl rfl rfl) rfl rfl) rfl ?_
  refine OpsFrom.v (Y.assign (up0 rfl rfl rfl) rfl rfl) rfl ?_
  refine OpsFrom.v (Y.assign (up0 rfl rfl rfl) rfl rfl) rfl ?_
  refine OpsFrom.nil ?_
  refine Holds.seq ?_
  refine Holds.reg ?_
  refine OpsFrom.v (Y.move (up0 rfl rfl rfl) rfl rfl) rfl ?_
  refine OpsFrom.v (Doing.isB (c := true) (by kernel_rfl) (Y.eql (b := 1) (up0 rfl rfl rfl) rfl rfl rfl)) rfl ?_
  refine OpsFrom.v (Y.move (up0 rfl rfl rfl) rfl rfl) rfl ?_
  refine OpsFrom.v (Y.move (up1 rfl rfl rfl rfl rfl rfl) rfl rfl) rfl ?_
  refine OpsFrom.v (Doing.isB (c := true) (by kernel_rfl) (Y.eql (b := 16) (up1 rfl rfl rfl rfl rfl rfl) rfl rfl rfl)) rfl ?_
  refine OpsFrom.v (Y.pickT (up0 rfl rfl rfl) rfl rfl rfl) rfl ?_
  refine OpsFrom.v (Y.move (up0 rfl rfl rfl) rfl rfl) rfl ?_
  refine OpsFrom.v (Y.move (up1 rfl rfl rfl rfl rfl rfl) rfl rfl) rfl ?_
  refine OpsFrom.v (Doing.isB (c := true) (by kernel_rfl) (Y.eql (b := 2) (up1 rfl rfl rfl rfl rfl rfl) rfl rfl rfl)) rfl ?_
  refine OpsFrom.v (Y.pickT (up0 rfl rfl rfl) rfl rfl rfl) rfl ?_
  refine OpsFrom.v (Y.move (up0 rfl rfl rfl) rfl rfl) rfl ?_
  refine OpsFrom.v (Y.move (up1 rfl rfl rfl rfl rfl rfl) rfl rfl) rfl ?_
  refine OpsFrom.v (Doing.isB (c := true) (by kernel_rfl) (Y.eql (b := 545) (up1 rfl rfl rfl rfl rfl rfl) rfl rfl rfl)) rfl ?_
  refine OpsFrom.v (Y.pickT (up0 rfl rfl rfl) rfl rfl rfl) rfl ?_
  refine OpsFrom.v (Y.move (up0 rfl rfl rfl) rfl rfl) rfl ?_
  refine OpsFrom.v (Y.ldAll ty25 rfl (up1 rfl rfl rfl rfl rfl rfl) rfl rfl rfl (by first | (with_reducible assumption) | omega | (simp only [lens, nonce_len, *]; first | done | omega) | decide | (split <;> simp only [lens, nonce_len, *]) | (with_reducible exact Lt.mono (by assumption) (by decide)) | (simp only [Cs.len]; done) | rfl) (by decide)) rfl ?_
  refine OpsFrom.v (Y.buildA ty25 ty5 rfl (up1 rfl rfl rfl rfl rfl rfl) rfl (.cons _ _ _ _ _ _ (.one (.n .u8 1)) _ _ rfl rfl rfl rfl (Spl.n (by first | decide | (simp; done))) (.cons _ _ _ _ _ _ (.one (.n .u8 2)) _ _ rfl rfl rfl rfl (Spl.n (by first | decide | (simp; done))) (.cons _ _ _ _ _ _ (.one (.n .u8 1)) _ _ rfl rfl rfl rfl (Spl.n (by first | decide | (simp; done))) (.nil _))))) rfl ?_
  refine OpsFrom.v (Doing.isB (c := true) (by kernel_rfl) (Y.eqR ty25 ty5 (by kernel_rfl) (up1 rfl rfl rfl rfl rfl rfl) rfl rfl rfl (by first | (with_reducible assumption) | omega | (simp only [lens, nonce_len, *]; first | done | omega) | decide | (split <;> simp only [lens, nonce_len, *]) | (with_reducible exact Lt.mono (by assumption) (by decide)) | (simp only [Cs.len]; done) | rfl) (by first | (with_reducible assumption) | omega | (simp only [lens, nonce_len, *]; first | done | omega) | decide | (split <;> simp only [lens, nonce_len, *]) | (with_reducible exact Lt.mono (by assumption) (by decide)) | (simp only [Cs.len]; done) | rfl))) rfl ?_
  refine OpsFrom.v (Y.pickT (up0 rfl rfl rfl) rfl rfl rfl) rfl ?_
  refine OpsFrom.v (Y.move (up0 rfl rfl rfl) rfl rfl) rfl ?_
  refine OpsFrom.v (Y.move (up1 rfl rfl rfl rfl rfl rfl) rfl rfl) rfl ?_
  refine OpsFrom.v (Y.len ty26 (up1 rfl rfl rfl rfl rfl rfl) rfl rfl rfl rfl) rfl ?_
  refine OpsFrom.v (Doing.isB (c := true) (decide_eq_true (seal1_l19 (by rfl) (by rfl))) (Y.eql (b := 19) (up1 rfl rfl rfl rfl rfl rfl) rfl rfl rfl)) rfl ?_
  refine OpsFrom.v (Y.pickT (up0 rfl rfl rfl) rfl rfl rfl) rfl ?_
  refine OpsFrom.v (Y.move (up0 rfl rfl rfl) rfl rfl) rfl ?_
  refine OpsFrom.v (Y.move (up1 rfl rfl rfl rfl rfl rfl) rfl rfl) rfl ?_
  refine OpsFrom.v (Doing.isB (c := true) (decide_eq_true rfl) (Y.eql (b := 0) (up1 rfl rfl rfl rfl rfl rfl) rfl rfl rfl)) rfl ?_
  refine OpsFrom.v (Y.pickT (up0 rfl rfl rfl) rfl rfl rfl) rfl ?_
  refine OpsFrom.v (Y.move (up0 rfl rfl rfl) rfl rfl) rfl ?_
  refine OpsFrom.v (Y.move (up1 rfl rfl rfl rfl rfl rfl) rfl rfl) rfl ?_
  refine OpsFrom.v (Y.str ty26 ty5 ty9 (up1 rfl rfl rfl rfl rfl rfl) rfl rfl (.same _)) rfl ?_
  refine OpsFrom.v (Doing.isB (c := true) (decide_eq_true (congrArg Prod.fst (open1_seal1 (by rfl) (by decide)))) (Y.eqS (up1 rfl rfl rfl rfl rfl rfl) rfl rfl rfl)) rfl ?_
  refine OpsFrom.v (Y.pickT (up0 rfl rfl rfl) rfl rfl rfl) rfl ?_
  refine OpsFrom.v (Y.move (up0 rfl rfl rfl) rfl rfl) rfl ?_
  refine OpsFrom.v (Y.move (up1 rfl rfl rfl rfl rfl rfl) rfl rfl) rfl ?_
  refine OpsFrom.v (Doing.isB (c := true) (decide_eq_true (congrArg Prod.snd (open1_seal1 (by rfl) (by decide)))) (Y.eql (b := 0) (up1 rfl rfl rfl rfl rfl rfl) rfl rfl rfl)) rfl ?_
  refine OpsFrom.v (Y.pickT (up0 rfl rfl rfl) rfl rfl rfl) rfl ?_
  refine OpsFrom.v (Y.move (up0 rfl rfl rfl) rfl rfl) rfl ?_
  refine OpsFrom.v (Y.move (up1 rfl rfl rfl rfl rfl rfl) rfl rfl) rfl ?_
  refine OpsFrom.v (Doing.isB (c := true) (decide_eq_true (congrArg Prod.snd (open1_nil _ _))) (Y.eql (b := 180) (up1 rfl rfl rfl rfl rfl rfl) rfl rfl rfl)) rfl ?_
  refine OpsFrom.v (Y.pickT (up0 rfl rfl rfl) rfl rfl rfl) rfl ?_
  refine OpsFrom.v (Y.assign (up0 rfl rfl rfl) rfl rfl) rfl ?_
  refine OpsFrom.nil ?_
  refine Holds.ret ?_
  exact Holds.ret1 (.inl rfl) rfl (.tmp _ _ rfl) (.same _) rfl

theorem w_snames   : VC Try.prog 21 [] (.one (.b true)) := by
  refine VC.go Try.func21 rfl Try.ntmps21 rfl rfl fun O w => ?_
  refine Holds.seq ?_
  refine Holds.reg ?_
  refine OpsFrom.v (Y.assign (up0 rfl rfl rfl) rfl rfl) rfl ?_
  refine OpsFrom.nil ?_
  refine Holds.seq ?_
  refine Holds.reg ?_
  refine OpsFrom.v (Y.callV w_sawake fnok34 (up0 rfl rfl rfl) rfl rfl .nil .nil rfl rfl) rfl ?_
  refine OpsFrom.v (Y.assign (up0 rfl rfl rfl) rfl rfl) rfl ?_
  refine OpsFrom.nil ?_
  refine Holds.seq ?_
  refine Holds.reg ?_
  refine OpsFrom.v (Y.move (up0 rfl rfl rfl) rfl rfl) rfl ?_
  refine OpsFrom.v (Y.move (up0 rfl rfl rfl) rfl rfl) rfl ?_
  refine OpsFrom.v (Y.pickT (up0 rfl rfl rfl) rfl rfl rfl) rfl ?_
  refine OpsFrom.v (Y.move (up0 rfl rfl rfl) rfl rfl) rfl ?_
  refine OpsFrom.v (Y.pickT (up0 rfl rfl rfl) rfl rfl rfl) rfl ?_
  refine OpsFrom.v (Y.move (up0 rfl rfl rfl) rfl rfl) rfl ?_
  refine OpsFrom.v (Y.pickT (up0 rfl rfl rfl) rfl rfl rfl) rfl ?_
  refine OpsFrom.v (Y.assign (up0 rfl rfl rfl) rfl rfl) rfl ?_
  refine OpsFrom.nil ?_
  refine Holds.ret ?_
  exact Holds.ret1 (.inl rfl) rfl (.tmp _ _ rfl) (.same _) rfl


end Go.Proofs.Ytkpelchcpiafaaa
