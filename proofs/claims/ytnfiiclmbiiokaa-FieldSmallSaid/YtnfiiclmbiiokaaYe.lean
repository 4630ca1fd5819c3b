/-
  Walks: FieldSmall.
-/
import Derived.Test.YtnfiiclmbiiokaaXb
import Derived.Test.YtnfiiclmbiiokaaPi
namespace Go.Proofs.Ytnfiiclmbiiokaa
open Go Go.Fx
set_option linter.unusedVariables false
set_option linter.unusedSimpArgs false
theorem w_fsmall (a : Nat) (b : Nat)  : VC Try.prog 7 [.one (.n .u32 a), .one (.n .u32 b)] (.one (.b true)) := by
  refine VC.go Try.func7 rfl Try.ntmps7 rfl rfl fun O w => ?_
  refine Holds.ltN 0 rfl u32s u32m (fun ba => ?_)
  refine Holds.ltN 1 rfl u32s u32m (fun bb => ?_)
  refine Holds.seq ?_
  refine Holds.reg ?_
  refine OpsFrom.v (Y.assign (up0 rfl rfl rfl) rfl rfl) rfl ?_
  refine OpsFrom.nil ?_
  refine Holds.seq ?_
  refine Holds.reg ?_
  refine OpsFrom.v (Y.callV w_fawake fnok15 (up0 rfl rfl rfl) rfl rfl .nil .nil rfl rfl) rfl ?_
  refine OpsFrom.v (Y.assign (up0 rfl rfl rfl) rfl rfl) rfl ?_
  refine OpsFrom.nil ?_
  refine Holds.seq ?_
  refine Holds.reg ?_
  refine OpsFrom.v (Y.move (up0 rfl rfl rfl) rfl rfl) rfl ?_
  refine OpsFrom.v (Y.convUp ty52.u ty24.u rfl rfl (by decide) (up0 rfl rfl rfl) rfl rfl) rfl ?_
  refine OpsFrom.v (Y.callV (w_fword _ ) fnok33 (up0 rfl rfl rfl) rfl rfl (.cons _ _ _ _ rfl .nil) (.cons _ _ _ _ (.same _) .nil) rfl rfl) rfl ?_
  refine OpsFrom.u (Y.alloc (d := 6) ty27 rfl rfl (up0 rfl rfl rfl) rfl) rfl rfl rfl ?_
  refine OpsFrom.n (Y.stR ty27 (upN rfl rfl) rfl rfl rfl rfl rfl (by first | (with_reducible assumption) | omega | (simp only [lens, fword_l, *]; first | done | omega) | decide | (split <;> simp only [lens, fword_l, *]) | (with_reducible exact Lt.mono (by assumption) (by decide)) | (simp only [Cs.len]; done) | rfl) (by first | (with_reducible assumption) | omega | (simp only [lens, fword_l, *]; first | done | omega) | decide | (split <;> simp only [lens, fword_l, *]) | (with_reducible exact Lt.mono (by assumption) (by decide)) | (simp only [Cs.len]; done) | rfl) (by decide)) rfl rfl ?_
  refine OpsFrom.nil ?_
  refine Holds.seq ?_
  refine Holds.reg ?_
  refine OpsFrom.v (Y.move (up0 rfl rfl rfl) rfl rfl) rfl ?_
  refine OpsFrom.v (Y.convUp ty52.u ty24.u rfl rfl (by decide) (up0 rfl rfl rfl) rfl rfl) rfl ?_
  refine OpsFrom.v (Y.callV (w_fword _ ) fnok33 (up0 rfl rfl rfl) rfl rfl (.cons _ _ _ _ rfl .nil) (.cons _ _ _ _ (.same _) .nil) rfl rfl) rfl ?_
  refine OpsFrom.u (Y.alloc (d := 7) ty27 rfl rfl (up0 rfl rfl rfl) rfl) rfl rfl rfl ?_
  refine OpsFrom.n (Y.stR ty27 (upN rfl rfl) rfl rfl rfl rfl rfl (by first | (with_reducible assumption) | omega | (simp only [lens, fword_l, *]; first | done | omega) | decide | (split <;> simp only [lens, fword_l, *]) | (with_reducible exact Lt.mono (by assumption) (by decide)) | (simp only [Cs.len]; done) | rfl) (by first | (with_reducible assumption) | omega | (simp only [lens, fword_l, *]; first | done | omega) | decide | (split <;> simp only [lens, fword_l, *]) | (with_reducible exact Lt.mono (by assumption) (by decide)) | (simp only [Cs.len]; done) | rfl) (by decide)) rfl rfl ?_
  refine OpsFrom.nil ?_
  refine Holds.seq ?_
  refine Holds.reg ?_
  refine OpsFrom.v (Y.move (up0 rfl rfl rfl) rfl rfl) rfl ?_
  refine OpsFrom.v (Y.assign (up0 rfl rfl rfl) rfl rfl) rfl ?_
  refine OpsFrom.nil ?_
  refine Holds.seq ?_
  refine Holds.reg ?_
  refine OpsFrom.v (Y.move (up0 rfl rfl rfl) rfl rfl) rfl ?_
  refine OpsFrom.v (Y.assign (up0 rfl rfl rfl) rfl rfl) rfl ?_
  refine OpsFrom.nil ?_
  refine Holds.seq ?_
  refine Holds.seq ?_
  refine Holds.reg ?_
  refine OpsFrom.v (Y.move (up0 rfl rfl rfl) rfl rfl) rfl ?_
  refine OpsFrom.v (Y.move (up0 rfl rfl rfl) rfl rfl) rfl ?_
  refine OpsFrom.v (Y.lss (up0 rfl rfl rfl) rfl rfl rfl) rfl ?_
  refine OpsFrom.nil ?_
  refine Holds.condD rfl (fun h21 => ?_) (fun h21 => ?_)
  · refine Holds.seq ?_
    refine Holds.reg ?_
    refine OpsFrom.v (Y.move (up0 rfl rfl rfl) rfl rfl) rfl ?_
    refine OpsFrom.v (Y.assign (up0 rfl rfl rfl) rfl rfl) rfl ?_
    refine OpsFrom.nil ?_
    refine Holds.reg ?_
    refine OpsFrom.v (Y.move (up0 rfl rfl rfl) rfl rfl) rfl ?_
    refine OpsFrom.v (Y.assign (up0 rfl rfl rfl) rfl rfl) rfl ?_
    refine OpsFrom.nil ?_
    refine Holds.seq ?_
    refine Holds.reg ?_
    refine OpsFrom.v (Y.move (up0 rfl rfl rfl) rfl rfl) rfl ?_
    refine OpsFrom.v (Y.move (up0 rfl rfl rfl) rfl rfl) rfl ?_
    refine OpsFrom.v (Y.ldAll ty27 rfl (up1 rfl rfl rfl rfl rfl rfl) rfl rfl rfl (by first | (with_reducible assumption) | omega | (simp only [lens, fword_l, *]; first | done | omega) | decide | (split <;> simp only [lens, fword_l, *]) | (with_reducible exact Lt.mono (by assumption) (by decide)) | (simp only [Cs.len]; done) | rfl) (by decide)) rfl ?_
    refine OpsFrom.v (Y.ldAll ty27 rfl (up1 rfl rfl rfl rfl rfl rfl) rfl rfl rfl (by first | (with_reducible assumption) | omega | (simp only [lens, fword_l, *]; first | done | omega) | decide | (split <;> simp only [lens, fword_l, *]) | (with_reducible exact Lt.mono (by assumption) (by decide)) | (simp only [Cs.len]; done) | rfl) (by decide)) rfl ?_
    refine OpsFrom.v (Y.callV (w_add _ _ (by first | (with_reducible assumption) | omega | (simp only [lens, fword_l, add_len, *]; first | done | omega) | decide | (split <;> simp only [lens, fword_l, add_len, *]) | (with_reducible exact Lt.mono (by assumption) (by decide)) | (simp only [Cs.len]; done) | rfl) (by first | (with_reducible assumption) | omega | (simp only [lens, fword_l, add_len, *]; first | done | omega) | decide | (split <;> simp only [lens, fword_l, add_len, *]) | (with_reducible exact Lt.mono (by assumption) (by decide)) | (simp only [Cs.len]; done) | rfl)) fnok24 (up1 rfl rfl rfl rfl rfl rfl) rfl rfl (.cons _ _ _ _ rfl (.cons _ _ _ _ rfl .nil)) (.cons _ _ _ _ (.same _) (.cons _ _ _ _ (.same _) .nil)) rfl rfl) rfl ?_
    refine OpsFrom.v (Y.move (up1 rfl rfl rfl rfl rfl rfl) rfl rfl) rfl ?_
    refine OpsFrom.v (Y.convUp ty52.u ty24.u rfl rfl (by decide) (up1 rfl rfl rfl rfl rfl rfl) rfl rfl) rfl ?_
    refine OpsFrom.v (Y.move (up1 rfl rfl rfl rfl rfl rfl) rfl rfl) rfl ?_
    refine OpsFrom.v (Y.convUp ty52.u ty24.u rfl rfl (by decide) (up1 rfl rfl rfl rfl rfl rfl) rfl rfl) rfl ?_
    refine OpsFrom.v (Y.add u64s u64m (up1 rfl rfl rfl rfl rfl rfl) rfl rfl rfl) rfl ?_
    refine OpsFrom.v (Y.callV (w_fword _ ) fnok33 (up1 rfl rfl rfl rfl rfl rfl) rfl rfl (.cons _ _ _ _ rfl .nil) (.cons _ _ _ _ (.same _) .nil) rfl rfl) rfl ?_
    refine OpsFrom.v (Doing.isB (c := true) (small_add ba bb) (Y.callV (w_same _ _ (by first | (with_reducible assumption) | omega | (simp only [lens, fword_l, add_len, *]; first | done | omega) | decide | (split <;> simp only [lens, fword_l, add_len, *]) | (with_reducible exact Lt.mono (by assumption) (by decide)) | (simp only [Cs.len]; done) | rfl) (by first | (with_reducible assumption) | omega | (simp only [lens, fword_l, add_len, *]; first | done | omega) | decide | (split <;> simp only [lens, fword_l, add_len, *]) | (with_reducible exact Lt.mono (by assumption) (by decide)) | (simp only [Cs.len]; done) | rfl)) fnok21 (up1 rfl rfl rfl rfl rfl rfl) rfl rfl (.cons _ _ _ _ rfl (.cons _ _ _ _ rfl .nil)) (.cons _ _ _ _ (.same _) (.cons _ _ _ _ (.same _) .nil)) rfl rfl)) rfl ?_
    refine OpsFrom.v (Y.pickT (up0 rfl rfl rfl) rfl rfl rfl) rfl ?_
    refine OpsFrom.v (Y.move (up0 rfl rfl rfl) rfl rfl) rfl ?_
    refine OpsFrom.v (Y.ldAll ty27 rfl (up1 rfl rfl rfl rfl rfl rfl) rfl rfl rfl (by first | (with_reducible assumption) | omega | (simp only [lens, fword_l, add_len, *]; first | done | omega) | decide | (split <;> simp only [lens, fword_l, add_len, *]) | (with_reducible exact Lt.mono (by assumption) (by decide)) | (simp only [Cs.len]; done) | rfl) (by decide)) rfl ?_
    refine OpsFrom.v (Y.ldAll ty27 rfl (up1 rfl rfl rfl rfl rfl rfl) rfl rfl rfl (by first | (with_reducible assumption) | omega | (simp only [lens, fword_l, add_len, *]; first | done | omega) | decide | (split <;> simp only [lens, fword_l, add_len, *]) | (with_reducible exact Lt.mono (by assumption) (by decide)) | (simp only [Cs.len]; done) | rfl) (by decide)) rfl ?_
    refine OpsFrom.v (Y.callV (w_mul _ _ (by first | (with_reducible assumption) | omega | (simp only [lens, fword_l, add_len, mul_l, *]; first | done | omega) | decide | (split <;> simp only [lens, fword_l, add_len, mul_l, *]) | (with_reducible exact Lt.mono (by assumption) (by decide)) | (simp only [Cs.len]; done) | rfl) (by first | (with_reducible assumption) | omega | (simp only [lens, fword_l, add_len, mul_l, *]; first | done | omega) | decide | (split <;> simp only [lens, fword_l, add_len, mul_l, *]) | (with_reducible exact Lt.mono (by assumption) (by decide)) | (simp only [Cs.len]; done) | rfl)) fnok28 (up1 rfl rfl rfl rfl rfl rfl) rfl rfl (.cons _ _ _ _ rfl (.cons _ _ _ _ rfl .nil)) (.cons _ _ _ _ (.same _) (.cons _ _ _ _ (.same _) .nil)) rfl rfl) rfl ?_
    refine OpsFrom.v (Y.move (up1 rfl rfl rfl rfl rfl rfl) rfl rfl) rfl ?_
    refine OpsFrom.v (Y.convUp ty52.u ty24.u rfl rfl (by decide) (up1 rfl rfl rfl rfl rfl rfl) rfl rfl) rfl ?_
    refine OpsFrom.v (Y.move (up1 rfl rfl rfl rfl rfl rfl) rfl rfl) rfl ?_
    refine OpsFrom.v (Y.convUp ty52.u ty24.u rfl rfl (by decide) (up1 rfl rfl rfl rfl rfl rfl) rfl rfl) rfl ?_
    refine OpsFrom.v (Y.mul u64s u64m (up1 rfl rfl rfl rfl rfl rfl) rfl rfl rfl) rfl ?_
    refine OpsFrom.v (Y.callV (w_fword _ ) fnok33 (up1 rfl rfl rfl rfl rfl rfl) rfl rfl (.cons _ _ _ _ rfl .nil) (.cons _ _ _ _ (.same _) .nil) rfl rfl) rfl ?_
    refine OpsFrom.v (Doing.isB (c := true) (small_mul ba bb) (Y.callV (w_same _ _ (by first | (with_reducible assumption) | omega | (simp only [lens, fword_l, add_len, mul_l, *]; first | done | omega) | decide | (split <;> simp only [lens, fword_l, add_len, mul_l, *]) | (with_reducible exact Lt.mono (by assumption) (by decide)) | (simp only [Cs.len]; done) | rfl) (by first | (with_reducible assumption) | omega | (simp only [lens, fword_l, add_len, mul_l, *]; first | done | omega) | decide | (split <;> simp only [lens, fword_l, add_len, mul_l, *]) | (with_reducible exact Lt.mono (by assumption) (by decide)) | (simp only [Cs.len]; done) | rfl)) fnok21 (up1 rfl rfl rfl rfl rfl rfl) rfl rfl (.cons _ _ _ _ rfl (.cons _ _ _ _ rfl .nil)) (.cons _ _ _ _ (.same _) (.cons _ _ _ _ (.same _) .nil)) rfl rfl)) rfl ?_
    refine OpsFrom.v (Y.pickT (up0 rfl rfl rfl) rfl rfl rfl) rfl ?_
    refine OpsFrom.v (Y.move (up0 rfl rfl rfl) rfl rfl) rfl ?_
    refine OpsFrom.v (Y.move (up1 rfl rfl rfl rfl rfl rfl) rfl rfl) rfl ?_
    refine OpsFrom.v (Y.convUp ty52.u ty24.u rfl rfl (by decide) (up1 rfl rfl rfl rfl rfl rfl) rfl rfl) rfl ?_
    refine OpsFrom.v (Y.callV (w_fword _ ) fnok33 (up1 rfl rfl rfl rfl rfl rfl) rfl rfl (.cons _ _ _ _ rfl .nil) (.cons _ _ _ _ (.same _) .nil) rfl rfl) rfl ?_
    refine OpsFrom.v (Y.move (up1 rfl rfl rfl rfl rfl rfl) rfl rfl) rfl ?_
    refine OpsFrom.v (Y.convUp ty52.u ty24.u rfl rfl (by decide) (up1 rfl rfl rfl rfl rfl rfl) rfl rfl) rfl ?_
    refine OpsFrom.v (Y.callV (w_fword _ ) fnok33 (up1 rfl rfl rfl rfl rfl rfl) rfl rfl (.cons _ _ _ _ rfl .nil) (.cons _ _ _ _ (.same _) .nil) rfl rfl) rfl ?_
    refine OpsFrom.v (Y.callV (w_sub _ _ (by first | (with_reducible assumption) | omega | (simp only [lens, fword_l, add_len, mul_l, sub_len, *]; first | done | omega) | decide | (split <;> simp only [lens, fword_l, add_len, mul_l, sub_len, *]) | (with_reducible exact Lt.mono (by assumption) (by decide)) | (simp only [Cs.len]; done) | rfl) (by first | (with_reducible assumption) | omega | (simp only [lens, fword_l, add_len, mul_l, sub_len, *]; first | done | omega) | decide | (split <;> simp only [lens, fword_l, add_len, mul_l, sub_len, *]) | (with_reducible exact Lt.mono (by assumption) (by decide)) | (simp only [Cs.len]; done) | rfl)) fnok26 (up1 rfl rfl rfl rfl rfl rfl) rfl rfl (.cons _ _ _ _ rfl (.cons _ _ _ _ rfl .nil)) (.cons _ _ _ _ (.same _) (.cons _ _ _ _ (.same _) .nil)) rfl rfl) rfl ?_
    refine OpsFrom.v (Y.move (up1 rfl rfl rfl rfl rfl rfl) rfl rfl) rfl ?_
    refine OpsFrom.v (Y.move (up1 rfl rfl rfl rfl rfl rfl) rfl rfl) rfl ?_
    refine OpsFrom.v (Y.sub u32s u32m (up1 rfl rfl rfl rfl rfl rfl) rfl rfl rfl) rfl ?_
    refine OpsFrom.v (Y.convUp ty52.u ty24.u rfl rfl (by decide) (up1 rfl rfl rfl rfl rfl rfl) rfl rfl) rfl ?_
    refine OpsFrom.v (Y.callV (w_fword _ ) fnok33 (up1 rfl rfl rfl rfl rfl rfl) rfl rfl (.cons _ _ _ _ rfl .nil) (.cons _ _ _ _ (.same _) .nil) rfl rfl) rfl ?_
    refine OpsFrom.v (Doing.isB (c := true) (by first | exact small_sub ba (by first | (with_reducible assumption) | omega | (simp only [lens, fword_l, add_len, mul_l, sub_len, *]; first | done | omega) | decide | (split <;> simp only [lens, fword_l, add_len, mul_l, sub_len, *]) | (with_reducible exact Lt.mono (by assumption) (by decide)) | (simp only [Cs.len]; done) | rfl) | exact small_sub bb (by first | (with_reducible assumption) | omega | (simp only [lens, fword_l, add_len, mul_l, sub_len, *]; first | done | omega) | decide | (split <;> simp only [lens, fword_l, add_len, mul_l, sub_len, *]) | (with_reducible exact Lt.mono (by assumption) (by decide)) | (simp only [Cs.len]; done) | rfl)) (Y.callV (w_same _ _ (by first | (with_reducible assumption) | omega | (simp only [lens, fword_l, add_len, mul_l, sub_len, *]; first | done | omega) | decide | (split <;> simp only [lens, fword_l, add_len, mul_l, sub_len, *]) | (with_reducible exact Lt.mono (by assumption) (by decide)) | (simp only [Cs.len]; done) | rfl) (by first | (with_reducible assumption) | omega | (simp only [lens, fword_l, add_len, mul_l, sub_len, *]; first | done | omega) | decide | (split <;> simp only [lens, fword_l, add_len, mul_l, sub_len, *]) | (with_reducible exact Lt.mono (by assumption) (by decide)) | (simp only [Cs.len]; done) | rfl)) fnok21 (up1 rfl rfl rfl rfl rfl rfl) rfl rfl (.cons _ _ _ _ rfl (.cons _ _ _ _ rfl .nil)) (.cons _ _ _ _ (.same _) (.cons _ _ _ _ (.same _) .nil)) rfl rfl)) rfl ?_
    refine OpsFrom.v (Y.pickT (up0 rfl rfl rfl) rfl rfl rfl) rfl ?_
    refine OpsFrom.v (Y.assign (up0 rfl rfl rfl) rfl rfl) rfl ?_
    refine OpsFrom.nil ?_
    refine Holds.ret ?_
    exact Holds.ret1 (.inl rfl) rfl (.tmp _ _ rfl) (.same _) rfl
  · refine Holds.skip ?_
    refine Holds.seq ?_
    refine Holds.reg ?_
    refine OpsFrom.v (Y.move (up0 rfl rfl rfl) rfl rfl) rfl ?_
    refine OpsFrom.v (Y.move (up0 rfl rfl rfl) rfl rfl) rfl ?_
    refine OpsFrom.v (Y.ldAll ty27 rfl (up1 rfl rfl rfl rfl rfl rfl) rfl rfl rfl (by first | (with_reducible assumption) | omega | (simp only [lens, fword_l, *]; first | done | omega) | decide | (split <;> simp only [lens, fword_l, *]) | (with_reducible exact Lt.mono (by assumption) (by decide)) | (simp only [Cs.len]; done) | rfl) (by decide)) rfl ?_
    refine OpsFrom.v (Y.ldAll ty27 rfl (up1 rfl rfl rfl rfl rfl rfl) rfl rfl rfl (by first | (with_reducible assumption) | omega | (simp only [lens, fword_l, *]; first | done | omega) | decide | (split <;> simp only [lens, fword_l, *]) | (with_reducible exact Lt.mono (by assumption) (by decide)) | (simp only [Cs.len]; done) | rfl) (by decide)) rfl ?_
    refine OpsFrom.v (Y.callV (w_add _ _ (by first | (with_reducible assumption) | omega | (simp only [lens, fword_l, add_len, *]; first | done | omega) | decide | (split <;> simp only [lens, fword_l, add_len, *]) | (with_reducible exact Lt.mono (by assumption) (by decide)) | (simp only [Cs.len]; done) | rfl) (by first | (with_reducible assumption) | omega | (simp only [lens, fword_l, add_len, *]; first | done | omega) | decide | (split <;> simp only [lens, fword_l, add_len, *]) | (with_reducible exact Lt.mono (by assumption) (by decide)) | (simp only [Cs.len]; done) | rfl)) fnok24 (up1 rfl rfl rfl rfl rfl rfl) rfl rfl (.cons _ _ _ _ rfl (.cons _ _ _ _ rfl .nil)) (.cons _ _ _ _ (.same _) (.cons _ _ _ _ (.same _) .nil)) rfl rfl) rfl ?_
    refine OpsFrom.v (Y.move (up1 rfl rfl rfl rfl rfl rfl) rfl rfl) rfl ?_
    refine OpsFrom.v (Y.convUp ty52.u ty24.u rfl rfl (by decide) (up1 rfl rfl rfl rfl rfl rfl) rfl rfl) rfl ?_
    refine OpsFrom.v (Y.move (up1 rfl rfl rfl rfl rfl rfl) rfl rfl) rfl ?_
    refine OpsFrom.v (Y.convUp ty52.u ty24.u rfl rfl (by decide) (up1 rfl rfl rfl rfl rfl rfl) rfl rfl) rfl ?_
    refine OpsFrom.v (Y.add u64s u64m (up1 rfl rfl rfl rfl rfl rfl) rfl rfl rfl) rfl ?_
    refine OpsFrom.v (Y.callV (w_fword _ ) fnok33 (up1 rfl rfl rfl rfl rfl rfl) rfl rfl (.cons _ _ _ _ rfl .nil) (.cons _ _ _ _ (.same _) .nil) rfl rfl) rfl ?_
    refine OpsFrom.v (Doing.isB (c := true) (small_add ba bb) (Y.callV (w_same _ _ (by first | (with_reducible assumption) | omega | (simp only [lens, fword_l, add_len, *]; first | done | omega) | decide | (split <;> simp only [lens, fword_l, add_len, *]) | (with_reducible exact Lt.mono (by assumption) (by decide)) | (simp only [Cs.len]; done) | rfl) (by first | (with_reducible assumption) | omega | (simp only [lens, fword_l, add_len, *]; first | done | omega) | decide | (split <;> simp only [lens, fword_l, add_len, *]) | (with_reducible exact Lt.mono (by assumption) (by decide)) | (simp only [Cs.len]; done) | rfl)) fnok21 (up1 rfl rfl rfl rfl rfl rfl) rfl rfl (.cons _ _ _ _ rfl (.cons _ _ _ _ rfl .nil)) (.cons _ _ _ _ (.same _) (.cons _ _ _ _ (.same _) .nil)) rfl rfl)) rfl ?_
    refine OpsFrom.v (Y.pickT (up0 rfl rfl rfl) rfl rfl rfl) rfl ?_
    refine OpsFrom.v (Y.move (up0 rfl rfl rfl) rfl rfl) rfl ?_
    refine OpsFrom.v (Y.ldAll ty27 rfl (up1 rfl rfl rfl rfl rfl rfl) rfl rfl rfl (by first | (with_reducible assumption) | omega | (simp only [lens, fword_l, add_len, *]; first | done | omega) | decide | (split <;> simp only [lens, fword_l, add_len, *]) | (with_reducible exact Lt.mono (by assumption) (by decide)) | (simp only [Cs.len]; done) | rfl) (by decide)) rfl ?_
    refine OpsFrom.v (Y.ldAll ty27 rfl (up1 rfl rfl rfl rfl rfl rfl) rfl rfl rfl (by first | (with_reducible assumption) | omega | (simp only [lens, fword_l, add_len, *]; first | done | omega) | decide | (split <;> simp only [lens, fword_l, add_len, *]) | (with_reducible exact Lt.mono (by assumption) (by decide)) | (simp only [Cs.len]; done) | rfl) (by decide)) rfl ?_
    refine OpsFrom.v (Y.callV (w_mul _ _ (by first | (with_reducible assumption) | omega | (simp only [lens, fword_l, add_len, mul_l, *]; first | done | omega) | decide | (split <;> simp only [lens, fword_l, add_len, mul_l, *]) | (with_reducible exact Lt.mono (by assumption) (by decide)) | (simp only [Cs.len]; done) | rfl) (by first | (with_reducible assumption) | omega | (simp only [lens, fword_l, add_len, mul_l, *]; first | done | omega) | decide | (split <;> simp only [lens, fword_l, add_len, mul_l, *]) | (with_reducible exact Lt.mono (by assumption) (by decide)) | (simp only [Cs.len]; done) | rfl)) fnok28 (up1 rfl rfl rfl rfl rfl rfl) rfl rfl (.cons _ _ _ _ rfl (.cons _ _ _ _ rfl .nil)) (.cons _ _ _ _ (.same _) (.cons _ _ _ _ (.same _) .nil)) rfl rfl) rfl ?_
    refine OpsFrom.v (Y.move (up1 rfl rfl rfl rfl rfl rfl) rfl rfl) rfl ?_
    refine OpsFrom.v (Y.convUp ty52.u ty24.u rfl rfl (by decide) (up1 rfl rfl rfl rfl rfl rfl) rfl rfl) rfl ?_
    refine OpsFrom.v (Y.move (up1 rfl rfl rfl rfl rfl rfl) rfl rfl) rfl ?_
    refine OpsFrom.v (Y.convUp ty52.u ty24.u rfl rfl (by decide) (up1 rfl rfl rfl rfl rfl rfl) rfl rfl) rfl ?_
    refine OpsFrom.v (Y.mul u64s u64m (up1 rfl rfl rfl rfl rfl rfl) rfl rfl rfl) rfl ?_
    refine OpsFrom.v (Y.callV (w_fword _ ) fnok33 (up1 rfl rfl rfl rfl rfl rfl) rfl rfl (.cons _ _ _ _ rfl .nil) (.cons _ _ _ _ (.same _) .nil) rfl rfl) rfl ?_
    refine OpsFrom.v (Doing.isB (c := true) (small_mul ba bb) (Y.callV (w_same _ _ (by first | (with_reducible assumption) | omega | (simp only [lens, fword_l, add_len, mul_l, *]; first | done | omega) | decide | (split <;> simp only [lens, fword_l, add_len, mul_l, *]) | (with_reducible exact Lt.mono (by assumption) (by decide)) | (simp only [Cs.len]; done) | rfl) (by first | (with_reducible assumption) | omega | (simp only [lens, fword_l, add_len, mul_l, *]; first | done | omega) | decide | (split <;> simp only [lens, fword_l, add_len, mul_l, *]) | (with_reducible exact Lt.mono (by assumption) (by decide)) | (simp only [Cs.len]; done) | rfl)) fnok21 (up1 rfl rfl rfl rfl rfl rfl) rfl rfl (.cons _ _ _ _ rfl (.cons _ _ _ _ rfl .nil)) (.cons _ _ _ _ (.same _) (.cons _ _ _ _ (.same _) .nil)) rfl rfl)) rfl ?_
    refine OpsFrom.v (Y.pickT (up0 rfl rfl rfl) rfl rfl rfl) rfl ?_
    refine OpsFrom.v (Y.move (up0 rfl rfl rfl) rfl rfl) rfl ?_
    refine OpsFrom.v (Y.move (up1 rfl rfl rfl rfl rfl rfl) rfl rfl) rfl ?_
    refine OpsFrom.v (Y.convUp ty52.u ty24.u rfl rfl (by decide) (up1 rfl rfl rfl rfl rfl rfl) rfl rfl) rfl ?_
    refine OpsFrom.v (Y.callV (w_fword _ ) fnok33 (up1 rfl rfl rfl rfl rfl rfl) rfl rfl (.cons _ _ _ _ rfl .nil) (.cons _ _ _ _ (.same _) .nil) rfl rfl) rfl ?_
    refine OpsFrom.v (Y.move (up1 rfl rfl rfl rfl rfl rfl) rfl rfl) rfl ?_
    refine OpsFrom.v (Y.convUp ty52.u ty24.u rfl rfl (by decide) (up1 rfl rfl rfl rfl rfl rfl) rfl rfl) rfl ?_
    refine OpsFrom.v (Y.callV (w_fword _ ) fnok33 (up1 rfl rfl rfl rfl rfl rfl) rfl rfl (.cons _ _ _ _ rfl .nil) (.cons _ _ _ _ (.same _) .nil) rfl rfl) rfl ?_
    refine OpsFrom.v (Y.callV (w_sub _ _ (by first | (with_reducible assumption) | omega | (simp only [lens, fword_l, add_len, mul_l, sub_len, *]; first | done | omega) | decide | (split <;> simp only [lens, fword_l, add_len, mul_l, sub_len, *]) | (with_reducible exact Lt.mono (by assumption) (by decide)) | (simp only [Cs.len]; done) | rfl) (by first | (with_reducible assumption) | omega | (simp only [lens, fword_l, add_len, mul_l, sub_len, *]; first | done | omega) | decide | (split <;> simp only [lens, fword_l, add_len, mul_l, sub_len, *]) | (with_reducible exact Lt.mono (by assumption) (by decide)) | (simp only [Cs.len]; done) | rfl)) fnok26 (up1 rfl rfl rfl rfl rfl rfl) rfl rfl (.cons _ _ _ _ rfl (.cons _ _ _ _ rfl .nil)) (.cons _ _ _ _ (.same _) (.cons _ _ _ _ (.same _) .nil)) rfl rfl) rfl ?_
    refine OpsFrom.v (Y.move (up1 rfl rfl rfl rfl rfl rfl) rfl rfl) rfl ?_
    refine OpsFrom.v (Y.move (up1 rfl rfl rfl rfl rfl rfl) rfl rfl) rfl ?_
    refine OpsFrom.v (Y.sub u32s u32m (up1 rfl rfl rfl rfl rfl rfl) rfl rfl rfl) rfl ?_
    refine OpsFrom.v (Y.convUp ty52.u ty24.u rfl rfl (by decide) (up1 rfl rfl rfl rfl rfl rfl) rfl rfl) rfl ?_
    refine OpsFrom.v (Y.callV (w_fword _ ) fnok33 (up1 rfl rfl rfl rfl rfl rfl) rfl rfl (.cons _ _ _ _ rfl .nil) (.cons _ _ _ _ (.same _) .nil) rfl rfl) rfl ?_
    refine OpsFrom.v (Doing.isB (c := true) (by first | exact small_sub ba (by first | (with_reducible assumption) | omega | (simp only [lens, fword_l, add_len, mul_l, sub_len, *]; first | done | omega) | decide | (split <;> simp only [lens, fword_l, add_len, mul_l, sub_len, *]) | (with_reducible exact Lt.mono (by assumption) (by decide)) | (simp only [Cs.len]; done) | rfl) | exact small_sub bb (by first | (with_reducible assumption) | omega | (simp only [lens, fword_l, add_len, mul_l, sub_len, *]; first | done | omega) | decide | (split <;> simp only [lens, fword_l, add_len, mul_l, sub_len, *]) | (with_reducible exact Lt.mono (by assumption) (by decide)) | (simp only [Cs.len]; done) | rfl)) (Y.callV (w_same _ _ (by first | (with_reducible assumption) | omega | (simp only [lens, fword_l, add_len, mul_l, sub_len, *]; first | done | omega) | decide | (split <;> simp only [lens, fword_l, add_len, mul_l, sub_len, *]) | (with_reducible exact Lt.mono (by assumption) (by decide)) | (simp only [Cs.len]; done) | rfl) (by first | (with_reducible assumption) | omega | (simp only [lens, fword_l, add_len, mul_l, sub_len, *]; first | done | omega) | decide | (split <;> simp only [lens, fword_l, add_len, mul_l, sub_len, *]) | (with_reducible exact Lt.mono (by assumption) (by decide)) | (simp only [Cs.len]; done) | rfl)) fnok21 (up1 rfl rfl rfl rfl rfl rfl) rfl rfl (.cons _ _ _ _ rfl (.cons _ _ _ _ rfl .nil)) (.cons _ _ _ _ (.same _) (.cons _ _ _ _ (.same _) .nil)) rfl rfl)) rfl ?_
    refine OpsFrom.v (Y.pickT (up0 rfl rfl rfl) rfl rfl rfl) rfl ?_
    refine OpsFrom.v (Y.assign (up0 rfl rfl rfl) rfl rfl) rfl ?_
    refine OpsFrom.nil ?_
    refine Holds.ret ?_
    exact Holds.ret1 (.inl rfl) rfl (.tmp _ _ rfl) (.same _) rfl


end Go.Proofs.Ytnfiiclmbiiokaa
