/-
  Walks: comparing codes.
-/
import Derived.Test.YtjgcmfedofmkpaaPc
namespace Go.Proofs.Ytjgcmfedofmkpaa
open Go Go.Fx
set_option linter.unusedVariables false
set_option linter.unusedSimpArgs false
def msame_s1 (a : List Nat) (b : List Nat) (i1_ : Nat) (m1_ : Nat) : Nat :=
  let v2_ : Nat := m1_ ||| ((a.getD i1_ 0) ^^^ (b.getD i1_ 0))
  v2_
def msame_it1 (a : List Nat) (b : List Nat) (i1_ : Nat) : Nat := iter (msame_s1 a b) i1_ 0
theorem msame_it1_z (a : List Nat) (b : List Nat) : msame_it1 a b 0 = 0 := rfl
theorem msame_it1_s (a : List Nat) (b : List Nat) (i1_ : Nat) : msame_it1 a b (i1_ + 1) = msame_s1 a b i1_ (msame_it1 a b i1_) := by unfold msame_it1; exact iterS _ _ _
def msame (a : List Nat) (b : List Nat) : Bool :=
  if a.length ≠ b.length then
    false
  else
    decide ((msame_it1 a b a.length) = 0)
theorem w_msame (a : List Nat) (b : List Nat) (h_a : a.length ≤ 140737488351232) : VC Try.prog 33 [.one (.bs false .u8 a), .one (.bs false .u8 b)] (.one (.b (msame a b))) := by
  refine VC.go Try.func33 rfl Try.ntmps33 rfl rfl fun O w => ?_
  refine Holds.seq ?_
  refine Holds.reg ?_
  refine OpsFrom.v (Y.assign (up0 rfl rfl rfl) rfl rfl) rfl ?_
  refine OpsFrom.nil ?_
  refine Holds.seq ?_
  refine Holds.seq ?_
  refine Holds.reg ?_
  refine OpsFrom.v (Y.move (up0 rfl rfl rfl) rfl rfl) rfl ?_
  refine OpsFrom.v (Y.len ty22 (up0 rfl rfl rfl) rfl rfl rfl rfl) rfl ?_
  refine OpsFrom.v (Y.move (up0 rfl rfl rfl) rfl rfl) rfl ?_
  refine OpsFrom.v (Y.len ty22 (up0 rfl rfl rfl) rfl rfl rfl rfl) rfl ?_
  refine OpsFrom.v (Y.neq (up0 rfl rfl rfl) rfl rfl rfl) rfl ?_
  refine OpsFrom.nil ?_
  refine Holds.condD rfl (fun h12 => ?_) (fun h12 => ?_)
  · refine Holds.seq ?_
    refine Holds.reg ?_
    refine OpsFrom.v (Y.assign (up0 rfl rfl rfl) rfl rfl) rfl ?_
    refine OpsFrom.nil ?_
    refine Holds.ret ?_
    exact Holds.ret1 (.inl rfl) rfl (.tmp _ _ rfl) (View.cg (congrArg (fun z => (.one (.b z) : AV)) (show (msame a b) = _ from (by unfold msame; exact (if_pos h12)))) (.same _)) rfl
  · refine Holds.skip ?_
    refine Holds.seq ?_
    refine Holds.reg ?_
    refine OpsFrom.v (Y.assign (v := (.one (.n .u8 0))) (up0 rfl rfl rfl) rfl rfl) rfl ?_
    refine OpsFrom.nil ?_
    refine Holds.seq ?_
    refine Holds.seq ?_
    refine Holds.reg ?_
    refine OpsFrom.v (Y.move (up0 rfl rfl rfl) rfl rfl) rfl ?_
    refine OpsFrom.v (Y.len ty22 (up0 rfl rfl rfl) rfl rfl rfl rfl) rfl ?_
    refine OpsFrom.v (Y.move (v := (.one (.n .i64 0))) (up0 rfl rfl rfl) rfl rfl) rfl ?_
    refine OpsFrom.nil ?_
    refine Holds.block ?_
    refine Holds.loop (fun (i1_ : Nat) => ⟨[(1, .one (.bs false .u8 b)), (4, .one (.b false)), (5, .one (.n .u8 (msame_it1 a b i1_))), (13, .one (.bs false .u8 a)), (14, .one (.n .i64 a.length)), (15, .one (.n .i64 i1_))], []⟩) (fun (i1_ : Nat) => i1_ ≤ a.length) (fun (i1_ : Nat) => a.length - i1_) 0 (by first | (with_reducible assumption) | omega | (simp only [lens, *]; first | done | omega) | decide | (split <;> simp only [lens, *]) | (with_reducible exact Lt.mono (by assumption) (by decide)) | (simp only [Cs.len]; done) | rfl) [] ⟨⟨rfl, rfl, (nEq (congrArg (fun (s : Nat) => s) (msame_it1_z a b)).symm), rfl, rfl, rfl, trivial⟩, trivial, rfl, rfl⟩ ?_
    intro i1_ k1_
    refine Holds.seq ?_
    refine Holds.reg ?_
    refine OpsFrom.v (Y.lss (up0 rfl rfl rfl) rfl rfl rfl) rfl ?_
    refine OpsFrom.nil ?_
    refine Holds.seq ?_
    refine Holds.condD rfl (fun h16 => ?_) (fun h16 => ?_)
    · refine Holds.skip ?_
      refine Holds.seq ?_
      refine Holds.block ?_
      refine Holds.seq ?_
      refine Holds.reg ?_
      refine OpsFrom.v (Y.move (up0 rfl rfl rfl) rfl rfl) rfl ?_
      refine OpsFrom.v (Y.iaBs ty22 ty5 (up0 rfl rfl rfl) rfl rfl rfl (by first | (with_reducible assumption) | omega | (simp only [lens, *]; first | done | omega) | decide | (split <;> simp only [lens, *]) | (with_reducible exact Lt.mono (by assumption) (by decide)) | (simp only [Cs.len]; done) | rfl)) rfl ?_
      refine OpsFrom.v (Y.ldPc ty5 rfl (up0 rfl rfl rfl) rfl rfl) rfl ?_
      refine OpsFrom.v (Y.assign (up0 rfl rfl rfl) rfl rfl) rfl ?_
      refine OpsFrom.v (Y.assign (up0 rfl rfl rfl) rfl rfl) rfl ?_
      refine OpsFrom.nil ?_
      refine Holds.reg ?_
      refine OpsFrom.v (Y.move (up0 rfl rfl rfl) rfl rfl) rfl ?_
      refine OpsFrom.v (Y.move (up0 rfl rfl rfl) rfl rfl) rfl ?_
      refine OpsFrom.v (Y.move (up0 rfl rfl rfl) rfl rfl) rfl ?_
      refine OpsFrom.v (Y.move (up0 rfl rfl rfl) rfl rfl) rfl ?_
      refine OpsFrom.v (Y.iaBs ty22 ty5 (up0 rfl rfl rfl) rfl rfl rfl (by first | (with_reducible assumption) | omega | (simp only [lens, *]; first | done | omega) | decide | (split <;> simp only [lens, *]) | (with_reducible exact Lt.mono (by assumption) (by decide)) | (simp only [Cs.len]; done) | rfl)) rfl ?_
      refine OpsFrom.v (Y.ldPc ty5 rfl (up0 rfl rfl rfl) rfl rfl) rfl ?_
      refine OpsFrom.v (Y.xor u8s u8m (up0 rfl rfl rfl) rfl rfl rfl) rfl ?_
      refine OpsFrom.v (Y.or u8s u8m (up0 rfl rfl rfl) rfl rfl rfl) rfl ?_
      refine OpsFrom.v (Y.assign (up0 rfl rfl rfl) rfl rfl) rfl ?_
      refine OpsFrom.nil ?_
      refine Holds.reg ?_
      refine OpsFrom.v (Y.addI (b := 1) (up0 rfl rfl rfl) rfl rfl rfl (by first | (with_reducible assumption) | omega | (simp only [lens, *]; first | done | omega) | decide | (split <;> simp only [lens, *]) | (with_reducible exact Lt.mono (by assumption) (by decide)) | (simp only [Cs.len]; done) | rfl)) rfl ?_
      refine OpsFrom.v (Y.move (up0 rfl rfl rfl) rfl rfl) rfl ?_
      refine OpsFrom.nil ?_
      exact Holds.again (i1_ + 1) (by omega) (by omega) [] ⟨⟨rfl, rfl, (nEq (by rw [msame_it1_s]; unfold msame_s1; first | (dsimp only; done) | rfl)), rfl, rfl, (nEq (by omega)), trivial⟩, trivial, rfl, rfl⟩
    · obtain rfl : i1_ = a.length := by omega
      refine Holds.exit ?_
      refine Holds.seq ?_
      refine Holds.reg ?_
      refine OpsFrom.v (Y.move (up0 rfl rfl rfl) rfl rfl) rfl ?_
      refine OpsFrom.v (Y.eql (b := 0) (up0 rfl rfl rfl) rfl rfl rfl) rfl ?_
      refine OpsFrom.v (Y.assign (up0 rfl rfl rfl) rfl rfl) rfl ?_
      refine OpsFrom.nil ?_
      refine Holds.ret ?_
      exact Holds.ret1 (.inl rfl) rfl (.tmp _ _ rfl) (View.cg (congrArg (fun z => (.one (.b z) : AV)) (show (msame a b) = _ from (by unfold msame; exact (if_neg h12)))) (.same _)) rfl


end Go.Proofs.Ytjgcmfedofmkpaa
