/-
  Walks: the document: the key of a code.
-/
import Derived.Test.YtjgcmfedofmkpaaWd
namespace Go.Proofs.Ytjgcmfedofmkpaa
open Go Go.Fx
set_option linter.unusedVariables false
set_option linter.unusedSimpArgs false
set_option maxRecDepth 20000
def rpad_s1 (key : List Nat) (i1_ : Nat) (m1_ : List Nat) : List Nat :=
  m1_.set i1_ ((if 128 < key.length then (rsha key) else key).getD i1_ 0)
def rpad_it1 (key : List Nat) (i1_ : Nat) : List Nat := iter (rpad_s1 key) i1_ (List.replicate 128 0)
theorem rpad_it1_z (key : List Nat) : rpad_it1 key 0 = List.replicate 128 0 := rfl
theorem rpad_it1_s (key : List Nat) (i1_ : Nat) : rpad_it1 key (i1_ + 1) = rpad_s1 key i1_ (rpad_it1 key i1_) := by unfold rpad_it1; exact iterS _ _ _
theorem rpad_it1_l (key : List Nat) (i1_ : Nat) : ((rpad_it1 key i1_)).length = (List.replicate 128 0 : List Nat).length := iter_inv (fun (s : List Nat) => (s).length = (List.replicate 128 0 : List Nat).length) (by simp) (fun i s h => by
  unfold rpad_s1
  first | (simp [rsha_l, h]; done) | (dsimp only; (repeat' split) <;> simp [rsha_l, h])) i1_
def rpad_s2 (key : List Nat) (v : Nat) (i2_ : Nat) (m2_ : List Nat) : List Nat :=
  m2_.set i2_ ((m2_.getD i2_ 0) ^^^ v)
def rpad_it2 (key : List Nat) (v : Nat) (i2_ : Nat) : List Nat := iter (rpad_s2 key v) i2_ (rpad_it1 key ((if 128 < key.length then (rsha key) else key).length))
theorem rpad_it2_z (key : List Nat) (v : Nat) : rpad_it2 key v 0 = (rpad_it1 key ((if 128 < key.length then (rsha key) else key).length)) := rfl
theorem rpad_it2_s (key : List Nat) (v : Nat) (i2_ : Nat) : rpad_it2 key v (i2_ + 1) = rpad_s2 key v i2_ (rpad_it2 key v i2_) := by unfold rpad_it2; exact iterS _ _ _
theorem rpad_it2_l (key : List Nat) (v : Nat) (i2_ : Nat) : ((rpad_it2 key v i2_)).length = ((rpad_it1 key ((if 128 < key.length then (rsha key) else key).length)) : List Nat).length := iter_inv (fun (s : List Nat) => (s).length = ((rpad_it1 key ((if 128 < key.length then (rsha key) else key).length)) : List Nat).length) (by simp) (fun i s h => by
  unfold rpad_s2
  first | (simp [rsha_l, rpad_it1_l, h]; done) | (dsimp only; (repeat' split) <;> simp [rsha_l, rpad_it1_l, h])) i2_
def rpad (key : List Nat) (v : Nat) : List Nat :=
  (rpad_it2 key v 128)
theorem rpad_l (key : List Nat) (v : Nat) : (rpad key v).length = 128 := by unfold rpad; rw [rpad_it2_l, rpad_it1_l]; rfl
theorem w_rpad (key : List Nat) (v : Nat) (h_key : key.length ≤ 4194304) : VF Try.prog 46 [.one (.bs false .u8 key), .one (.n .u8 v)] (.one (.sg 0 0 ((rpad key v)).length)) .u8 ((rpad key v)) := by
  refine VF.go Try.func46 rfl Try.ntmps46 rfl rfl fun O w => ?_
  refine Holds.seq ?_
  refine Holds.reg ?_
  refine OpsFrom.v (Y.assign (up0 rfl rfl rfl) rfl rfl) rfl ?_
  refine OpsFrom.nil ?_
  refine Holds.seqJoin ⟨[(0, .one (.bs false .u8 (if 128 < key.length then (rsha key) else key))), (1, .one (.n .u8 v)), (4, .one (.nil))], []⟩ ?_ (fun join => ?_)
  · refine Holds.seq ?_
    refine Holds.reg ?_
    refine OpsFrom.u (Y.mkS (d := 15) (L := 128) ty22 ty5 (up0 rfl rfl rfl) rfl rfl rfl (by first | (with_reducible assumption) | omega | (simp only [lens, *]; first | done | omega) | decide | (split <;> simp only [lens, *]) | (with_reducible exact Lt.mono (by assumption) (by decide)) | (simp only [Cs.len]; done) | rfl) (by first | (with_reducible assumption) | omega | (simp only [lens, *]; first | done | omega) | decide | (split <;> simp only [lens, *]) | (with_reducible exact Lt.mono (by assumption) (by decide)) | (simp only [Cs.len]; done) | rfl)) rfl rfl rfl ?_
    refine OpsFrom.v (Y.assign (up0 rfl rfl rfl) rfl rfl) rfl ?_
    refine OpsFrom.nil ?_
    refine Holds.seq ?_
    refine Holds.seq ?_
    have hkl : (if 128 < key.length then (rsha key) else key).length ≤ 128 := by split <;> first | (rw [rsha_l]; decide) | omega
    refine Holds.reg ?_
    refine OpsFrom.v (Y.assign (v := (.one (.n .i64 0))) (up0 rfl rfl rfl) rfl rfl) rfl ?_
    refine OpsFrom.nil ?_
    refine Holds.block ?_
    refine Holds.loop (fun (i1_ : Nat) => ⟨[(0, .one (.bs false .u8 (if 128 < key.length then (rsha key) else key))), (1, .one (.n .u8 v)), (4, .one (.nil)), (6, .one (.sg 15 0 128)), (7, .one (.n .i64 i1_))], [(15, .own (.ints .u8 (rpad_it1 key i1_)))]⟩) (fun (i1_ : Nat) => i1_ ≤ ((if 128 < key.length then (rsha key) else key).length)) (fun (i1_ : Nat) => ((if 128 < key.length then (rsha key) else key).length) - i1_) 0 (by first | (with_reducible assumption) | omega | (simp only [lens, rpad_it1_l, *]; first | done | omega) | decide | (split <;> simp only [lens, rpad_it1_l, *]) | (with_reducible exact Lt.mono (by assumption) (by decide)) | (simp only [Cs.len]; done) | rfl) [] ⟨⟨rfl, rfl, rfl, rfl, rfl, trivial⟩, ⟨(hEq (congrArg (fun (s : List Nat) => s) (rpad_it1_z key)).symm), trivial⟩, rfl, rfl⟩ ?_
    intro i1_ k1_
    refine Holds.seq ?_
    refine Holds.seq ?_
    refine Holds.reg ?_
    refine OpsFrom.v (Y.move (up0 rfl rfl rfl) rfl rfl) rfl ?_
    refine OpsFrom.v (Y.move (up0 rfl rfl rfl) rfl rfl) rfl ?_
    refine OpsFrom.v (Y.len ty22 (up0 rfl rfl rfl) rfl rfl rfl rfl) rfl ?_
    refine OpsFrom.v (Y.lss (up0 rfl rfl rfl) rfl rfl rfl) rfl ?_
    refine OpsFrom.nil ?_
    refine Holds.condD rfl (fun h19 => ?_) (fun h19 => ?_)
    · refine Holds.skip ?_
      refine Holds.seq ?_
      refine Holds.block ?_
      refine Holds.reg ?_
      refine OpsFrom.v (Y.move (up0 rfl rfl rfl) rfl rfl) rfl ?_
      refine OpsFrom.v (Y.move (up0 rfl rfl rfl) rfl rfl) rfl ?_
      refine OpsFrom.v (Y.move (up0 rfl rfl rfl) rfl rfl) rfl ?_
      refine OpsFrom.v (Y.move (up0 rfl rfl rfl) rfl rfl) rfl ?_
      refine OpsFrom.v (Y.iaBs ty22 ty5 (up0 rfl rfl rfl) rfl rfl rfl (by first | (with_reducible assumption) | omega | (simp only [lens, rpad_it1_l, *]; first | done | omega) | decide | (split <;> simp only [lens, rpad_it1_l, *]) | (with_reducible exact Lt.mono (by assumption) (by decide)) | (simp only [Cs.len]; done) | rfl)) rfl ?_
      refine OpsFrom.v (Y.ldPc ty5 rfl (up0 rfl rfl rfl) rfl rfl) rfl ?_
      refine OpsFrom.v (Y.iaSg0 ty22 ty5 (up0 rfl rfl rfl) rfl rfl rfl (by first | (with_reducible assumption) | omega | (simp only [lens, rpad_it1_l, *]; first | done | omega) | decide | (split <;> simp only [lens, rpad_it1_l, *]) | (with_reducible exact Lt.mono (by assumption) (by decide)) | (simp only [Cs.len]; done) | rfl)) rfl ?_
      refine OpsFrom.n (Y.stI ty5 (upN rfl rfl) rfl rfl rfl rfl (by first | (with_reducible assumption) | omega | (simp only [lens, rpad_it1_l, *]; first | done | omega) | decide | (split <;> simp only [lens, rpad_it1_l, *]) | (with_reducible exact Lt.mono (by assumption) (by decide)) | (simp only [Cs.len]; done) | rfl)) rfl rfl ?_
      refine OpsFrom.nil ?_
      refine Holds.reg ?_
      refine OpsFrom.v (Y.move (up0 rfl rfl rfl) rfl rfl) rfl ?_
      refine OpsFrom.v (Y.addI (b := 1) (up0 rfl rfl rfl) rfl rfl rfl (by first | (with_reducible assumption) | omega | (simp only [lens, rpad_it1_l, *]; first | done | omega) | decide | (split <;> simp only [lens, rpad_it1_l, *]) | (with_reducible exact Lt.mono (by assumption) (by decide)) | (simp only [Cs.len]; done) | rfl)) rfl ?_
      refine OpsFrom.v (Y.assign (up0 rfl rfl rfl) rfl rfl) rfl ?_
      refine OpsFrom.nil ?_
      exact Holds.again (i1_ + 1) (by omega) (by omega) [] ⟨⟨rfl, rfl, rfl, rfl, (nEq (by omega)), trivial⟩, ⟨(hEq (by rw [rpad_it1_s]; unfold rpad_s1; first | (dsimp only; done) | rfl)), trivial⟩, rfl, rfl⟩
    · obtain rfl : i1_ = (if 128 < key.length then (rsha key) else key).length := by omega
      refine Holds.exit ?_
      refine Holds.seq ?_
      refine Holds.seq ?_
      refine Holds.reg ?_
      refine OpsFrom.v (Y.assign (v := (.one (.n .i64 0))) (up0 rfl rfl rfl) rfl rfl) rfl ?_
      refine OpsFrom.nil ?_
      refine Holds.block ?_
      refine Holds.loop (fun (i2_ : Nat) => ⟨[(1, .one (.n .u8 v)), (4, .one (.nil)), (6, .one (.sg 15 0 128)), (8, .one (.n .i64 i2_))], [(15, .own (.ints .u8 (rpad_it2 key v i2_)))]⟩) (fun (i2_ : Nat) => i2_ ≤ 128) (fun (i2_ : Nat) => 128 - i2_) 0 (by first | (with_reducible assumption) | omega | (simp only [lens, rpad_it1_l, rpad_it2_l, *]; first | done | omega) | decide | (split <;> simp only [lens, rpad_it1_l, rpad_it2_l, *]) | (with_reducible exact Lt.mono (by assumption) (by decide)) | (simp only [Cs.len]; done) | rfl) [] ⟨⟨rfl, rfl, rfl, rfl, trivial⟩, ⟨(hEq (congrArg (fun (s : List Nat) => s) (rpad_it2_z key v)).symm), trivial⟩, rfl, rfl⟩ ?_
      intro i2_ k2_
      refine Holds.seq ?_
      refine Holds.seq ?_
      refine Holds.reg ?_
      refine OpsFrom.v (Y.move (up0 rfl rfl rfl) rfl rfl) rfl ?_
      refine OpsFrom.v (Y.lss (b := 128) (up0 rfl rfl rfl) rfl rfl rfl) rfl ?_
      refine OpsFrom.nil ?_
      refine Holds.condD rfl (fun h30 => ?_) (fun h30 => ?_)
      · refine Holds.skip ?_
        refine Holds.seq ?_
        refine Holds.block ?_
        refine Holds.reg ?_
        refine OpsFrom.v (Y.move (up0 rfl rfl rfl) rfl rfl) rfl ?_
        refine OpsFrom.v (Y.move (up0 rfl rfl rfl) rfl rfl) rfl ?_
        refine OpsFrom.v (Y.move (up0 rfl rfl rfl) rfl rfl) rfl ?_
        refine OpsFrom.v (Y.move (up0 rfl rfl rfl) rfl rfl) rfl ?_
        refine OpsFrom.v (Y.iaSg0 ty22 ty5 (up0 rfl rfl rfl) rfl rfl rfl (by first | (with_reducible assumption) | omega | (simp only [lens, rpad_it1_l, rpad_it2_l, *]; first | done | omega) | decide | (split <;> simp only [lens, rpad_it1_l, rpad_it2_l, *]) | (with_reducible exact Lt.mono (by assumption) (by decide)) | (simp only [Cs.len]; done) | rfl)) rfl ?_
        refine OpsFrom.v (Y.ldI ty5 rfl (up0 rfl rfl rfl) rfl rfl rfl (by first | (with_reducible assumption) | omega | (simp only [lens, rpad_it1_l, rpad_it2_l, *]; first | done | omega) | decide | (split <;> simp only [lens, rpad_it1_l, rpad_it2_l, *]) | (with_reducible exact Lt.mono (by assumption) (by decide)) | (simp only [Cs.len]; done) | rfl)) rfl ?_
        refine OpsFrom.v (Y.move (up0 rfl rfl rfl) rfl rfl) rfl ?_
        refine OpsFrom.v (Y.xor u8s u8m (up0 rfl rfl rfl) rfl rfl rfl) rfl ?_
        refine OpsFrom.v (Y.iaSg0 ty22 ty5 (up0 rfl rfl rfl) rfl rfl rfl (by first | (with_reducible assumption) | omega | (simp only [lens, rpad_it1_l, rpad_it2_l, *]; first | done | omega) | decide | (split <;> simp only [lens, rpad_it1_l, rpad_it2_l, *]) | (with_reducible exact Lt.mono (by assumption) (by decide)) | (simp only [Cs.len]; done) | rfl)) rfl ?_
        refine OpsFrom.n (Y.stI ty5 (upN rfl rfl) rfl rfl rfl rfl (by first | (with_reducible assumption) | omega | (simp only [lens, rpad_it1_l, rpad_it2_l, *]; first | done | omega) | decide | (split <;> simp only [lens, rpad_it1_l, rpad_it2_l, *]) | (with_reducible exact Lt.mono (by assumption) (by decide)) | (simp only [Cs.len]; done) | rfl)) rfl rfl ?_
        refine OpsFrom.nil ?_
        refine Holds.reg ?_
        refine OpsFrom.v (Y.move (up0 rfl rfl rfl) rfl rfl) rfl ?_
        refine OpsFrom.v (Y.addI (b := 1) (up0 rfl rfl rfl) rfl rfl rfl (by first | (with_reducible assumption) | omega | (simp only [lens, rpad_it1_l, rpad_it2_l, *]; first | done | omega) | decide | (split <;> simp only [lens, rpad_it1_l, rpad_it2_l, *]) | (with_reducible exact Lt.mono (by assumption) (by decide)) | (simp only [Cs.len]; done) | rfl)) rfl ?_
        refine OpsFrom.v (Y.assign (up0 rfl rfl rfl) rfl rfl) rfl ?_
        refine OpsFrom.nil ?_
        exact Holds.again (i2_ + 1) (by omega) (by omega) [] ⟨⟨rfl, rfl, rfl, (nEq (by omega)), trivial⟩, ⟨(hEq (by rw [rpad_it2_s]; unfold rpad_s2; first | (dsimp only; done) | rfl)), trivial⟩, rfl, rfl⟩
      · obtain rfl : i2_ = 128 := by omega
        refine Holds.exit ?_
        refine Holds.seq ?_
        refine Holds.reg ?_
        refine OpsFrom.v (Y.move (up0 rfl rfl rfl) rfl rfl) rfl ?_
        refine OpsFrom.v (Y.assign (up0 rfl rfl rfl) rfl rfl) rfl ?_
        refine OpsFrom.nil ?_
        refine Holds.ret ?_
        exact Holds.retF (id := 15) (.inl rfl) rfl (.one _ _ (.tmp _ _ rfl)) (congrArg (fun n => AV.one (SV.sg 15 0 n)) (rpad_l key v)) rfl (by first | rfl | (unfold rpad; rfl))
  · refine Holds.seq ?_
    refine Holds.reg ?_
    refine OpsFrom.v (Y.move (up0 rfl rfl rfl) rfl rfl) rfl ?_
    refine OpsFrom.v (Y.len ty22 (up0 rfl rfl rfl) rfl rfl rfl rfl) rfl ?_
    refine OpsFrom.v (Y.gtr (b := 128) (up0 rfl rfl rfl) rfl rfl rfl) rfl ?_
    refine OpsFrom.nil ?_
    refine Holds.condD rfl (fun h11 => ?_) (fun h11 => ?_)
    · refine Holds.seq ?_
      refine Holds.reg ?_
      refine OpsFrom.v (Y.move (up0 rfl rfl rfl) rfl rfl) rfl ?_
      refine OpsFrom.v (Y.callV (w_rsha _ (by first | (with_reducible assumption) | omega | (simp only [lens, rsha_l, *]; first | done | omega) | decide | (split <;> simp only [lens, rsha_l, *]) | (with_reducible exact Lt.mono (by assumption) (by decide)) | (simp only [Cs.len]; done) | rfl)) fnok21 (up0 rfl rfl rfl) rfl rfl (.cons _ _ _ _ rfl .nil) (.cons _ _ _ _ (.same _) .nil) rfl rfl) rfl ?_
      refine OpsFrom.u (Y.alloc (d := 5) ty24 rfl rfl (up0 rfl rfl rfl) rfl) rfl rfl rfl ?_
      refine OpsFrom.n (Y.stR ty24 (upN rfl rfl) rfl rfl rfl rfl rfl (by first | (with_reducible assumption) | omega | (simp only [lens, rsha_l, *]; first | done | omega) | decide | (split <;> simp only [lens, rsha_l, *]) | (with_reducible exact Lt.mono (by assumption) (by decide)) | (simp only [Cs.len]; done) | rfl) (by first | (with_reducible assumption) | omega | (simp only [lens, rsha_l, *]; first | done | omega) | decide | (split <;> simp only [lens, rsha_l, *]) | (with_reducible exact Lt.mono (by assumption) (by decide)) | (simp only [Cs.len]; done) | rfl) (by decide)) rfl rfl ?_
      refine OpsFrom.nil ?_
      refine Holds.reg ?_
      refine OpsFrom.v (Y.slArr0 ty24 ty5 (up0 rfl rfl rfl) rfl rfl rfl (by first | (with_reducible assumption) | omega | (simp only [lens, rsha_l, *]; first | done | omega) | decide | (split <;> simp only [lens, rsha_l, *]) | (with_reducible exact Lt.mono (by assumption) (by decide)) | (simp only [Cs.len]; done) | rfl) bnd0 bnd0 (by first | (with_reducible assumption) | omega | (simp only [lens, rsha_l, *]; first | done | omega) | decide | (split <;> simp only [lens, rsha_l, *]) | (with_reducible exact Lt.mono (by assumption) (by decide)) | (simp only [Cs.len]; done) | rfl) (by first | (with_reducible assumption) | omega | (simp only [lens, rsha_l, *]; first | done | omega) | decide | (split <;> simp only [lens, rsha_l, *]) | (with_reducible exact Lt.mono (by assumption) (by decide)) | (simp only [Cs.len]; done) | rfl)) rfl ?_
      refine OpsFrom.v (Y.assign (up0 rfl rfl rfl) rfl rfl) rfl ?_
      refine OpsFrom.nil ?_
      refine Holds.freezeV 0 5 rfl rfl (.all rfl (by first | (with_reducible assumption) | omega | (simp only [lens, rsha_l, *]; first | done | omega) | decide | (split <;> simp only [lens, rsha_l, *]) | (with_reducible exact Lt.mono (by assumption) (by decide)) | (simp only [Cs.len]; done) | rfl)) ?_
      exact join _ [] ⟨⟨(bsEq (if_pos h11).symm), rfl, rfl, trivial⟩, trivial, rfl, rfl⟩
    · refine Holds.skip ?_
      exact join _ [] ⟨⟨(bsEq (if_neg h11).symm), rfl, rfl, trivial⟩, trivial, rfl, rfl⟩

attribute [irreducible] rpad

end Go.Proofs.Ytjgcmfedofmkpaa
