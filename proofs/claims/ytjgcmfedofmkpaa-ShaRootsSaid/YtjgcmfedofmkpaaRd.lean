/-
  Walks: the constants H.
-/
import Derived.Test.YtjgcmfedofmkpaaPf
namespace Go.Proofs.Ytjgcmfedofmkpaa
open Go Go.Fx
set_option linter.unusedVariables false
set_option linter.unusedSimpArgs false
def rheads_s1  (i1_ : Nat) (m1_ : List Nat) : List Nat :=
  m1_.set i1_ (root2 (rprime i1_))
def rheads_it1  (i1_ : Nat) : List Nat := iter (rheads_s1) i1_ (List.replicate 8 0)
theorem rheads_it1_z  : rheads_it1 0 = List.replicate 8 0 := rfl
theorem rheads_it1_s  (i1_ : Nat) : rheads_it1 (i1_ + 1) = rheads_s1 i1_ (rheads_it1 i1_) := by unfold rheads_it1; exact iterS _ _ _
theorem rheads_it1_l  (i1_ : Nat) : ((rheads_it1 i1_)).length = (List.replicate 8 0 : List Nat).length := iter_inv (fun (s : List Nat) => (s).length = (List.replicate 8 0 : List Nat).length) (by simp) (fun i s h => by
  unfold rheads_s1
  first | (simp [h]; done) | (dsimp only; (repeat' split) <;> simp [h])) i1_
def rheads  : List Nat :=
  (rheads_it1 8)
theorem rheads_len   : (rheads).length = 8 := by
  unfold rheads
  first | (simp [rheads_it1_l]; done) | (simp [*, rheads_it1_l]; done) | (dsimp only; (repeat' split) <;> simp [*, rheads_it1_l])
theorem w_rheads   : VC Try.prog 26 [] (.row (.ints .u64 rheads)) := by
  refine VC.go Try.func26 rfl Try.ntmps26 rfl rfl fun O w => ?_
  refine Holds.seq ?_
  refine Holds.reg ?_
  refine OpsFrom.u (Y.alloc (d := 0) ty28 rfl rfl (up0 rfl rfl rfl) rfl) rfl rfl rfl ?_
  refine OpsFrom.nil ?_
  refine Holds.seq ?_
  refine Holds.reg ?_
  refine OpsFrom.v (Y.buildA ty28 ty27 rfl (up0 rfl rfl rfl) rfl (.nil _)) rfl ?_
  refine OpsFrom.u (Y.alloc (d := 1) ty28 rfl rfl (up0 rfl rfl rfl) rfl) rfl rfl rfl ?_
  refine OpsFrom.n (Y.stR ty28 (upN rfl rfl) rfl rfl rfl rfl rfl (by first | (with_reducible assumption) | omega | (simp only [lens, *]; first | done | omega) | decide | (split <;> simp only [lens, *]) | (with_reducible exact Lt.mono (by assumption) (by decide)) | (simp only [Cs.len]; done) | rfl) (by first | (with_reducible assumption) | omega | (simp only [lens, *]; first | done | omega) | decide | (split <;> simp only [lens, *]) | (with_reducible exact Lt.mono (by assumption) (by decide)) | (simp only [Cs.len]; done) | rfl) (by decide)) rfl rfl ?_
  refine OpsFrom.nil ?_
  refine Holds.seq ?_
  refine Holds.seq ?_
  refine Holds.reg ?_
  refine OpsFrom.v (Y.assign (v := (.one (.n .i64 0))) (up0 rfl rfl rfl) rfl rfl) rfl ?_
  refine OpsFrom.nil ?_
  refine Holds.block ?_
  refine Holds.loop (fun (i1_ : Nat) => ⟨[(0, .one (.p 0 0)), (1, .one (.p 1 0)), (2, .one (.n .i64 i1_))], [(0, .own (.ints .u64 (List.replicate 8 0))), (1, .own (.ints .u64 (rheads_it1 i1_)))]⟩) (fun (i1_ : Nat) => i1_ ≤ 8) (fun (i1_ : Nat) => 8 - i1_) 0 (by first | (with_reducible assumption) | omega | (simp only [lens, rheads_it1_l, *]; first | done | omega) | decide | (split <;> simp only [lens, rheads_it1_l, *]) | (with_reducible exact Lt.mono (by assumption) (by decide)) | (simp only [Cs.len]; done) | rfl) [] ⟨⟨rfl, rfl, rfl, trivial⟩, ⟨rfl, (hEq (congrArg (fun (s : List Nat) => s) (rheads_it1_z)).symm), trivial⟩, rfl, rfl⟩ ?_
  intro i1_ k1_
  refine Holds.seq ?_
  refine Holds.seq ?_
  refine Holds.reg ?_
  refine OpsFrom.v (Y.move (up0 rfl rfl rfl) rfl rfl) rfl ?_
  refine OpsFrom.v (Y.lss (b := 8) (up0 rfl rfl rfl) rfl rfl rfl) rfl ?_
  refine OpsFrom.nil ?_
  refine Holds.condD rfl (fun h5 => ?_) (fun h5 => ?_)
  · refine Holds.skip ?_
    refine Holds.seq ?_
    refine Holds.block ?_
    refine Holds.reg ?_
    refine OpsFrom.v (Y.move (up0 rfl rfl rfl) rfl rfl) rfl ?_
    refine OpsFrom.v (Y.move (up0 rfl rfl rfl) rfl rfl) rfl ?_
    refine OpsFrom.v (Y.callV (w_rprime _ (by first | (with_reducible assumption) | omega | (simp only [lens, rheads_it1_l, *]; first | done | omega) | decide | (split <;> simp only [lens, rheads_it1_l, *]) | (with_reducible exact Lt.mono (by assumption) (by decide)) | (simp only [Cs.len]; done) | rfl)) fnok28 (up0 rfl rfl rfl) rfl rfl (.cons _ _ _ _ rfl .nil) (.cons _ _ _ _ (.same _) .nil) rfl rfl) rfl ?_
    refine OpsFrom.v (Y.callV (w_root2 _ (rprime_lt (by first | (with_reducible assumption) | omega | (simp only [lens, rheads_it1_l, *]; first | done | omega) | decide | (split <;> simp only [lens, rheads_it1_l, *]) | (with_reducible exact Lt.mono (by assumption) (by decide)) | (simp only [Cs.len]; done) | rfl))) fnok27 (up0 rfl rfl rfl) rfl rfl (.cons _ _ _ _ rfl (.cons _ _ _ _ rfl .nil)) (.cons _ _ _ _ (.same _) (.cons _ _ _ _ (.same _) .nil)) rfl rfl) rfl ?_
    refine OpsFrom.v (Y.ia0 ty28 ty27 (up0 rfl rfl rfl) rfl rfl rfl (by first | (with_reducible assumption) | omega | (simp only [lens, rheads_it1_l, *]; first | done | omega) | decide | (split <;> simp only [lens, rheads_it1_l, *]) | (with_reducible exact Lt.mono (by assumption) (by decide)) | (simp only [Cs.len]; done) | rfl)) rfl ?_
    refine OpsFrom.n (Y.stI ty27 (upN rfl rfl) rfl rfl rfl rfl (by first | (with_reducible assumption) | omega | (simp only [lens, rheads_it1_l, *]; first | done | omega) | decide | (split <;> simp only [lens, rheads_it1_l, *]) | (with_reducible exact Lt.mono (by assumption) (by decide)) | (simp only [Cs.len]; done) | rfl)) rfl rfl ?_
    refine OpsFrom.nil ?_
    refine Holds.reg ?_
    refine OpsFrom.v (Y.move (up0 rfl rfl rfl) rfl rfl) rfl ?_
    refine OpsFrom.v (Y.addI (b := 1) (up0 rfl rfl rfl) rfl rfl rfl (by first | (with_reducible assumption) | omega | (simp only [lens, rheads_it1_l, *]; first | done | omega) | decide | (split <;> simp only [lens, rheads_it1_l, *]) | (with_reducible exact Lt.mono (by assumption) (by decide)) | (simp only [Cs.len]; done) | rfl)) rfl ?_
    refine OpsFrom.v (Y.assign (up0 rfl rfl rfl) rfl rfl) rfl ?_
    refine OpsFrom.nil ?_
    exact Holds.again (i1_ + 1) (by omega) (by omega) [] ⟨⟨rfl, rfl, (nEq (by omega)), trivial⟩, ⟨rfl, (hEq (by rw [rheads_it1_s]; unfold rheads_s1; first | (dsimp only; done) | rfl)), trivial⟩, rfl, rfl⟩
  · obtain rfl : i1_ = 8 := by omega
    refine Holds.exit ?_
    refine Holds.seq ?_
    refine Holds.reg ?_
    refine OpsFrom.v (Y.ldAll ty28 rfl (up0 rfl rfl rfl) rfl rfl rfl (by first | (with_reducible assumption) | omega | (simp only [lens, rheads_it1_l, *]; first | done | omega) | decide | (split <;> simp only [lens, rheads_it1_l, *]) | (with_reducible exact Lt.mono (by assumption) (by decide)) | (simp only [Cs.len]; done) | rfl) (by decide)) rfl ?_
    refine OpsFrom.n (Y.stR ty28 (upN rfl rfl) rfl rfl rfl rfl rfl (by first | (with_reducible assumption) | omega | (simp only [lens, rheads_it1_l, *]; first | done | omega) | decide | (split <;> simp only [lens, rheads_it1_l, *]) | (with_reducible exact Lt.mono (by assumption) (by decide)) | (simp only [Cs.len]; done) | rfl) (by first | (with_reducible assumption) | omega | (simp only [lens, rheads_it1_l, *]; first | done | omega) | decide | (split <;> simp only [lens, rheads_it1_l, *]) | (with_reducible exact Lt.mono (by assumption) (by decide)) | (simp only [Cs.len]; done) | rfl) (by decide)) rfl rfl ?_
    refine OpsFrom.nil ?_
    refine Holds.ret ?_
    exact Holds.ret1 (.inl rfl) rfl (.rowN rfl rfl ty28 rfl (by first | (with_reducible assumption) | omega | (simp only [lens, rheads_it1_l, *]; first | done | omega) | decide | (split <;> simp only [lens, rheads_it1_l, *]) | (with_reducible exact Lt.mono (by assumption) (by decide)) | (simp only [Cs.len]; done) | rfl) (by decide)) (.same _) rfl

theorem rheads_eq : rheads = heads := by
  have e : ∀ i, i < 8 → rheads_it1 (i + 1) = (rheads_it1 i).set i (heads.getD i 0) := fun i hi => by
    rw [rheads_it1_s]
    unfold rheads_s1
    rw [root_H hi]
  unfold rheads
  rw [e 7 (by decide), e 6 (by decide), e 5 (by decide), e 4 (by decide), e 3 (by decide), e 2 (by decide), e 1 (by decide), e 0 (by decide), rheads_it1_z]
  decide
attribute [irreducible] rheads

end Go.Proofs.Ytjgcmfedofmkpaa
