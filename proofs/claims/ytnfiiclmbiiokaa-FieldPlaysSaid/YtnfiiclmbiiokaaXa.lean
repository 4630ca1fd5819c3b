/-
  Walks: small numbers of the laws.
-/
import Derived.Test.YtnfiiclmbiiokaaWf
namespace Go.Proofs.Ytnfiiclmbiiokaa
open Go Go.Fx
set_option linter.unusedVariables false
set_option linter.unusedSimpArgs false
def fof (n : Nat) : List Nat :=
  (load ((List.replicate 32 0).set 0 n))
theorem fof_len (n : Nat)  : ((fof n)).length = 5 := by
  unfold fof
  first | (simp [load_l]; done) | (simp [*, load_l]; done) | (dsimp only; (repeat' split) <;> simp [*, load_l])
theorem w_fof (n : Nat)  : VC Try.prog 37 [.one (.n .u8 n)] (.row (.ints .u64 (fof n))) := by
  refine VC.go Try.func37 rfl Try.ntmps37 rfl rfl fun O w => ?_
  refine Holds.seq ?_
  refine Holds.reg ?_
  refine OpsFrom.u (Y.alloc (d := 2) ty27 rfl rfl (up0 rfl rfl rfl) rfl) rfl rfl rfl ?_
  refine OpsFrom.nil ?_
  refine Holds.seq ?_
  refine Holds.reg ?_
  refine OpsFrom.v (Y.move (up0 rfl rfl rfl) rfl rfl) rfl ?_
  refine OpsFrom.v (Y.buildA ty22 ty5 rfl (up0 rfl rfl rfl) rfl (.cons _ _ _ _ _ _ _ _ _ rfl rfl rfl rfl (Spl.n (by first | decide | (simp; done))) (.nil _))) rfl ?_
  refine OpsFrom.v (Y.callV (w_load _ (by first | (with_reducible assumption) | omega | (simp only [lens, load_l, *]; first | done | omega) | decide | (split <;> simp only [lens, load_l, *]) | (with_reducible exact Lt.mono (by assumption) (by decide)) | (simp only [Cs.len]; done) | rfl)) fnok16 (up0 rfl rfl rfl) rfl rfl (.cons _ _ _ _ rfl .nil) (.cons _ _ _ _ (.same _) .nil) rfl rfl) rfl ?_
  refine OpsFrom.n (Y.stR ty27 (upN rfl rfl) rfl rfl rfl rfl rfl (by first | (with_reducible assumption) | omega | (simp only [lens, load_l, *]; first | done | omega) | decide | (split <;> simp only [lens, load_l, *]) | (with_reducible exact Lt.mono (by assumption) (by decide)) | (simp only [Cs.len]; done) | rfl) (by first | (with_reducible assumption) | omega | (simp only [lens, load_l, *]; first | done | omega) | decide | (split <;> simp only [lens, load_l, *]) | (with_reducible exact Lt.mono (by assumption) (by decide)) | (simp only [Cs.len]; done) | rfl) (by decide)) rfl rfl ?_
  refine OpsFrom.nil ?_
  refine Holds.ret ?_
  exact Holds.ret1 (.inl rfl) rfl (.rowN rfl rfl ty27 rfl (by first | (with_reducible assumption) | omega | (simp only [lens, load_l, *]; first | done | omega) | decide | (split <;> simp only [lens, load_l, *]) | (with_reducible exact Lt.mono (by assumption) (by decide)) | (simp only [Cs.len]; done) | rfl) (by decide)) (.same _) rfl

def fword_s1 (n : Nat) (i1_ : Nat) (m1_ : List Nat) : List Nat :=
  let v3_ : Nat := n / 2 ^ ((8 * i1_) % 18446744073709551616)
  m1_.set i1_ (v3_ % 256)
def fword_it1 (n : Nat) (i1_ : Nat) : List Nat := iter (fword_s1 n) i1_ (List.replicate 32 0)
theorem fword_it1_z (n : Nat) : fword_it1 n 0 = List.replicate 32 0 := rfl
theorem fword_it1_s (n : Nat) (i1_ : Nat) : fword_it1 n (i1_ + 1) = fword_s1 n i1_ (fword_it1 n i1_) := by unfold fword_it1; exact iterS _ _ _
theorem fword_it1_l (n : Nat) (i1_ : Nat) : ((fword_it1 n i1_)).length = (List.replicate 32 0 : List Nat).length := iter_inv (fun (s : List Nat) => (s).length = (List.replicate 32 0 : List Nat).length) (by simp) (fun i s h => by
  unfold fword_s1
  first | (simp [h]; done) | (dsimp only; (repeat' split) <;> simp [h])) i1_
def fword (n : Nat) : List Nat :=
  (load (fword_it1 n 8))
theorem fword_len (n : Nat)  : ((fword n)).length = 5 := by
  unfold fword
  first | (simp [fword_it1_l, load_l]; done) | (simp [*, fword_it1_l, load_l]; done) | (dsimp only; (repeat' split) <;> simp [*, fword_it1_l, load_l])
theorem w_fword (n : Nat)  : VC Try.prog 33 [.one (.n .u64 n)] (.row (.ints .u64 (fword n))) := by
  refine VC.go Try.func33 rfl Try.ntmps33 rfl rfl fun O w => ?_
  refine Holds.seq ?_
  refine Holds.reg ?_
  refine OpsFrom.u (Y.alloc (d := 2) ty27 rfl rfl (up0 rfl rfl rfl) rfl) rfl rfl rfl ?_
  refine OpsFrom.nil ?_
  refine Holds.seq ?_
  refine Holds.reg ?_
  refine OpsFrom.v (Y.buildA ty22 ty5 rfl (up0 rfl rfl rfl) rfl (.nil _)) rfl ?_
  refine OpsFrom.u (Y.alloc (d := 3) ty22 rfl rfl (up0 rfl rfl rfl) rfl) rfl rfl rfl ?_
  refine OpsFrom.n (Y.stR ty22 (upN rfl rfl) rfl rfl rfl rfl rfl (by first | (with_reducible assumption) | omega | (simp only [lens, *]; first | done | omega) | decide | (split <;> simp only [lens, *]) | (with_reducible exact Lt.mono (by assumption) (by decide)) | (simp only [Cs.len]; done) | rfl) (by first | (with_reducible assumption) | omega | (simp only [lens, *]; first | done | omega) | decide | (split <;> simp only [lens, *]) | (with_reducible exact Lt.mono (by assumption) (by decide)) | (simp only [Cs.len]; done) | rfl) (by decide)) rfl rfl ?_
  refine OpsFrom.nil ?_
  refine Holds.seq ?_
  refine Holds.seq ?_
  refine Holds.reg ?_
  refine OpsFrom.v (Y.assign (v := (.one (.n .i64 0))) (up0 rfl rfl rfl) rfl rfl) rfl ?_
  refine OpsFrom.nil ?_
  refine Holds.block ?_
  refine Holds.loop (fun (i1_ : Nat) => ⟨[(0, .one (.n .u64 n)), (2, .one (.p 2 0)), (3, .one (.p 3 0)), (4, .one (.n .i64 i1_))], [(2, .own (.ints .u64 (List.replicate 5 0))), (3, .own (.ints .u8 (fword_it1 n i1_)))]⟩) (fun (i1_ : Nat) => i1_ ≤ 8) (fun (i1_ : Nat) => 8 - i1_) 0 (by first | (with_reducible assumption) | omega | (simp only [lens, fword_it1_l, *]; first | done | omega) | decide | (split <;> simp only [lens, fword_it1_l, *]) | (with_reducible exact Lt.mono (by assumption) (by decide)) | (simp only [Cs.len]; done) | rfl) [] ⟨⟨rfl, rfl, rfl, rfl, trivial⟩, ⟨rfl, (hEq (congrArg (fun (s : List Nat) => s) (fword_it1_z n)).symm), trivial⟩, rfl, rfl⟩ ?_
  intro i1_ k1_
  refine Holds.seq ?_
  refine Holds.seq ?_
  refine Holds.reg ?_
  refine OpsFrom.v (Y.move (up0 rfl rfl rfl) rfl rfl) rfl ?_
  refine OpsFrom.v (Y.lss (b := 8) (up0 rfl rfl rfl) rfl rfl rfl) rfl ?_
  refine OpsFrom.nil ?_
  refine Holds.condD rfl (fun h7 => ?_) (fun h7 => ?_)
  · refine Holds.skip ?_
    refine Holds.seq ?_
    refine Holds.block ?_
    refine Holds.reg ?_
    refine OpsFrom.v (Y.move (up0 rfl rfl rfl) rfl rfl) rfl ?_
    refine OpsFrom.v (Y.move (up0 rfl rfl rfl) rfl rfl) rfl ?_
    refine OpsFrom.v (Y.move (up0 rfl rfl rfl) rfl rfl) rfl ?_
    refine OpsFrom.v (Y.mulI (a := 8) (up0 rfl rfl rfl) rfl rfl rfl (by first | (with_reducible assumption) | omega | (simp only [lens, fword_it1_l, *]; first | done | omega) | decide | (split <;> simp only [lens, fword_it1_l, *]) | (with_reducible exact Lt.mono (by assumption) (by decide)) | (simp only [Cs.len]; done) | rfl)) rfl ?_
    refine OpsFrom.v (Y.conv ty3.u ty70.u u64s u64m (up0 rfl rfl rfl) rfl rfl) rfl ?_
    refine OpsFrom.v (Y.shr u64s u64m (up0 rfl rfl rfl) rfl rfl rfl) rfl ?_
    refine OpsFrom.v (Y.conv ty24.u ty5.u u8s u8m (up0 rfl rfl rfl) rfl rfl) rfl ?_
    refine OpsFrom.v (Y.ia0 ty22 ty5 (up0 rfl rfl rfl) rfl rfl rfl (by first | (with_reducible assumption) | omega | (simp only [lens, fword_it1_l, *]; first | done | omega) | decide | (split <;> simp only [lens, fword_it1_l, *]) | (with_reducible exact Lt.mono (by assumption) (by decide)) | (simp only [Cs.len]; done) | rfl)) rfl ?_
    refine OpsFrom.n (Y.stI ty5 (upN rfl rfl) rfl rfl rfl rfl (by first | (with_reducible assumption) | omega | (simp only [lens, fword_it1_l, *]; first | done | omega) | decide | (split <;> simp only [lens, fword_it1_l, *]) | (with_reducible exact Lt.mono (by assumption) (by decide)) | (simp only [Cs.len]; done) | rfl)) rfl rfl ?_
    refine OpsFrom.nil ?_
    refine Holds.reg ?_
    refine OpsFrom.v (Y.move (up0 rfl rfl rfl) rfl rfl) rfl ?_
    refine OpsFrom.v (Y.addI (b := 1) (up0 rfl rfl rfl) rfl rfl rfl (by first | (with_reducible assumption) | omega | (simp only [lens, fword_it1_l, *]; first | done | omega) | decide | (split <;> simp only [lens, fword_it1_l, *]) | (with_reducible exact Lt.mono (by assumption) (by decide)) | (simp only [Cs.len]; done) | rfl)) rfl ?_
    refine OpsFrom.v (Y.assign (up0 rfl rfl rfl) rfl rfl) rfl ?_
    refine OpsFrom.nil ?_
    exact Holds.again (i1_ + 1) (by omega) (by omega) [] ⟨⟨rfl, rfl, rfl, (nEq (by omega)), trivial⟩, ⟨rfl, (hEq (by rw [fword_it1_s]; unfold fword_s1; first | (dsimp only; done) | rfl)), trivial⟩, rfl, rfl⟩
  · obtain rfl : i1_ = 8 := by omega
    refine Holds.exit ?_
    refine Holds.seq ?_
    refine Holds.reg ?_
    refine OpsFrom.v (Y.ldAll ty22 rfl (up0 rfl rfl rfl) rfl rfl rfl (by first | (with_reducible assumption) | omega | (simp only [lens, fword_it1_l, *]; first | done | omega) | decide | (split <;> simp only [lens, fword_it1_l, *]) | (with_reducible exact Lt.mono (by assumption) (by decide)) | (simp only [Cs.len]; done) | rfl) (by decide)) rfl ?_
    refine OpsFrom.v (Y.callV (w_load _ (by first | (with_reducible assumption) | omega | (simp only [lens, fword_it1_l, load_l, *]; first | done | omega) | decide | (split <;> simp only [lens, fword_it1_l, load_l, *]) | (with_reducible exact Lt.mono (by assumption) (by decide)) | (simp only [Cs.len]; done) | rfl)) fnok16 (up0 rfl rfl rfl) rfl rfl (.cons _ _ _ _ rfl .nil) (.cons _ _ _ _ (.same _) .nil) rfl rfl) rfl ?_
    refine OpsFrom.n (Y.stR ty27 (upN rfl rfl) rfl rfl rfl rfl rfl (by first | (with_reducible assumption) | omega | (simp only [lens, fword_it1_l, load_l, *]; first | done | omega) | decide | (split <;> simp only [lens, fword_it1_l, load_l, *]) | (with_reducible exact Lt.mono (by assumption) (by decide)) | (simp only [Cs.len]; done) | rfl) (by first | (with_reducible assumption) | omega | (simp only [lens, fword_it1_l, load_l, *]; first | done | omega) | decide | (split <;> simp only [lens, fword_it1_l, load_l, *]) | (with_reducible exact Lt.mono (by assumption) (by decide)) | (simp only [Cs.len]; done) | rfl) (by decide)) rfl rfl ?_
    refine OpsFrom.nil ?_
    refine Holds.ret ?_
    exact Holds.ret1 (.inl rfl) rfl (.rowN rfl rfl ty27 rfl (by first | (with_reducible assumption) | omega | (simp only [lens, fword_it1_l, load_l, *]; first | done | omega) | decide | (split <;> simp only [lens, fword_it1_l, load_l, *]) | (with_reducible exact Lt.mono (by assumption) (by decide)) | (simp only [Cs.len]; done) | rfl) (by decide)) (.same _) rfl

theorem fof_l (n : Nat) : (fof n).length = 5 := by unfold fof; exact load_l _
theorem fword_l (n : Nat) : (fword n).length = 5 := by unfold fword; exact load_l _
attribute [irreducible] fof fword

end Go.Proofs.Ytnfiiclmbiiokaa
