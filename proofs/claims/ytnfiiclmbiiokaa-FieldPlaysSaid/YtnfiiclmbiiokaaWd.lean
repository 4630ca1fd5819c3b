/-
  Walks: squares.
-/
import Derived.Test.YtnfiiclmbiiokaaWc
namespace Go.Proofs.Ytnfiiclmbiiokaa
open Go Go.Fx
set_option linter.unusedVariables false
set_option linter.unusedSimpArgs false
def sqr (x : List Nat) : List Nat :=
  (mul x x)
theorem sqr_len (x : List Nat) (l_x : x.length = 5) : ((sqr x)).length = 5 := by
  unfold sqr
  first | (simp [mul_l]; done) | (simp [*, mul_l]; done) | (dsimp only; (repeat' split) <;> simp [*, mul_l])
theorem w_sqr (x : List Nat) (l_x : x.length = 5) : VC Try.prog 30 [.row (.ints .u64 x)] (.row (.ints .u64 (sqr x))) := by
  refine VC.go Try.func30 rfl Try.ntmps30 rfl rfl fun O w => ?_
  refine Holds.seq ?_
  refine Holds.reg ?_
  refine OpsFrom.u (Y.boxR (d := 1) (up0 rfl rfl rfl) rfl rfl rfl) rfl rfl rfl ?_
  refine OpsFrom.u (Y.alloc (d := 2) ty27 rfl rfl (up0 rfl rfl rfl) rfl) rfl rfl rfl ?_
  refine OpsFrom.nil ?_
  refine Holds.seq ?_
  refine Holds.reg ?_
  refine OpsFrom.v (Y.ldAll ty27 rfl (up0 rfl rfl rfl) rfl rfl rfl (by first | (with_reducible assumption) | omega | (simp only [lens, *]; first | done | omega) | decide | (split <;> simp only [lens, *]) | (with_reducible exact Lt.mono (by assumption) (by decide)) | (simp only [Cs.len]; done) | rfl) (by decide)) rfl ?_
  refine OpsFrom.v (Y.ldAll ty27 rfl (up0 rfl rfl rfl) rfl rfl rfl (by first | (with_reducible assumption) | omega | (simp only [lens, *]; first | done | omega) | decide | (split <;> simp only [lens, *]) | (with_reducible exact Lt.mono (by assumption) (by decide)) | (simp only [Cs.len]; done) | rfl) (by decide)) rfl ?_
  refine OpsFrom.v (Y.callV (w_mul _ _ (by first | (with_reducible assumption) | omega | (simp only [lens, mul_l, *]; first | done | omega) | decide | (split <;> simp only [lens, mul_l, *]) | (with_reducible exact Lt.mono (by assumption) (by decide)) | (simp only [Cs.len]; done) | rfl) (by first | (with_reducible assumption) | omega | (simp only [lens, mul_l, *]; first | done | omega) | decide | (split <;> simp only [lens, mul_l, *]) | (with_reducible exact Lt.mono (by assumption) (by decide)) | (simp only [Cs.len]; done) | rfl)) fnok28 (up0 rfl rfl rfl) rfl rfl (.cons _ _ _ _ rfl (.cons _ _ _ _ rfl .nil)) (.cons _ _ _ _ (.same _) (.cons _ _ _ _ (.same _) .nil)) rfl rfl) rfl ?_
  refine OpsFrom.n (Y.stR ty27 (upN rfl rfl) rfl rfl rfl rfl rfl (by first | (with_reducible assumption) | omega | (simp only [lens, mul_l, *]; first | done | omega) | decide | (split <;> simp only [lens, mul_l, *]) | (with_reducible exact Lt.mono (by assumption) (by decide)) | (simp only [Cs.len]; done) | rfl) (by first | (with_reducible assumption) | omega | (simp only [lens, mul_l, *]; first | done | omega) | decide | (split <;> simp only [lens, mul_l, *]) | (with_reducible exact Lt.mono (by assumption) (by decide)) | (simp only [Cs.len]; done) | rfl) (by decide)) rfl rfl ?_
  refine OpsFrom.nil ?_
  refine Holds.ret ?_
  exact Holds.ret1 (.inl rfl) rfl (.rowN rfl rfl ty27 rfl (by first | (with_reducible assumption) | omega | (simp only [lens, mul_l, *]; first | done | omega) | decide | (split <;> simp only [lens, mul_l, *]) | (with_reducible exact Lt.mono (by assumption) (by decide)) | (simp only [Cs.len]; done) | rfl) (by decide)) (.same _) rfl

theorem sqr_l (x : List Nat) : (sqr x).length = 5 := mul_l x x
attribute [irreducible] sqr
def sqs_s1 (x : List Nat) (i1_ : Nat) (m1_ : List Nat) : List Nat :=
  (sqr m1_)
def sqs_it1 (x : List Nat) (i1_ : Nat) : List Nat := iter (sqs_s1 x) i1_ x
theorem sqs_it1_z (x : List Nat) : sqs_it1 x 0 = x := rfl
theorem sqs_it1_s (x : List Nat) (i1_ : Nat) : sqs_it1 x (i1_ + 1) = sqs_s1 x i1_ (sqs_it1 x i1_) := by unfold sqs_it1; exact iterS _ _ _
theorem sqs_n {x : List Nat} (l_x : x.length = 5) (i : Nat) : (sqs_it1 x i).length = 5 := iter_inv (fun (s : List Nat) => s.length = 5) l_x (fun i s _ => by unfold sqs_s1; exact sqr_l _) i
def sqs (x : List Nat) (times : Nat) : List Nat :=
  (sqs_it1 x times)
theorem w_sqs (x : List Nat) (times : Nat) (l_x : x.length = 5) (h_times : times < 1000) : VC Try.prog 53 [.row (.ints .u64 x), .one (.n .i64 times)] (.row (.ints .u64 (sqs x times))) := by
  refine VC.go Try.func53 rfl Try.ntmps53 rfl rfl fun O w => ?_
  refine Holds.seq ?_
  refine Holds.reg ?_
  refine OpsFrom.u (Y.boxR (d := 2) (up0 rfl rfl rfl) rfl rfl rfl) rfl rfl rfl ?_
  refine OpsFrom.u (Y.alloc (d := 4) ty27 rfl rfl (up0 rfl rfl rfl) rfl) rfl rfl rfl ?_
  refine OpsFrom.nil ?_
  refine Holds.seq ?_
  refine Holds.seq ?_
  refine Holds.reg ?_
  refine OpsFrom.v (Y.move (up0 rfl rfl rfl) rfl rfl) rfl ?_
  refine OpsFrom.v (Y.move (v := (.one (.n .i64 0))) (up0 rfl rfl rfl) rfl rfl) rfl ?_
  refine OpsFrom.nil ?_
  refine Holds.block ?_
  refine Holds.loop (fun (i1_ : Nat) => ⟨[(2, .one (.p 2 0)), (4, .one (.p 4 0)), (5, .one (.n .i64 times)), (6, .one (.n .i64 i1_))], [(2, .own (.ints .u64 (sqs_it1 x i1_))), (4, .own (.ints .u64 (List.replicate 5 0)))]⟩) (fun (i1_ : Nat) => i1_ ≤ times) (fun (i1_ : Nat) => times - i1_) 0 (by first | (with_reducible assumption) | omega | (simp only [lens, *]; first | done | omega) | decide | (split <;> simp only [lens, *]) | (with_reducible exact Lt.mono (by assumption) (by decide)) | (simp only [Cs.len]; done) | rfl) [] ⟨⟨rfl, rfl, rfl, rfl, trivial⟩, ⟨(hEq (congrArg (fun (s : List Nat) => s) (sqs_it1_z x)).symm), rfl, trivial⟩, rfl, rfl⟩ ?_
  intro i1_ k1_
  have hsn := sqs_n l_x i1_
  refine Holds.seq ?_
  refine Holds.reg ?_
  refine OpsFrom.v (Y.lss (up0 rfl rfl rfl) rfl rfl rfl) rfl ?_
  refine OpsFrom.nil ?_
  refine Holds.seq ?_
  refine Holds.condD rfl (fun h7 => ?_) (fun h7 => ?_)
  · refine Holds.skip ?_
    refine Holds.seq ?_
    refine Holds.block ?_
    refine Holds.reg ?_
    refine OpsFrom.v (Y.ldAll ty27 rfl (up0 rfl rfl rfl) rfl rfl rfl (by first | (with_reducible assumption) | omega | (simp only [lens, *]; first | done | omega) | decide | (split <;> simp only [lens, *]) | (with_reducible exact Lt.mono (by assumption) (by decide)) | (simp only [Cs.len]; done) | rfl) (by decide)) rfl ?_
    refine OpsFrom.v (Y.callV (w_sqr _ (by first | (with_reducible assumption) | omega | (simp only [lens, sqr_l, *]; first | done | omega) | decide | (split <;> simp only [lens, sqr_l, *]) | (with_reducible exact Lt.mono (by assumption) (by decide)) | (simp only [Cs.len]; done) | rfl)) fnok30 (up0 rfl rfl rfl) rfl rfl (.cons _ _ _ _ rfl .nil) (.cons _ _ _ _ (.same _) .nil) rfl rfl) rfl ?_
    refine OpsFrom.n (Y.stR ty27 (upN rfl rfl) rfl rfl rfl rfl rfl (by first | (with_reducible assumption) | omega | (simp only [lens, sqr_l, *]; first | done | omega) | decide | (split <;> simp only [lens, sqr_l, *]) | (with_reducible exact Lt.mono (by assumption) (by decide)) | (simp only [Cs.len]; done) | rfl) (by first | (with_reducible assumption) | omega | (simp only [lens, sqr_l, *]; first | done | omega) | decide | (split <;> simp only [lens, sqr_l, *]) | (with_reducible exact Lt.mono (by assumption) (by decide)) | (simp only [Cs.len]; done) | rfl) (by decide)) rfl rfl ?_
    refine OpsFrom.nil ?_
    refine Holds.reg ?_
    refine OpsFrom.v (Y.addI (b := 1) (up0 rfl rfl rfl) rfl rfl rfl (by first | (with_reducible assumption) | omega | (simp only [lens, sqr_l, *]; first | done | omega) | decide | (split <;> simp only [lens, sqr_l, *]) | (with_reducible exact Lt.mono (by assumption) (by decide)) | (simp only [Cs.len]; done) | rfl)) rfl ?_
    refine OpsFrom.v (Y.move (up0 rfl rfl rfl) rfl rfl) rfl ?_
    refine OpsFrom.nil ?_
    exact Holds.again (i1_ + 1) (by omega) (by omega) [] ⟨⟨rfl, rfl, rfl, (nEq (by omega)), trivial⟩, ⟨(hEq (by rw [sqs_it1_s]; unfold sqs_s1; first | (dsimp only; done) | rfl)), rfl, trivial⟩, rfl, rfl⟩
  · obtain rfl : i1_ = times := by omega
    refine Holds.exit ?_
    refine Holds.seq ?_
    refine Holds.reg ?_
    refine OpsFrom.v (Y.ldAll ty27 rfl (up0 rfl rfl rfl) rfl rfl rfl (by first | (with_reducible assumption) | omega | (simp only [lens, *]; first | done | omega) | decide | (split <;> simp only [lens, *]) | (with_reducible exact Lt.mono (by assumption) (by decide)) | (simp only [Cs.len]; done) | rfl) (by decide)) rfl ?_
    refine OpsFrom.n (Y.stR ty27 (upN rfl rfl) rfl rfl rfl rfl rfl (by first | (with_reducible assumption) | omega | (simp only [lens, *]; first | done | omega) | decide | (split <;> simp only [lens, *]) | (with_reducible exact Lt.mono (by assumption) (by decide)) | (simp only [Cs.len]; done) | rfl) (by first | (with_reducible assumption) | omega | (simp only [lens, *]; first | done | omega) | decide | (split <;> simp only [lens, *]) | (with_reducible exact Lt.mono (by assumption) (by decide)) | (simp only [Cs.len]; done) | rfl) (by decide)) rfl rfl ?_
    refine OpsFrom.nil ?_
    refine Holds.ret ?_
    exact Holds.ret1 (.inl rfl) rfl (.rowN rfl rfl ty27 rfl (by first | (with_reducible assumption) | omega | (simp only [lens, *]; first | done | omega) | decide | (split <;> simp only [lens, *]) | (with_reducible exact Lt.mono (by assumption) (by decide)) | (simp only [Cs.len]; done) | rfl) (by decide)) (.same _) rfl

theorem sqs_l (x : List Nat) (times : Nat) (l_x : x.length = 5) : (sqs x times).length = 5 := sqs_n l_x times
attribute [irreducible] sqs
def sml (n : Nat) : List Nat :=
  (List.replicate 5 0).set 0 n
theorem sml_len (n : Nat)  : ((sml n)).length = 5 := by
  unfold sml
  first | (simp [id]; done) | (simp [*, id]; done) | (dsimp only; (repeat' split) <;> simp [*, id])
theorem w_sml (n : Nat)  : VC Try.prog 54 [.one (.n .u64 n)] (.row (.ints .u64 (sml n))) := by
  refine VC.go Try.func54 rfl Try.ntmps54 rfl rfl fun O w => ?_
  refine Holds.seq ?_
  refine Holds.reg ?_
  refine OpsFrom.u (Y.alloc (d := 2) ty27 rfl rfl (up0 rfl rfl rfl) rfl) rfl rfl rfl ?_
  refine OpsFrom.nil ?_
  refine Holds.seq ?_
  refine Holds.reg ?_
  refine OpsFrom.v (Y.move (up0 rfl rfl rfl) rfl rfl) rfl ?_
  refine OpsFrom.v (Y.buildA ty25 ty24 rfl (up0 rfl rfl rfl) rfl (.cons _ _ _ _ _ _ _ _ _ rfl rfl rfl rfl (Spl.n (by first | decide | (simp; done))) (.nil _))) rfl ?_
  refine OpsFrom.v (Y.buildT [(0, 5)] ty27 rfl (by kernel_rfl) (up0 rfl rfl rfl) rfl (.cons _ _ _ _ _ _ _ _ _ rfl rfl rfl (by unfold AV.clen Cs.len; exact (by first | (with_reducible assumption) | omega | (simp only [lens, *]; first | done | omega) | decide | (split <;> simp only [lens, *]) | (with_reducible exact Lt.mono (by assumption) (by decide)) | (simp only [Cs.len]; done) | rfl)) (Spl.all (by first | (with_reducible assumption) | omega | (simp only [lens, *]; first | done | omega) | decide | (split <;> simp only [lens, *]) | (with_reducible exact Lt.mono (by assumption) (by decide)) | (simp only [Cs.len]; done) | rfl)) (.nil _))) rfl ?_
  refine OpsFrom.n (Y.stR ty27 (upN rfl rfl) rfl rfl rfl rfl rfl (by first | (with_reducible assumption) | omega | (simp only [lens, *]; first | done | omega) | decide | (split <;> simp only [lens, *]) | (with_reducible exact Lt.mono (by assumption) (by decide)) | (simp only [Cs.len]; done) | rfl) (by first | (with_reducible assumption) | omega | (simp only [lens, *]; first | done | omega) | decide | (split <;> simp only [lens, *]) | (with_reducible exact Lt.mono (by assumption) (by decide)) | (simp only [Cs.len]; done) | rfl) (by decide)) rfl rfl ?_
  refine OpsFrom.nil ?_
  refine Holds.ret ?_
  exact Holds.ret1 (.inl rfl) rfl (.rowN rfl rfl ty27 rfl (by first | (with_reducible assumption) | omega | (simp only [lens, *]; first | done | omega) | decide | (split <;> simp only [lens, *]) | (with_reducible exact Lt.mono (by assumption) (by decide)) | (simp only [Cs.len]; done) | rfl) (by decide)) (.same _) rfl

attribute [irreducible] sml

end Go.Proofs.Ytnfiiclmbiiokaa
