/-
  Walks: chapter 18: the document.
-/
import Derived.Test.YtkpelchcpiafaaaTa
namespace Go.Proofs.Ytkpelchcpiafaaa
open Go Go.Fx
set_option linter.unusedVariables false
set_option linter.unusedSimpArgs false
def rnonce_s1 (n : Nat) (i1_ : Nat) (m1_ : List Nat) : List Nat :=
  let v3_ : Nat := n / 2 ^ ((56 - (8 * i1_)) % 18446744073709551616)
  m1_.set i1_ (v3_ % 256)
def rnonce_it1 (n : Nat) (i1_ : Nat) : List Nat := iter (rnonce_s1 n) i1_ (List.replicate 12 0)
theorem rnonce_it1_z (n : Nat) : rnonce_it1 n 0 = List.replicate 12 0 := rfl
theorem rnonce_it1_s (n : Nat) (i1_ : Nat) : rnonce_it1 n (i1_ + 1) = rnonce_s1 n i1_ (rnonce_it1 n i1_) := by unfold rnonce_it1; exact iterS _ _ _
theorem rnonce_it1_l (n : Nat) (i1_ : Nat) : ((rnonce_it1 n i1_)).length = (List.replicate 12 0 : List Nat).length := iter_inv (fun (s : List Nat) => (s).length = (List.replicate 12 0 : List Nat).length) (by simp) (fun i s h => by
  unfold rnonce_s1
  first | (simp [h]; done) | (dsimp only; (repeat' split) <;> simp [h])) i1_
def rnonce (n : Nat) (last : Bool) : List Nat :=
  if last = true then
    (rnonce_it1 n 8).set 8 1
  else
    (rnonce_it1 n 8)
theorem rnonce_len (n : Nat) (last : Bool)  : ((rnonce n last)).length = 12 := by
  unfold rnonce
  first | (simp [rnonce_it1_l]; done) | (simp [*, rnonce_it1_l]; done) | ((try dsimp only); (repeat' split) <;> simp [*, rnonce_it1_l])
theorem w_rnonce (n : Nat) (last : Bool)  : VC Try.prog 47 [.one (.n .u64 n), .one (.b last)] (.row (.ints .u8 (rnonce n last))) := by
  refine VC.go Try.func47 rfl Try.ntmps47 rfl rfl fun O w => ?_
  refine Holds.seq ?_
  refine Holds.reg ?_
  refine OpsFrom.u (Y.alloc (d := 4) ty25 rfl rfl (up0 rfl rfl rfl) rfl) rfl rfl rfl ?_
  refine OpsFrom.nil ?_
  refine Holds.seq ?_
  refine Holds.reg ?_
  refine OpsFrom.v (Y.buildA ty25 ty5 rfl (up0 rfl rfl rfl) rfl (.nil _)) rfl ?_
  refine OpsFrom.u (Y.alloc (d := 5) ty25 rfl rfl (up0 rfl rfl rfl) rfl) rfl rfl rfl ?_
  refine OpsFrom.n (Y.stR ty25 (upN rfl rfl) rfl rfl rfl rfl rfl (by first | (with_reducible assumption) | omega | (simp only [lens, *]; first | done | omega) | decide | (split <;> simp only [lens, *]) | (with_reducible exact Lt.mono (by assumption) (by decide)) | (simp only [Cs.len]; done) | rfl) (by first | (with_reducible assumption) | omega | (simp only [lens, *]; first | done | omega) | decide | (split <;> simp only [lens, *]) | (with_reducible exact Lt.mono (by assumption) (by decide)) | (simp only [Cs.len]; done) | rfl) (by decide)) rfl rfl ?_
  refine OpsFrom.nil ?_
  refine Holds.seq ?_
  refine Holds.seq ?_
  refine Holds.reg ?_
  refine OpsFrom.v (Y.assign (v := (.one (.n .i64 0))) (up0 rfl rfl rfl) rfl rfl) rfl ?_
  refine OpsFrom.nil ?_
  refine Holds.block ?_
  refine Holds.loop (fun (i1_ : Nat) => ⟨[(0, .one (.n .u64 n)), (1, .one (.b last)), (4, .one (.p 4 0)), (5, .one (.p 5 0)), (6, .one (.n .i64 i1_))], [(4, .own (.ints .u8 (List.replicate 12 0))), (5, .own (.ints .u8 (rnonce_it1 n i1_)))]⟩) (fun (i1_ : Nat) => i1_ ≤ 8) (fun (i1_ : Nat) => 8 - i1_) 0 (by first | (with_reducible assumption) | omega | (simp only [lens, rnonce_it1_l, *]; first | done | omega) | decide | (split <;> simp only [lens, rnonce_it1_l, *]) | (with_reducible exact Lt.mono (by assumption) (by decide)) | (simp only [Cs.len]; done) | rfl) [] ⟨⟨rfl, rfl, rfl, rfl, rfl, trivial⟩, ⟨rfl, (hEq (congrArg (fun (s : List Nat) => s) (rnonce_it1_z n)).symm), trivial⟩, rfl, rfl⟩ ?_
  intro i1_ k1_
  refine Holds.seq ?_
  refine Holds.seq ?_
  refine Holds.reg ?_
  refine OpsFrom.v (Y.move (up0 rfl rfl rfl) rfl rfl) rfl ?_
  refine OpsFrom.v (Y.lss (b := 8) (up0 rfl rfl rfl) rfl rfl rfl) rfl ?_
  refine OpsFrom.nil ?_
  refine Holds.condD rfl (fun h9 => ?_) (fun h9 => ?_)
  · refine Holds.skip ?_
    refine Holds.seq ?_
    refine Holds.block ?_
    refine Holds.reg ?_
    refine OpsFrom.v (Y.move (up0 rfl rfl rfl) rfl rfl) rfl ?_
    refine OpsFrom.v (Y.move (up0 rfl rfl rfl) rfl rfl) rfl ?_
    refine OpsFrom.v (Y.move (up0 rfl rfl rfl) rfl rfl) rfl ?_
    refine OpsFrom.v (Y.mulI (a := 8) (up0 rfl rfl rfl) rfl rfl rfl (by first | (with_reducible assumption) | omega | (simp only [lens, rnonce_it1_l, *]; first | done | omega) | decide | (split <;> simp only [lens, rnonce_it1_l, *]) | (with_reducible exact Lt.mono (by assumption) (by decide)) | (simp only [Cs.len]; done) | rfl)) rfl ?_
    refine OpsFrom.v (Y.subI (a := 56) (up0 rfl rfl rfl) rfl rfl rfl (by first | (with_reducible assumption) | omega | (simp only [lens, rnonce_it1_l, *]; first | done | omega) | decide | (split <;> simp only [lens, rnonce_it1_l, *]) | (with_reducible exact Lt.mono (by assumption) (by decide)) | (simp only [Cs.len]; done) | rfl) (by first | (with_reducible assumption) | omega | (simp only [lens, rnonce_it1_l, *]; first | done | omega) | decide | (split <;> simp only [lens, rnonce_it1_l, *]) | (with_reducible exact Lt.mono (by assumption) (by decide)) | (simp only [Cs.len]; done) | rfl)) rfl ?_
    refine OpsFrom.v (Y.conv ty3.u ty67.u u64s u64m (up0 rfl rfl rfl) rfl rfl) rfl ?_
    refine OpsFrom.v (Y.shr u64s u64m (up0 rfl rfl rfl) rfl rfl rfl) rfl ?_
    refine OpsFrom.v (Y.conv ty42.u ty5.u u8s u8m (up0 rfl rfl rfl) rfl rfl) rfl ?_
    refine OpsFrom.v (Y.ia0 ty25 ty5 (up0 rfl rfl rfl) rfl rfl rfl (by first | (with_reducible assumption) | omega | (simp only [lens, rnonce_it1_l, *]; first | done | omega) | decide | (split <;> simp only [lens, rnonce_it1_l, *]) | (with_reducible exact Lt.mono (by assumption) (by decide)) | (simp only [Cs.len]; done) | rfl)) rfl ?_
    refine OpsFrom.n (Y.stI ty5 (upN rfl rfl) rfl rfl rfl rfl (by first | (with_reducible assumption) | omega | (simp only [lens, rnonce_it1_l, *]; first | done | omega) | decide | (split <;> simp only [lens, rnonce_it1_l, *]) | (with_reducible exact Lt.mono (by assumption) (by decide)) | (simp only [Cs.len]; done) | rfl)) rfl rfl ?_
    refine OpsFrom.nil ?_
    refine Holds.reg ?_
    refine OpsFrom.v (Y.move (up0 rfl rfl rfl) rfl rfl) rfl ?_
    refine OpsFrom.v (Y.addI (b := 1) (up0 rfl rfl rfl) rfl rfl rfl (by first | (with_reducible assumption) | omega | (simp only [lens, rnonce_it1_l, *]; first | done | omega) | decide | (split <;> simp only [lens, rnonce_it1_l, *]) | (with_reducible exact Lt.mono (by assumption) (by decide)) | (simp only [Cs.len]; done) | rfl)) rfl ?_
    refine OpsFrom.v (Y.assign (up0 rfl rfl rfl) rfl rfl) rfl ?_
    refine OpsFrom.nil ?_
    exact Holds.again (i1_ + 1) (by omega) (by omega) [] ⟨⟨rfl, rfl, rfl, rfl, (nEq (by omega)), trivial⟩, ⟨rfl, (hEq (by rw [rnonce_it1_s]; unfold rnonce_s1; first | (dsimp only; done) | rfl)), trivial⟩, rfl, rfl⟩
  · obtain rfl : i1_ = 8 := by omega
    refine Holds.exit ?_
    refine Holds.seq ?_
    refine Holds.seq ?_
    refine Holds.reg ?_
    refine OpsFrom.v (Y.move (up0 rfl rfl rfl) rfl rfl) rfl ?_
    refine OpsFrom.nil ?_
    refine Holds.cond _ rfl (fun h21 => ?_) (fun h21 => ?_)
    · refine Holds.reg ?_
      refine OpsFrom.v (Y.ia0 (i := 8) ty25 ty5 (up0 rfl rfl rfl) rfl rfl rfl (by first | (with_reducible assumption) | omega | (simp only [lens, rnonce_it1_l, *]; first | done | omega) | decide | (split <;> simp only [lens, rnonce_it1_l, *]) | (with_reducible exact Lt.mono (by assumption) (by decide)) | (simp only [Cs.len]; done) | rfl)) rfl ?_
      refine OpsFrom.n (Y.stI ty5 (upN rfl rfl) rfl rfl rfl rfl (by first | (with_reducible assumption) | omega | (simp only [lens, rnonce_it1_l, *]; first | done | omega) | decide | (split <;> simp only [lens, rnonce_it1_l, *]) | (with_reducible exact Lt.mono (by assumption) (by decide)) | (simp only [Cs.len]; done) | rfl)) rfl rfl ?_
      refine OpsFrom.nil ?_
      refine Holds.seq ?_
      refine Holds.reg ?_
      refine OpsFrom.v (Y.ldAll ty25 rfl (up0 rfl rfl rfl) rfl rfl rfl (by first | (with_reducible assumption) | omega | (simp only [lens, rnonce_it1_l, *]; first | done | omega) | decide | (split <;> simp only [lens, rnonce_it1_l, *]) | (with_reducible exact Lt.mono (by assumption) (by decide)) | (simp only [Cs.len]; done) | rfl) (by decide)) rfl ?_
      refine OpsFrom.n (Y.stR ty25 (upN rfl rfl) rfl rfl rfl rfl rfl (by first | (with_reducible assumption) | omega | (simp only [lens, rnonce_it1_l, *]; first | done | omega) | decide | (split <;> simp only [lens, rnonce_it1_l, *]) | (with_reducible exact Lt.mono (by assumption) (by decide)) | (simp only [Cs.len]; done) | rfl) (by first | (with_reducible assumption) | omega | (simp only [lens, rnonce_it1_l, *]; first | done | omega) | decide | (split <;> simp only [lens, rnonce_it1_l, *]) | (with_reducible exact Lt.mono (by assumption) (by decide)) | (simp only [Cs.len]; done) | rfl) (by decide)) rfl rfl ?_
      refine OpsFrom.nil ?_
      refine Holds.ret ?_
      exact Holds.ret1 (.inl rfl) rfl (.rowN rfl rfl ty25 rfl (by first | (with_reducible assumption) | omega | (simp only [lens, rnonce_it1_l, *]; first | done | omega) | decide | (split <;> simp only [lens, rnonce_it1_l, *]) | (with_reducible exact Lt.mono (by assumption) (by decide)) | (simp only [Cs.len]; done) | rfl) (by decide)) (View.cg (congrArg (fun z => (.row (.ints .u8 z) : AV)) (show (rnonce n last) = _ from (by unfold rnonce; exact (if_pos h21)))) (.same _)) rfl
    · refine Holds.skip ?_
      refine Holds.seq ?_
      refine Holds.reg ?_
      refine OpsFrom.v (Y.ldAll ty25 rfl (up0 rfl rfl rfl) rfl rfl rfl (by first | (with_reducible assumption) | omega | (simp only [lens, rnonce_it1_l, *]; first | done | omega) | decide | (split <;> simp only [lens, rnonce_it1_l, *]) | (with_reducible exact Lt.mono (by assumption) (by decide)) | (simp only [Cs.len]; done) | rfl) (by decide)) rfl ?_
      refine OpsFrom.n (Y.stR ty25 (upN rfl rfl) rfl rfl rfl rfl rfl (by first | (with_reducible assumption) | omega | (simp only [lens, rnonce_it1_l, *]; first | done | omega) | decide | (split <;> simp only [lens, rnonce_it1_l, *]) | (with_reducible exact Lt.mono (by assumption) (by decide)) | (simp only [Cs.len]; done) | rfl) (by first | (with_reducible assumption) | omega | (simp only [lens, rnonce_it1_l, *]; first | done | omega) | decide | (split <;> simp only [lens, rnonce_it1_l, *]) | (with_reducible exact Lt.mono (by assumption) (by decide)) | (simp only [Cs.len]; done) | rfl) (by decide)) rfl rfl ?_
      refine OpsFrom.nil ?_
      refine Holds.ret ?_
      exact Holds.ret1 (.inl rfl) rfl (.rowN rfl rfl ty25 rfl (by first | (with_reducible assumption) | omega | (simp only [lens, rnonce_it1_l, *]; first | done | omega) | decide | (split <;> simp only [lens, rnonce_it1_l, *]) | (with_reducible exact Lt.mono (by assumption) (by decide)) | (simp only [Cs.len]; done) | rfl) (by decide)) (View.cg (congrArg (fun z => (.row (.ints .u8 z) : AV)) (show (rnonce n last) = _ from (by unfold rnonce; exact (if_neg (by first | (rw [h21]; decide) | simp [h21]))))) (.same _)) rfl

def rcount (x : Nat) : Nat × Nat :=
  if (x < 0) then
    (0, 0)
  else
    if 4194304 < x then
      (0, 0)
    else
      if (((x + 512) - 1) / 512) = 0 then
        (1, x + (16 * 1))
      else
        (((x + 512) - 1) / 512, x + (16 * (((x + 512) - 1) / 512)))
theorem w_rcount (x : Nat)  : VC Try.prog 46 [.one (.n .i64 x)] (.two (.one (.n .i64 ((rcount x).1))) (.one (.n .i64 ((rcount x).2)))) := by
  refine VC.go Try.func46 rfl Try.ntmps46 rfl rfl fun O w => ?_
  refine Holds.seq ?_
  refine Holds.reg ?_
  refine OpsFrom.v (Y.assign (v := (.one (.n .i64 0))) (up0 rfl rfl rfl) rfl rfl) rfl ?_
  refine OpsFrom.v (Y.assign (v := (.one (.n .i64 0))) (up0 rfl rfl rfl) rfl rfl) rfl ?_
  refine OpsFrom.nil ?_
  refine Holds.seq ?_
  refine Holds.seq ?_
  by_cases a1_2 : (x < 0)
  · refine Holds.reg ?_
    refine OpsFrom.v (Y.move (up0 rfl rfl rfl) rfl rfl) rfl ?_
    refine OpsFrom.v (Y.lss (b := 0) (up0 rfl rfl rfl) rfl rfl rfl) rfl ?_
    refine OpsFrom.v (Doing.isB (c := true) (decide_eq_true a1_2) (Y.move (up0 rfl rfl rfl) rfl rfl)) rfl ?_
    refine OpsFrom.v (Doing.skip _ _ _ _ rfl rfl rfl rfl (dlt rfl (Nat.le_of_ble_eq_true rfl))) rfl ?_
    refine OpsFrom.v (Doing.skip _ _ _ _ rfl rfl rfl rfl (dlt rfl (Nat.le_of_ble_eq_true rfl))) rfl ?_
    refine OpsFrom.v (Y.pickT (up0 rfl rfl rfl) rfl rfl rfl) rfl ?_
    refine OpsFrom.nil ?_
    refine Holds.condT rfl ?_
    refine Holds.seq ?_
    refine Holds.reg ?_
    refine OpsFrom.v (Y.assign (v := (.one (.n .i64 0))) (up0 rfl rfl rfl) rfl rfl) rfl ?_
    refine OpsFrom.v (Y.assign (v := (.one (.n .i64 0))) (up0 rfl rfl rfl) rfl rfl) rfl ?_
    refine OpsFrom.nil ?_
    refine Holds.ret ?_
    exact Holds.ret2 (.inl rfl) rfl (.tmp _ _ rfl) (.tmp _ _ rfl) (View.cg (congrArg (fun z => (.two (.one (.n .i64 z.1)) (.one (.n .i64 z.2)) : AV)) (show (rcount x) = _ from (by unfold rcount; exact (if_pos a1_2)))) (.two _ _ _ _ (.same _) (.same _))) rfl
  · refine Holds.reg ?_
    refine OpsFrom.v (Y.move (up0 rfl rfl rfl) rfl rfl) rfl ?_
    refine OpsFrom.v (Y.lss (b := 0) (up0 rfl rfl rfl) rfl rfl rfl) rfl ?_
    refine OpsFrom.v (Doing.isB (c := false) (decide_eq_false a1_2) (Y.move (up0 rfl rfl rfl) rfl rfl)) rfl ?_
    refine OpsFrom.v (Y.move (up1 rfl rfl rfl rfl rfl rfl) rfl rfl) rfl ?_
    refine OpsFrom.v (Y.gtr (b := 4194304) (up1 rfl rfl rfl rfl rfl rfl) rfl rfl rfl) rfl ?_
    refine OpsFrom.v (Y.pickF (up0 rfl rfl rfl) rfl rfl rfl) rfl ?_
    refine OpsFrom.nil ?_
    refine Holds.condD rfl (fun h10 => ?_) (fun h10 => ?_)
    · refine Holds.seq ?_
      refine Holds.reg ?_
      refine OpsFrom.v (Y.assign (v := (.one (.n .i64 0))) (up0 rfl rfl rfl) rfl rfl) rfl ?_
      refine OpsFrom.v (Y.assign (v := (.one (.n .i64 0))) (up0 rfl rfl rfl) rfl rfl) rfl ?_
      refine OpsFrom.nil ?_
      refine Holds.ret ?_
      exact Holds.ret2 (.inl rfl) rfl (.tmp _ _ rfl) (.tmp _ _ rfl) (View.cg (congrArg (fun z => (.two (.one (.n .i64 z.1)) (.one (.n .i64 z.2)) : AV)) (show (rcount x) = _ from (by unfold rcount; exact (if_neg a1_2).trans (if_pos h10)))) (.two _ _ _ _ (.same _) (.same _))) rfl
    · refine Holds.skip ?_
      refine Holds.seq ?_
      refine Holds.reg ?_
      refine OpsFrom.v (Y.move (up0 rfl rfl rfl) rfl rfl) rfl ?_
      refine OpsFrom.v (Y.addI (b := 512) (up0 rfl rfl rfl) rfl rfl rfl (by first | (with_reducible assumption) | omega | (simp only [lens, *]; first | done | omega) | decide | (split <;> simp only [lens, *]) | (with_reducible exact Lt.mono (by assumption) (by decide)) | (simp only [Cs.len]; done) | rfl)) rfl ?_
      refine OpsFrom.v (Y.subI (b := 1) (up0 rfl rfl rfl) rfl rfl rfl (by first | (with_reducible assumption) | omega | (simp only [lens, *]; first | done | omega) | decide | (split <;> simp only [lens, *]) | (with_reducible exact Lt.mono (by assumption) (by decide)) | (simp only [Cs.len]; done) | rfl) (by first | (with_reducible assumption) | omega | (simp only [lens, *]; first | done | omega) | decide | (split <;> simp only [lens, *]) | (with_reducible exact Lt.mono (by assumption) (by decide)) | (simp only [Cs.len]; done) | rfl)) rfl ?_
      refine OpsFrom.v (Y.quoI (b := 512) (up0 rfl rfl rfl) rfl rfl rfl (by first | (with_reducible assumption) | omega | (simp only [lens, *]; first | done | omega) | decide | (split <;> simp only [lens, *]) | (with_reducible exact Lt.mono (by assumption) (by decide)) | (simp only [Cs.len]; done) | rfl) (by decide)) rfl ?_
      refine OpsFrom.v (Y.assign (up0 rfl rfl rfl) rfl rfl) rfl ?_
      refine OpsFrom.nil ?_
      refine Holds.seq ?_
      refine Holds.seq ?_
      refine Holds.reg ?_
      refine OpsFrom.v (Y.move (up0 rfl rfl rfl) rfl rfl) rfl ?_
      refine OpsFrom.v (Y.eql (b := 0) (up0 rfl rfl rfl) rfl rfl rfl) rfl ?_
      refine OpsFrom.nil ?_
      refine Holds.condD rfl (fun h16 => ?_) (fun h16 => ?_)
      · refine Holds.reg ?_
        refine OpsFrom.v (Y.assign (v := (.one (.n .i64 1))) (up0 rfl rfl rfl) rfl rfl) rfl ?_
        refine OpsFrom.nil ?_
        refine Holds.seq ?_
        refine Holds.reg ?_
        refine OpsFrom.v (Y.move (up0 rfl rfl rfl) rfl rfl) rfl ?_
        refine OpsFrom.v (Y.move (up0 rfl rfl rfl) rfl rfl) rfl ?_
        refine OpsFrom.v (Y.move (up0 rfl rfl rfl) rfl rfl) rfl ?_
        refine OpsFrom.v (Y.mulI (a := 16) (up0 rfl rfl rfl) rfl rfl rfl (by first | (with_reducible assumption) | omega | (simp only [lens, *]; first | done | omega) | decide | (split <;> simp only [lens, *]) | (with_reducible exact Lt.mono (by assumption) (by decide)) | (simp only [Cs.len]; done) | rfl)) rfl ?_
        refine OpsFrom.v (Y.addI (up0 rfl rfl rfl) rfl rfl rfl (by first | (with_reducible assumption) | omega | (simp only [lens, *]; first | done | omega) | decide | (split <;> simp only [lens, *]) | (with_reducible exact Lt.mono (by assumption) (by decide)) | (simp only [Cs.len]; done) | rfl)) rfl ?_
        refine OpsFrom.v (Y.assign (up0 rfl rfl rfl) rfl rfl) rfl ?_
        refine OpsFrom.v (Y.assign (up0 rfl rfl rfl) rfl rfl) rfl ?_
        refine OpsFrom.nil ?_
        refine Holds.ret ?_
        exact Holds.ret2 (.inl rfl) rfl (.tmp _ _ rfl) (.tmp _ _ rfl) (View.cg (congrArg (fun z => (.two (.one (.n .i64 z.1)) (.one (.n .i64 z.2)) : AV)) (show (rcount x) = _ from (by unfold rcount; exact (if_neg a1_2).trans ((if_neg h10).trans (if_pos h16))))) (.two _ _ _ _ (.same _) (.same _))) rfl
      · refine Holds.skip ?_
        refine Holds.seq ?_
        refine Holds.reg ?_
        refine OpsFrom.v (Y.move (up0 rfl rfl rfl) rfl rfl) rfl ?_
        refine OpsFrom.v (Y.move (up0 rfl rfl rfl) rfl rfl) rfl ?_
        refine OpsFrom.v (Y.move (up0 rfl rfl rfl) rfl rfl) rfl ?_
        refine OpsFrom.v (Y.mulI (a := 16) (up0 rfl rfl rfl) rfl rfl rfl (by first | (with_reducible assumption) | omega | (simp only [lens, *]; first | done | omega) | decide | (split <;> simp only [lens, *]) | (with_reducible exact Lt.mono (by assumption) (by decide)) | (simp only [Cs.len]; done) | rfl)) rfl ?_
        refine OpsFrom.v (Y.addI (up0 rfl rfl rfl) rfl rfl rfl (by first | (with_reducible assumption) | omega | (simp only [lens, *]; first | done | omega) | decide | (split <;> simp only [lens, *]) | (with_reducible exact Lt.mono (by assumption) (by decide)) | (simp only [Cs.len]; done) | rfl)) rfl ?_
        refine OpsFrom.v (Y.assign (up0 rfl rfl rfl) rfl rfl) rfl ?_
        refine OpsFrom.v (Y.assign (up0 rfl rfl rfl) rfl rfl) rfl ?_
        refine OpsFrom.nil ?_
        refine Holds.ret ?_
        exact Holds.ret2 (.inl rfl) rfl (.tmp _ _ rfl) (.tmp _ _ rfl) (View.cg (congrArg (fun z => (.two (.one (.n .i64 z.1)) (.one (.n .i64 z.2)) : AV)) (show (rcount x) = _ from (by unfold rcount; exact (if_neg a1_2).trans ((if_neg h10).trans (if_neg h16))))) (.two _ _ _ _ (.same _) (.same _))) rfl

def rcountz (x : Int) : Nat × Nat :=
  if (x < ((0 : Nat) : Int)) then
    (0, 0)
  else
    if ((4194304 : Nat) : Int) < x then
      (0, 0)
    else
      if (((x.toNat + 512) - 1) / 512) = 0 then
        (1, x.toNat + (16 * 1))
      else
        let v2_ : Nat := x.toNat + (16 * (((x.toNat + 512) - 1) / 512))
        (((x.toNat + 512) - 1) / 512, v2_)
theorem w_rcountz (x : Int) (l_x : -9223372036854775808 ≤ x) (g_x : x < 9223372036854775808) : VC Try.prog 46 [.one (.z x)] (.two (.one (.n .i64 ((rcountz x).1))) (.one (.n .i64 ((rcountz x).2)))) := by
  refine VC.go Try.func46 rfl Try.ntmps46 rfl rfl fun O w => ?_
  refine Holds.seq ?_
  refine Holds.reg ?_
  refine OpsFrom.v (Y.assign (v := (.one (.n .i64 0))) (up0 rfl rfl rfl) rfl rfl) rfl ?_
  refine OpsFrom.v (Y.assign (v := (.one (.n .i64 0))) (up0 rfl rfl rfl) rfl rfl) rfl ?_
  refine OpsFrom.nil ?_
  refine Holds.seq ?_
  refine Holds.seq ?_
  by_cases a1_2 : (x < ((0 : Nat) : Int))
  · refine Holds.reg ?_
    refine OpsFrom.v (Y.move (up0 rfl rfl rfl) rfl rfl) rfl ?_
    refine OpsFrom.v (Y.lssZ (b := 0) (up0 rfl rfl rfl) rfl rfl rfl rfl rfl) rfl ?_
    refine OpsFrom.v (Doing.isB (c := true) (decide_eq_true a1_2) (Y.move (up0 rfl rfl rfl) rfl rfl)) rfl ?_
    refine OpsFrom.v (Doing.skip _ _ _ _ rfl rfl rfl rfl (dlt rfl (Nat.le_of_ble_eq_true rfl))) rfl ?_
    refine OpsFrom.v (Doing.skip _ _ _ _ rfl rfl rfl rfl (dlt rfl (Nat.le_of_ble_eq_true rfl))) rfl ?_
    refine OpsFrom.v (Y.pickT (up0 rfl rfl rfl) rfl rfl rfl) rfl ?_
    refine OpsFrom.nil ?_
    refine Holds.condT rfl ?_
    refine Holds.seq ?_
    refine Holds.reg ?_
    refine OpsFrom.v (Y.assign (v := (.one (.n .i64 0))) (up0 rfl rfl rfl) rfl rfl) rfl ?_
    refine OpsFrom.v (Y.assign (v := (.one (.n .i64 0))) (up0 rfl rfl rfl) rfl rfl) rfl ?_
    refine OpsFrom.nil ?_
    refine Holds.ret ?_
    exact Holds.ret2 (.inl rfl) rfl (.tmp _ _ rfl) (.tmp _ _ rfl) (View.cg (congrArg (fun z => (.two (.one (.n .i64 z.1)) (.one (.n .i64 z.2)) : AV)) (show (rcountz x) = _ from (by unfold rcountz; exact (if_pos a1_2)))) (.two _ _ _ _ (.same _) (.same _))) rfl
  · refine Holds.reg ?_
    refine OpsFrom.v (Y.move (up0 rfl rfl rfl) rfl rfl) rfl ?_
    refine OpsFrom.v (Y.lssZ (b := 0) (up0 rfl rfl rfl) rfl rfl rfl rfl rfl) rfl ?_
    refine OpsFrom.v (Doing.isB (c := false) (decide_eq_false a1_2) (Y.move (up0 rfl rfl rfl) rfl rfl)) rfl ?_
    refine OpsFrom.v (Y.move (up1 rfl rfl rfl rfl rfl rfl) rfl rfl) rfl ?_
    refine OpsFrom.v (Y.gtrZ (b := 4194304) (up1 rfl rfl rfl rfl rfl rfl) rfl rfl rfl rfl rfl) rfl ?_
    refine OpsFrom.v (Y.pickF (up0 rfl rfl rfl) rfl rfl rfl) rfl ?_
    refine OpsFrom.nil ?_
    refine Holds.condD rfl (fun h10 => ?_) (fun h10 => ?_)
    · refine Holds.seq ?_
      refine Holds.reg ?_
      refine OpsFrom.v (Y.assign (v := (.one (.n .i64 0))) (up0 rfl rfl rfl) rfl rfl) rfl ?_
      refine OpsFrom.v (Y.assign (v := (.one (.n .i64 0))) (up0 rfl rfl rfl) rfl rfl) rfl ?_
      refine OpsFrom.nil ?_
      refine Holds.ret ?_
      exact Holds.ret2 (.inl rfl) rfl (.tmp _ _ rfl) (.tmp _ _ rfl) (View.cg (congrArg (fun z => (.two (.one (.n .i64 z.1)) (.one (.n .i64 z.2)) : AV)) (show (rcountz x) = _ from (by unfold rcountz; exact (if_neg a1_2).trans (if_pos h10)))) (.two _ _ _ _ (.same _) (.same _))) rfl
    · refine Holds.skip ?_
      refine Holds.seq ?_
      refine Holds.nat 0 rfl (x).toNat (by first | (with_reducible assumption) | omega | (simp only [lens, *]; first | done | omega) | decide | (split <;> simp only [lens, *]) | (with_reducible exact Lt.mono (by assumption) (by decide)) | (simp only [Cs.len]; done) | rfl) ?_
      refine Holds.reg ?_
      refine OpsFrom.v (Y.move (up0 rfl rfl rfl) rfl rfl) rfl ?_
      refine OpsFrom.v (Y.addI (b := 512) (up0 rfl rfl rfl) rfl rfl rfl (by first | (with_reducible assumption) | omega | (simp only [lens, *]; first | done | omega) | decide | (split <;> simp only [lens, *]) | (with_reducible exact Lt.mono (by assumption) (by decide)) | (simp only [Cs.len]; done) | rfl)) rfl ?_
      refine OpsFrom.v (Y.subI (b := 1) (up0 rfl rfl rfl) rfl rfl rfl (by first | (with_reducible assumption) | omega | (simp only [lens, *]; first | done | omega) | decide | (split <;> simp only [lens, *]) | (with_reducible exact Lt.mono (by assumption) (by decide)) | (simp only [Cs.len]; done) | rfl) (by first | (with_reducible assumption) | omega | (simp only [lens, *]; first | done | omega) | decide | (split <;> simp only [lens, *]) | (with_reducible exact Lt.mono (by assumption) (by decide)) | (simp only [Cs.len]; done) | rfl)) rfl ?_
      refine OpsFrom.v (Y.quoI (b := 512) (up0 rfl rfl rfl) rfl rfl rfl (by first | (with_reducible assumption) | omega | (simp only [lens, *]; first | done | omega) | decide | (split <;> simp only [lens, *]) | (with_reducible exact Lt.mono (by assumption) (by decide)) | (simp only [Cs.len]; done) | rfl) (by decide)) rfl ?_
      refine OpsFrom.v (Y.assign (up0 rfl rfl rfl) rfl rfl) rfl ?_
      refine OpsFrom.nil ?_
      refine Holds.seq ?_
      refine Holds.seq ?_
      refine Holds.reg ?_
      refine OpsFrom.v (Y.move (up0 rfl rfl rfl) rfl rfl) rfl ?_
      refine OpsFrom.v (Y.eql (b := 0) (up0 rfl rfl rfl) rfl rfl rfl) rfl ?_
      refine OpsFrom.nil ?_
      refine Holds.condD rfl (fun h16 => ?_) (fun h16 => ?_)
      · refine Holds.reg ?_
        refine OpsFrom.v (Y.assign (v := (.one (.n .i64 1))) (up0 rfl rfl rfl) rfl rfl) rfl ?_
        refine OpsFrom.nil ?_
        refine Holds.seq ?_
        refine Holds.reg ?_
        refine OpsFrom.v (Y.move (up0 rfl rfl rfl) rfl rfl) rfl ?_
        refine OpsFrom.v (Y.move (up0 rfl rfl rfl) rfl rfl) rfl ?_
        refine OpsFrom.v (Y.move (up0 rfl rfl rfl) rfl rfl) rfl ?_
        refine OpsFrom.v (Y.mulI (a := 16) (up0 rfl rfl rfl) rfl rfl rfl (by first | (with_reducible assumption) | omega | (simp only [lens, *]; first | done | omega) | decide | (split <;> simp only [lens, *]) | (with_reducible exact Lt.mono (by assumption) (by decide)) | (simp only [Cs.len]; done) | rfl)) rfl ?_
        refine OpsFrom.v (Y.addI (up0 rfl rfl rfl) rfl rfl rfl (by first | (with_reducible assumption) | omega | (simp only [lens, *]; first | done | omega) | decide | (split <;> simp only [lens, *]) | (with_reducible exact Lt.mono (by assumption) (by decide)) | (simp only [Cs.len]; done) | rfl)) rfl ?_
        refine OpsFrom.v (Y.assign (up0 rfl rfl rfl) rfl rfl) rfl ?_
        refine OpsFrom.v (Y.assign (up0 rfl rfl rfl) rfl rfl) rfl ?_
        refine OpsFrom.nil ?_
        refine Holds.ret ?_
        exact Holds.ret2 (.inl rfl) rfl (.tmp _ _ rfl) (.tmp _ _ rfl) (View.cg (congrArg (fun z => (.two (.one (.n .i64 z.1)) (.one (.n .i64 z.2)) : AV)) (show (rcountz x) = _ from (by unfold rcountz; exact (if_neg a1_2).trans ((if_neg h10).trans (if_pos h16))))) (.two _ _ _ _ (.same _) (.same _))) rfl
      · refine Holds.skip ?_
        refine Holds.seq ?_
        refine Holds.reg ?_
        refine OpsFrom.v (Y.move (up0 rfl rfl rfl) rfl rfl) rfl ?_
        refine OpsFrom.v (Y.move (up0 rfl rfl rfl) rfl rfl) rfl ?_
        refine OpsFrom.v (Y.move (up0 rfl rfl rfl) rfl rfl) rfl ?_
        refine OpsFrom.v (Y.mulI (a := 16) (up0 rfl rfl rfl) rfl rfl rfl (by first | (with_reducible assumption) | omega | (simp only [lens, *]; first | done | omega) | decide | (split <;> simp only [lens, *]) | (with_reducible exact Lt.mono (by assumption) (by decide)) | (simp only [Cs.len]; done) | rfl)) rfl ?_
        refine OpsFrom.v (Y.addI (up0 rfl rfl rfl) rfl rfl rfl (by first | (with_reducible assumption) | omega | (simp only [lens, *]; first | done | omega) | decide | (split <;> simp only [lens, *]) | (with_reducible exact Lt.mono (by assumption) (by decide)) | (simp only [Cs.len]; done) | rfl)) rfl ?_
        refine OpsFrom.v (Y.assign (up0 rfl rfl rfl) rfl rfl) rfl ?_
        refine OpsFrom.v (Y.assign (up0 rfl rfl rfl) rfl rfl) rfl ?_
        refine OpsFrom.nil ?_
        refine Holds.ret ?_
        exact Holds.ret2 (.inl rfl) rfl (.tmp _ _ rfl) (.tmp _ _ rfl) (View.cg (congrArg (fun z => (.two (.one (.n .i64 z.1)) (.one (.n .i64 z.2)) : AV)) (show (rcountz x) = _ from (by unfold rcountz; exact (if_neg a1_2).trans ((if_neg h10).trans (if_neg h16))))) (.two _ _ _ _ (.same _) (.same _))) rfl

theorem rseal_len {key nonce text beside : List Nat} (lk : key.length = 32) (ln : nonce.length = 12) : (rseal key nonce text beside).1.length = text.length + 16 := by
  unfold rseal
  dsimp only
  rw [List.length_append, List.nil_append, stream_len, rmark_len _ _ _ _ lk ln]
def rsseal_s1 (key : List Nat) (beside : List Nat) (b : List Nat) (i1_ : Nat) (m1_ : (List Nat) × Nat × (List Nat)) : (List Nat) × Nat × (List Nat) :=
  let v9_ : Nat := if 512 < m1_.1.length then 512 else m1_.1.length
  let v10_ : List Nat := (rnonce m1_.2.1 (decide (v9_ = m1_.1.length)))
  let v12_ : List Nat := (rseal key v10_ ((m1_.1.drop 0).take (v9_ - 0)) beside).1
  let v13_ : List Nat := (m1_.1.drop v9_).take (m1_.1.length - v9_)
  (v13_, (m1_.2.1 + 1) % 18446744073709551616, m1_.2.2 ++ v12_)
def rsseal_it1 (key : List Nat) (beside : List Nat) (b : List Nat) (i1_ : Nat) : (List Nat) × Nat × (List Nat) := iter (rsseal_s1 key beside b) i1_ (b, 0, [])
theorem rsseal_it1_z (key : List Nat) (beside : List Nat) (b : List Nat) : rsseal_it1 key beside b 0 = (b, 0, []) := rfl
theorem rsseal_it1_s (key : List Nat) (beside : List Nat) (b : List Nat) (i1_ : Nat) : rsseal_it1 key beside b (i1_ + 1) = rsseal_s1 key beside b i1_ (rsseal_it1 key beside b i1_) := by unfold rsseal_it1; exact iterS _ _ _
theorem rsseal_f (key beside : List Nat) {b : List Nat} (hb : b.length ≤ 4194304) : ∀ i, 512 * i ≤ b.length → (rsseal_it1 key beside b i).1 = b.drop (512 * i) ∧ (rsseal_it1 key beside b i).2.1 = i
  | 0, _ => ⟨rfl, rfl⟩
  | i + 1, h => by
    obtain ⟨h1, h2⟩ := rsseal_f key beside hb i (by omega)
    rw [rsseal_it1_s]
    unfold rsseal_s1
    dsimp only
    rw [h1, h2, List.length_drop]
    refine ⟨?_, by omega⟩
    rw [show (if 512 < b.length - 512 * i then 512 else b.length - 512 * i) = 512 by split <;> omega, List.take_of_length_le (by simp only [List.length_drop]; omega), List.drop_drop]
    exact congrArg (fun n => b.drop n) (by omega)
theorem rsseal_iff (key beside : List Nat) {b : List Nat} (hb : b.length ≤ 4194304) {i : Nat} (hi : i ≤ (b.length - 1) / 512) : ¬ ((if 512 < (rsseal_it1 key beside b i).1.length then 512 else (rsseal_it1 key beside b i).1.length) = (rsseal_it1 key beside b i).1.length) ↔ i < (b.length - 1) / 512 := by
  rw [(rsseal_f key beside hb i (by omega)).1, List.length_drop]
  split <;> omega
theorem rsseal_n {key : List Nat} (lk : key.length = 32) (beside : List Nat) {b : List Nat} (hb : b.length ≤ 4194304) : ∀ i, 512 * i ≤ b.length → (rsseal_it1 key beside b i).2.2.length = 528 * i
  | 0, _ => rfl
  | i + 1, h => by
    have h1 := (rsseal_f key beside hb i (by omega)).1
    have h2 := rsseal_n lk beside hb i (by omega)
    rw [rsseal_it1_s]
    unfold rsseal_s1
    dsimp only
    rw [List.length_append, rseal_len lk (rnonce_len _ _), h2, h1, List.length_drop, show (if 512 < b.length - 512 * i then 512 else b.length - 512 * i) = 512 by split <;> omega]
    simp only [List.length_take, List.length_drop]
    omega
def rsseal (key : List Nat) (beside : List Nat) (b : List Nat) : (List Nat) × Nat :=
  ((rsseal_it1 key beside b ((b.length - 1) / 512)).2.2 ++ ((rseal key (rnonce (rsseal_it1 key beside b ((b.length - 1) / 512)).2.1 (decide ((if 512 < (rsseal_it1 key beside b ((b.length - 1) / 512)).1.length then 512 else (rsseal_it1 key beside b ((b.length - 1) / 512)).1.length) = (rsseal_it1 key beside b ((b.length - 1) / 512)).1.length))) (((rsseal_it1 key beside b ((b.length - 1) / 512)).1.drop 0).take ((if 512 < (rsseal_it1 key beside b ((b.length - 1) / 512)).1.length then 512 else (rsseal_it1 key beside b ((b.length - 1) / 512)).1.length) - 0)) beside).1), 0)
theorem w_rsseal (key : List Nat) (beside : List Nat) (b : List Nat) (l_key : key.length = 32) (h_beside : beside.length < 1073741824) (h_b : b.length ≤ 4194304) : VF Try.prog 43 [.row (.ints .u8 key), .one (.bs false .u8 beside), .one (.bs false .u8 b)] (.two (.one (.sg 0 0 ((rsseal key beside b).1).length)) (.one (.n .i64 ((rsseal key beside b).2)))) .u8 ((rsseal key beside b).1) := by
  refine VF.go Try.func43 rfl Try.ntmps43 rfl rfl fun O w => ?_
  refine Holds.seq ?_
  refine Holds.reg ?_
  refine OpsFrom.u (Y.boxR (d := 3) (up0 rfl rfl rfl) rfl rfl rfl) rfl rfl rfl ?_
  refine OpsFrom.v (Y.assign (up0 rfl rfl rfl) rfl rfl) rfl ?_
  refine OpsFrom.v (Y.assign (v := (.one (.n .i64 0))) (up0 rfl rfl rfl) rfl rfl) rfl ?_
  refine OpsFrom.nil ?_
  refine Holds.seq ?_
  refine Holds.seq ?_
  refine Holds.reg ?_
  refine OpsFrom.v (Y.move (up0 rfl rfl rfl) rfl rfl) rfl ?_
  refine OpsFrom.v (Y.len ty26 (up0 rfl rfl rfl) rfl rfl rfl rfl) rfl ?_
  refine OpsFrom.v (Doing.isB (c := false) (decide_eq_false (by first | (with_reducible assumption) | omega | (simp only [lens, List.flatten_cons, List.flatten_nil, List.append_nil, List.length_cons, List.length_nil, Cs.len, List.length_map, List.length_set, List.length_replicate, *]; first | done | omega) | decide | (split <;> simp only [lens, List.flatten_cons, List.flatten_nil, List.append_nil, List.length_cons, List.length_nil, Cs.len, List.length_map, List.length_set, List.length_replicate, *]) | (with_reducible exact Lt.mono (by assumption) (by decide)) | (simp only [Cs.len]; done) | rfl)) (Y.gtr (b := 4194304) (up0 rfl rfl rfl) rfl rfl rfl)) rfl ?_
  refine OpsFrom.nil ?_
  refine Holds.condF rfl ?_
  refine Holds.skip ?_
  refine Holds.seq ?_
  refine Holds.reg ?_
  refine OpsFrom.v (Y.assign (up0 rfl rfl rfl) rfl rfl) rfl ?_
  refine OpsFrom.nil ?_
  refine Holds.seq ?_
  refine Holds.reg ?_
  refine OpsFrom.v (Y.assign (v := (.one (.n .u64 0))) (up0 rfl rfl rfl) rfl rfl) rfl ?_
  refine OpsFrom.nil ?_
  refine Holds.block ?_
  refine Holds.grow 8 8 (.ints .u8 []) rfl rfl rfl ?_
  refine Holds.loop (fun (i1_ : Nat) => ⟨[(1, .one (.bs false .u8 beside)), (2, .one (.bs false .u8 ((rsseal_it1 key beside b i1_).1))), (3, .one (.p 3 0)), (6, .one (.nil)), (7, .one (.n .i64 0)), (8, .one (.sg 8 0 (((rsseal_it1 key beside b i1_).2.2).length))), (9, .one (.n .u64 ((rsseal_it1 key beside b i1_).2.1)))], [(3, .own (.ints .u8 key)), (8, .own (.ints .u8 ((rsseal_it1 key beside b i1_).2.2)))]⟩) (fun (i1_ : Nat) => i1_ ≤ ((b.length - 1) / 512)) (fun (i1_ : Nat) => ((b.length - 1) / 512) - i1_) 0 (by first | (with_reducible assumption) | omega | (simp only [lens, List.flatten_cons, List.flatten_nil, List.append_nil, List.length_cons, List.length_nil, Cs.len, List.length_map, List.length_set, List.length_replicate, *]; first | done | omega) | decide | (split <;> simp only [lens, List.flatten_cons, List.flatten_nil, List.append_nil, List.length_cons, List.length_nil, Cs.len, List.length_map, List.length_set, List.length_replicate, *]) | (with_reducible exact Lt.mono (by assumption) (by decide)) | (simp only [Cs.len]; done) | rfl) [] ⟨⟨rfl, (bsEq (congrArg (fun (s : (List Nat) × Nat × (List Nat)) => s.1) (rsseal_it1_z key beside b)).symm), rfl, rfl, rfl, rfl, (nEq (congrArg (fun (s : (List Nat) × Nat × (List Nat)) => s.2.1) (rsseal_it1_z key beside b)).symm), trivial⟩, ⟨rfl, (hEq (congrArg (fun (s : (List Nat) × Nat × (List Nat)) => s.2.2) (rsseal_it1_z key beside b)).symm), trivial⟩, rfl, rfl⟩ ?_
  intro i1_ k1_
  have hf := rsseal_f key beside h_b i1_ (by omega)
  have hn := rsseal_n l_key beside h_b i1_ (by omega)
  have hsl : ∀ n l t, (rseal key (rnonce n l) t beside).1.length = t.length + 16 := fun n l t => rseal_len l_key (rnonce_len n l)
  have hif : (if 512 < (rsseal_it1 key beside b i1_).1.length then 512 else (rsseal_it1 key beside b i1_).1.length) ≤ (rsseal_it1 key beside b i1_).1.length := by split <;> omega
  refine Holds.seq ?_
  refine Holds.block ?_
  refine Holds.seq ?_
  refine Holds.reg ?_
  refine OpsFrom.v (Y.move (up0 rfl rfl rfl) rfl rfl) rfl ?_
  refine OpsFrom.v (Y.len ty26 (up0 rfl rfl rfl) rfl rfl rfl rfl) rfl ?_
  refine OpsFrom.v (Y.assign (up0 rfl rfl rfl) rfl rfl) rfl ?_
  refine OpsFrom.nil ?_
  refine Holds.seqJoin ⟨[(1, .one (.bs false .u8 beside)), (2, .one (.bs false .u8 ((rsseal_it1 key beside b i1_).1))), (3, .one (.p 3 0)), (6, .one (.nil)), (7, .one (.n .i64 0)), (8, .one (.sg 8 0 ((rsseal_it1 key beside b i1_).2.2.length))), (9, .one (.n .u64 ((rsseal_it1 key beside b i1_).2.1))), (19, .one (.bs false .u8 ((rsseal_it1 key beside b i1_).1))), (20, .one (.n .i64 ((rsseal_it1 key beside b i1_).1.length))), (10, .one (.n .i64 (if 512 < (rsseal_it1 key beside b i1_).1.length then 512 else (rsseal_it1 key beside b i1_).1.length))), (21, .one (.n .i64 ((rsseal_it1 key beside b i1_).1.length))), (22, .one (.b (decide (512 < (rsseal_it1 key beside b i1_).1.length))))], [(3, .own (.ints .u8 key)), (8, .own (.ints .u8 ((rsseal_it1 key beside b i1_).2.2)))]⟩ ?_ (fun join => ?_)
  · refine Holds.seq ?_
    refine Holds.reg ?_
    refine OpsFrom.v (Y.move (up0 rfl rfl rfl) rfl rfl) rfl ?_
    refine OpsFrom.v (Y.move (up0 rfl rfl rfl) rfl rfl) rfl ?_
    refine OpsFrom.v (Y.len ty26 (up0 rfl rfl rfl) rfl rfl rfl rfl) rfl ?_
    refine OpsFrom.v (Y.eql (up0 rfl rfl rfl) rfl rfl rfl) rfl ?_
    refine OpsFrom.v (Y.assign (up0 rfl rfl rfl) rfl rfl) rfl ?_
    refine OpsFrom.nil ?_
    refine Holds.seq ?_
    refine Holds.dr mx [([28], [29, 30, 31, 32, 33, 34, 35]), ([29], [28, 30, 32, 33, 34, 35]), ([30], [28, 29, 32, 33, 34, 35]), ([31], [28, 32, 33, 34, 35]), ([32], [28, 29, 30, 31, 33, 35]), ([33], [28, 29, 30, 31, 32, 35]), ([34], [28, 29, 30, 31, 35]), ([35], [28, 29, 30, 31, 32, 33, 34]), ([36], []), ([27], []), ([37], [38]), ([38], [37, 12]), ([12], [38]), ([13], [])] (by kernel_rfl) ?_
    refine CertK.vd (Y.ldAll ty23 rfl (up0 rfl rfl rfl) rfl rfl rfl (by first | (with_reducible assumption) | omega | (simp only [lens, rnonce_len, List.flatten_cons, List.flatten_nil, List.append_nil, List.length_cons, List.length_nil, Cs.len, List.length_map, List.length_set, List.length_replicate, *]; first | done | omega) | decide | (split <;> simp only [lens, rnonce_len, List.flatten_cons, List.flatten_nil, List.append_nil, List.length_cons, List.length_nil, Cs.len, List.length_map, List.length_set, List.length_replicate, *]) | (with_reducible exact Lt.mono (by assumption) (by decide)) | (simp only [Cs.len]; done) | rfl) (by decide)) rfl rfl ?_
    refine CertK.vd (Y.move (up0 rfl rfl rfl) rfl rfl) rfl rfl ?_
    refine CertK.vd (Y.move (up0 rfl rfl rfl) rfl rfl) rfl rfl ?_
    refine CertK.vd (Y.callV (w_rnonce _ _ ) fnok47 (up0 rfl rfl rfl) rfl rfl (.cons _ _ _ _ rfl (.cons _ _ _ _ rfl .nil)) (.cons _ _ _ _ (.same _) (.cons _ _ _ _ (.same _) .nil)) rfl rfl) rfl rfl ?_
    refine CertK.vd (Y.move (up0 rfl rfl rfl) rfl rfl) rfl rfl ?_
    refine CertK.vd (Y.move (up0 rfl rfl rfl) rfl rfl) rfl rfl ?_
    refine CertK.vd (Y.slBs ty26 ty5 (up0 rfl rfl rfl) rfl rfl bnd0 (bnd1 rfl) (by first | (with_reducible assumption) | omega | (simp only [lens, rnonce_len, List.flatten_cons, List.flatten_nil, List.append_nil, List.length_cons, List.length_nil, Cs.len, List.length_map, List.length_set, List.length_replicate, *]; first | done | omega) | decide | (split <;> simp only [lens, rnonce_len, List.flatten_cons, List.flatten_nil, List.append_nil, List.length_cons, List.length_nil, Cs.len, List.length_map, List.length_set, List.length_replicate, *]) | (with_reducible exact Lt.mono (by assumption) (by decide)) | (simp only [Cs.len]; done) | rfl) (by first | (with_reducible assumption) | omega | (simp only [lens, rnonce_len, List.flatten_cons, List.flatten_nil, List.append_nil, List.length_cons, List.length_nil, Cs.len, List.length_map, List.length_set, List.length_replicate, *]; first | done | omega) | decide | (split <;> simp only [lens, rnonce_len, List.flatten_cons, List.flatten_nil, List.append_nil, List.length_cons, List.length_nil, Cs.len, List.length_map, List.length_set, List.length_replicate, *]) | (with_reducible exact Lt.mono (by assumption) (by decide)) | (simp only [Cs.len]; done) | rfl)) rfl rfl ?_
    refine CertK.vd (Y.move (up0 rfl rfl rfl) rfl rfl) rfl rfl ?_
    refine CertK.u (Y.callF (d := 36) (w_rseal _ _ _ _ (by first | (with_reducible assumption) | omega | (simp only [lens, rnonce_len, List.flatten_cons, List.flatten_nil, List.append_nil, List.length_cons, List.length_nil, Cs.len, List.length_map, List.length_set, List.length_replicate, *]; first | done | omega) | decide | (split <;> simp only [lens, rnonce_len, List.flatten_cons, List.flatten_nil, List.append_nil, List.length_cons, List.length_nil, Cs.len, List.length_map, List.length_set, List.length_replicate, *]) | (with_reducible exact Lt.mono (by assumption) (by decide)) | (simp only [Cs.len]; done) | rfl) (by first | (with_reducible assumption) | omega | (simp only [lens, rnonce_len, List.flatten_cons, List.flatten_nil, List.append_nil, List.length_cons, List.length_nil, Cs.len, List.length_map, List.length_set, List.length_replicate, *]; first | done | omega) | decide | (split <;> simp only [lens, rnonce_len, List.flatten_cons, List.flatten_nil, List.append_nil, List.length_cons, List.length_nil, Cs.len, List.length_map, List.length_set, List.length_replicate, *]) | (with_reducible exact Lt.mono (by assumption) (by decide)) | (simp only [Cs.len]; done) | rfl) (by first | (with_reducible assumption) | omega | (simp only [lens, rnonce_len, List.flatten_cons, List.flatten_nil, List.append_nil, List.length_cons, List.length_nil, Cs.len, List.length_map, List.length_set, List.length_replicate, *]; first | done | omega) | decide | (split <;> simp only [lens, rnonce_len, List.flatten_cons, List.flatten_nil, List.append_nil, List.length_cons, List.length_nil, Cs.len, List.length_map, List.length_set, List.length_replicate, *]) | (with_reducible exact Lt.mono (by assumption) (by decide)) | (simp only [Cs.len]; done) | rfl) (by first | (with_reducible assumption) | omega | (simp only [lens, rnonce_len, List.flatten_cons, List.flatten_nil, List.append_nil, List.length_cons, List.length_nil, Cs.len, List.length_map, List.length_set, List.length_replicate, *]; first | done | omega) | decide | (split <;> simp only [lens, rnonce_len, List.flatten_cons, List.flatten_nil, List.append_nil, List.length_cons, List.length_nil, Cs.len, List.length_map, List.length_set, List.length_replicate, *]) | (with_reducible exact Lt.mono (by assumption) (by decide)) | (simp only [Cs.len]; done) | rfl)) fnok40 (up0 rfl rfl rfl) rfl rfl (.cons _ _ _ _ rfl (.cons _ _ _ _ rfl (.cons _ _ _ _ rfl (.cons _ _ _ _ rfl .nil)))) (.cons _ _ _ _ (.same _) (.cons _ _ _ _ (.same _) (.cons _ _ _ _ (.same _) (.cons _ _ _ _ (.same _) .nil)))) rfl rfl rfl) rfl rfl rfl rfl rfl ?_
    refine CertK.v (Y.move (up0 rfl rfl rfl) rfl rfl) rfl ?_
    refine CertK.vd (Y.ext0 (up0 rfl rfl rfl) rfl rfl) rfl rfl ?_
    refine CertK.vd (Y.ext1 (up0 rfl rfl rfl) rfl rfl) rfl rfl ?_
    refine CertK.vd (Y.assign (up0 rfl rfl rfl) rfl rfl) rfl rfl ?_
    refine CertK.v (Y.assign (up0 rfl rfl rfl) rfl rfl) rfl ?_
    refine CertK.nil ?_
    refine Holds.seq ?_
    refine Holds.reg ?_
    refine OpsFrom.v (Y.move (up0 rfl rfl rfl) rfl rfl) rfl ?_
    refine OpsFrom.v (Y.move (up0 rfl rfl rfl) rfl rfl) rfl ?_
    refine OpsFrom.u (Y.app (d := 41) ty26 ty5 rfl ty26 (by decide) (up0 rfl rfl rfl) rfl rfl rfl (.all rfl (by first | (with_reducible assumption) | omega | (simp only [lens, rnonce_len, List.flatten_cons, List.flatten_nil, List.append_nil, List.length_cons, List.length_nil, Cs.len, List.length_map, List.length_set, List.length_replicate, *]; first | done | omega) | decide | (split <;> simp only [lens, rnonce_len, List.flatten_cons, List.flatten_nil, List.append_nil, List.length_cons, List.length_nil, Cs.len, List.length_map, List.length_set, List.length_replicate, *]) | (with_reducible exact Lt.mono (by assumption) (by decide)) | (simp only [Cs.len]; done) | rfl)) rfl (.all rfl (by first | (with_reducible assumption) | omega | (simp only [lens, rnonce_len, List.flatten_cons, List.flatten_nil, List.append_nil, List.length_cons, List.length_nil, Cs.len, List.length_map, List.length_set, List.length_replicate, *]; first | done | omega) | decide | (split <;> simp only [lens, rnonce_len, List.flatten_cons, List.flatten_nil, List.append_nil, List.length_cons, List.length_nil, Cs.len, List.length_map, List.length_set, List.length_replicate, *]) | (with_reducible exact Lt.mono (by assumption) (by decide)) | (simp only [Cs.len]; done) | rfl)) App.i (by first | (with_reducible assumption) | omega | (simp only [lens, rnonce_len, List.flatten_cons, List.flatten_nil, List.append_nil, List.length_cons, List.length_nil, Cs.len, List.length_map, List.length_set, List.length_replicate, *]; first | done | omega) | decide | (split <;> simp only [lens, rnonce_len, List.flatten_cons, List.flatten_nil, List.append_nil, List.length_cons, List.length_nil, Cs.len, List.length_map, List.length_set, List.length_replicate, *]) | (with_reducible exact Lt.mono (by assumption) (by decide)) | (simp only [Cs.len]; done) | rfl) rfl (by first | (simp; done) | (rintro ⟨_, _, _, h⟩; cases h))) rfl rfl rfl ?_
    refine OpsFrom.v (Y.assign (up0 rfl rfl rfl) rfl rfl) rfl ?_
    refine OpsFrom.nil ?_
    refine Holds.seq ?_
    refine Holds.reg ?_
    refine OpsFrom.v (Y.move (up0 rfl rfl rfl) rfl rfl) rfl ?_
    refine OpsFrom.v (Y.move (up0 rfl rfl rfl) rfl rfl) rfl ?_
    refine OpsFrom.v (Y.slBs ty26 ty5 (up0 rfl rfl rfl) rfl rfl (bnd1 rfl) bnd0 (by first | (with_reducible assumption) | omega | (simp only [lens, rnonce_len, List.flatten_cons, List.flatten_nil, List.append_nil, List.length_cons, List.length_nil, Cs.len, List.length_map, List.length_set, List.length_replicate, *]; first | done | omega) | decide | (split <;> simp only [lens, rnonce_len, List.flatten_cons, List.flatten_nil, List.append_nil, List.length_cons, List.length_nil, Cs.len, List.length_map, List.length_set, List.length_replicate, *]) | (with_reducible exact Lt.mono (by assumption) (by decide)) | (simp only [Cs.len]; done) | rfl) (by first | (with_reducible assumption) | omega | (simp only [lens, rnonce_len, List.flatten_cons, List.flatten_nil, List.append_nil, List.length_cons, List.length_nil, Cs.len, List.length_map, List.length_set, List.length_replicate, *]; first | done | omega) | decide | (split <;> simp only [lens, rnonce_len, List.flatten_cons, List.flatten_nil, List.append_nil, List.length_cons, List.length_nil, Cs.len, List.length_map, List.length_set, List.length_replicate, *]) | (with_reducible exact Lt.mono (by assumption) (by decide)) | (simp only [Cs.len]; done) | rfl)) rfl ?_
    refine OpsFrom.v (Y.assign (up0 rfl rfl rfl) rfl rfl) rfl ?_
    refine OpsFrom.nil ?_
    refine Holds.seq ?_
    refine Holds.reg ?_
    refine OpsFrom.v (Y.move (up0 rfl rfl rfl) rfl rfl) rfl ?_
    refine OpsFrom.nil ?_
    refine Holds.condD rfl (fun h45 => ?_) (fun h45 => ?_)
    · have h1c : ¬ (i1_ < ((b.length - 1) / 512)) := by
        intro q
        have q2 := (rsseal_iff key beside h_b k1_).2 q
        first | exact h45 q2 | exact q2 h45 | (rw [h45] at q2; cases q2)
      obtain rfl : i1_ = (b.length - 1) / 512 := by omega
      refine Holds.seq ?_
      refine Holds.reg ?_
      refine OpsFrom.v (Y.move (up0 rfl rfl rfl) rfl rfl) rfl ?_
      refine OpsFrom.v (Y.assign (up0 rfl rfl rfl) rfl rfl) rfl ?_
      refine OpsFrom.v (Y.assign (v := (.one (.n .i64 0))) (up0 rfl rfl rfl) rfl rfl) rfl ?_
      refine OpsFrom.nil ?_
      refine Holds.ret ?_
      exact Holds.retF (id := 41) (.inl rfl) rfl (.two _ _ _ _ (.tmp _ _ rfl) (.tmp _ _ rfl)) (by first | rfl | (unfold rsseal; rfl)) rfl (by first | rfl | (unfold rsseal; rfl))
    · have h1c := (rsseal_iff key beside h_b k1_).1 h45
      refine Holds.skip ?_
      refine Holds.reg ?_
      refine OpsFrom.v (Y.move (up0 rfl rfl rfl) rfl rfl) rfl ?_
      refine OpsFrom.v (Y.add (b := 1) u64s u64m (up0 rfl rfl rfl) rfl rfl rfl) rfl ?_
      refine OpsFrom.v (Y.assign (up0 rfl rfl rfl) rfl rfl) rfl ?_
      refine OpsFrom.nil ?_
      exact Holds.again (i1_ + 1) (by omega) (by omega) [(8, 41)] ⟨⟨rfl, (bsEq (by rw [rsseal_it1_s]; unfold rsseal_s1; first | (dsimp only; done) | rfl)), rfl, rfl, rfl, (sgEq (congrArg List.length (by rw [rsseal_it1_s]; unfold rsseal_s1; first | (dsimp only; done) | rfl)) rfl), (nEq (by rw [rsseal_it1_s]; unfold rsseal_s1; first | (dsimp only; done) | rfl)), trivial⟩, ⟨rfl, (hEq (by rw [rsseal_it1_s]; unfold rsseal_s1; first | (dsimp only; done) | rfl)), trivial⟩, rfl, rfl⟩
  · refine Holds.seq ?_
    refine Holds.reg ?_
    refine OpsFrom.v (Y.move (up0 rfl rfl rfl) rfl rfl) rfl ?_
    refine OpsFrom.v (Y.gtr (b := 512) (up0 rfl rfl rfl) rfl rfl rfl) rfl ?_
    refine OpsFrom.nil ?_
    refine Holds.condD rfl (fun h22 => ?_) (fun h22 => ?_)
    · refine Holds.reg ?_
      refine OpsFrom.v (Y.assign (v := (.one (.n .i64 512))) (up0 rfl rfl rfl) rfl rfl) rfl ?_
      refine OpsFrom.nil ?_
      exact join _ [] ⟨⟨rfl, rfl, rfl, rfl, rfl, rfl, rfl, rfl, rfl, (nEq (if_pos h22).symm), rfl, rfl, trivial⟩, ⟨rfl, rfl, trivial⟩, rfl, rfl⟩
    · refine Holds.skip ?_
      exact join _ [] ⟨⟨rfl, rfl, rfl, rfl, rfl, rfl, rfl, rfl, rfl, (nEq (if_neg h22).symm), rfl, rfl, trivial⟩, ⟨rfl, rfl, trivial⟩, rfl, rfl⟩


end Go.Proofs.Ytkpelchcpiafaaa
