/-
  Walks: nonces and counts.
-/
import Derived.Test.YtkpelchcpiafaaaPg
import Derived.Test.YtkpelchcpiafaaaFc
namespace Go.Proofs.Ytkpelchcpiafaaa
open Go Go.Fx
set_option linter.unusedVariables false
set_option linter.unusedSimpArgs false
def nonce_s1 (n : Nat) (i1_ : Nat) (m1_ : List Nat) : List Nat :=
  let v3_ : List Nat := m1_.set i1_ ((n / 2 ^ (56 - (8 * i1_))) % 256)
  v3_
def nonce_it1 (n : Nat) (i1_ : Nat) : List Nat := iter (nonce_s1 n) i1_ (List.replicate 12 0)
theorem nonce_it1_z (n : Nat) : nonce_it1 n 0 = List.replicate 12 0 := rfl
theorem nonce_it1_s (n : Nat) (i1_ : Nat) : nonce_it1 n (i1_ + 1) = nonce_s1 n i1_ (nonce_it1 n i1_) := by unfold nonce_it1; exact iterS _ _ _
theorem nonce_it1_l (n : Nat) (i1_ : Nat) : ((nonce_it1 n i1_)).length = (List.replicate 12 0 : List Nat).length := iter_inv (fun (s : List Nat) => (s).length = (List.replicate 12 0 : List Nat).length) (by simp) (fun i s h => by
  unfold nonce_s1
  first | (simp [h]; done) | (dsimp only; (repeat' split) <;> simp [h])) i1_
def nonce (n : Nat) (last : Bool) : List Nat :=
  if last = true then
    (nonce_it1 n 8).set 8 1
  else
    (nonce_it1 n 8)
theorem nonce_len (n : Nat) (last : Bool)  : ((nonce n last)).length = 12 := by
  unfold nonce
  first | (simp [nonce_it1_l]; done) | (simp [*, nonce_it1_l]; done) | ((try dsimp only); (repeat' split) <;> simp [*, nonce_it1_l])
theorem w_nonce (n : Nat) (last : Bool)  : VC Try.prog 35 [.one (.n .u64 n), .one (.b last)] (.row (.ints .u8 (nonce n last))) := by
  refine VC.go Try.func35 rfl Try.ntmps35 rfl rfl fun O w => ?_
  refine Holds.seq ?_
  refine Holds.reg ?_
  refine OpsFrom.u (Y.alloc (d := 4) ty25 rfl rfl (up0 rfl rfl rfl) rfl) rfl rfl rfl ?_
  refine OpsFrom.nil ?_
  refine Holds.seq ?_
  refine Holds.seq ?_
  refine Holds.reg ?_
  refine OpsFrom.v (Y.move (v := (.one (.n .i64 0))) (up0 rfl rfl rfl) rfl rfl) rfl ?_
  refine OpsFrom.nil ?_
  refine Holds.block ?_
  refine Holds.loop (fun (i1_ : Nat) => ⟨[(0, .one (.n .u64 n)), (1, .one (.b last)), (4, .one (.p 4 0)), (6, .one (.n .i64 i1_))], [(4, .own (.ints .u8 (nonce_it1 n i1_)))]⟩) (fun (i1_ : Nat) => i1_ ≤ 8) (fun (i1_ : Nat) => 8 - i1_) 0 (by first | (with_reducible assumption) | omega | (simp only [lens, nonce_it1_l, *]; first | done | omega) | decide | (split <;> simp only [lens, nonce_it1_l, *]) | (with_reducible exact Lt.mono (by assumption) (by decide)) | (simp only [Cs.len]; done) | rfl) [] ⟨⟨rfl, rfl, rfl, rfl, trivial⟩, ⟨(hEq (congrArg (fun (s : List Nat) => s) (nonce_it1_z n)).symm), trivial⟩, rfl, rfl⟩ ?_
  intro i1_ k1_
  refine Holds.seq ?_
  refine Holds.reg ?_
  refine OpsFrom.v (Y.lss (b := 8) (up0 rfl rfl rfl) rfl rfl rfl) rfl ?_
  refine OpsFrom.nil ?_
  refine Holds.seq ?_
  refine Holds.condD rfl (fun h7 => ?_) (fun h7 => ?_)
  · refine Holds.skip ?_
    refine Holds.seq ?_
    refine Holds.block ?_
    refine Holds.seq ?_
    refine Holds.reg ?_
    refine OpsFrom.v (Y.move (up0 rfl rfl rfl) rfl rfl) rfl ?_
    refine OpsFrom.v (Y.assign (up0 rfl rfl rfl) rfl rfl) rfl ?_
    refine OpsFrom.nil ?_
    refine Holds.reg ?_
    refine OpsFrom.v (Y.move (up0 rfl rfl rfl) rfl rfl) rfl ?_
    refine OpsFrom.v (Y.move (up0 rfl rfl rfl) rfl rfl) rfl ?_
    refine OpsFrom.v (Y.move (up0 rfl rfl rfl) rfl rfl) rfl ?_
    refine OpsFrom.v (Y.mulI (a := 8) (up0 rfl rfl rfl) rfl rfl rfl (by first | (with_reducible assumption) | omega | (simp only [lens, nonce_it1_l, *]; first | done | omega) | decide | (split <;> simp only [lens, nonce_it1_l, *]) | (with_reducible exact Lt.mono (by assumption) (by decide)) | (simp only [Cs.len]; done) | rfl)) rfl ?_
    refine OpsFrom.v (Y.subI (a := 56) (up0 rfl rfl rfl) rfl rfl rfl (by first | (with_reducible assumption) | omega | (simp only [lens, nonce_it1_l, *]; first | done | omega) | decide | (split <;> simp only [lens, nonce_it1_l, *]) | (with_reducible exact Lt.mono (by assumption) (by decide)) | (simp only [Cs.len]; done) | rfl) (by first | (with_reducible assumption) | omega | (simp only [lens, nonce_it1_l, *]; first | done | omega) | decide | (split <;> simp only [lens, nonce_it1_l, *]) | (with_reducible exact Lt.mono (by assumption) (by decide)) | (simp only [Cs.len]; done) | rfl)) rfl ?_
    refine OpsFrom.v (Y.shr u64s u64m (up0 rfl rfl rfl) rfl rfl rfl) rfl ?_
    refine OpsFrom.v (Y.conv ty42.u ty5.u u8s u8m (up0 rfl rfl rfl) rfl rfl) rfl ?_
    refine OpsFrom.v (Y.ia0 ty25 ty5 (up0 rfl rfl rfl) rfl rfl rfl (by first | (with_reducible assumption) | omega | (simp only [lens, nonce_it1_l, *]; first | done | omega) | decide | (split <;> simp only [lens, nonce_it1_l, *]) | (with_reducible exact Lt.mono (by assumption) (by decide)) | (simp only [Cs.len]; done) | rfl)) rfl ?_
    refine OpsFrom.n (Y.stI ty5 (upN rfl rfl) rfl rfl rfl rfl (by first | (with_reducible assumption) | omega | (simp only [lens, nonce_it1_l, *]; first | done | omega) | decide | (split <;> simp only [lens, nonce_it1_l, *]) | (with_reducible exact Lt.mono (by assumption) (by decide)) | (simp only [Cs.len]; done) | rfl)) rfl rfl ?_
    refine OpsFrom.nil ?_
    refine Holds.reg ?_
    refine OpsFrom.v (Y.addI (b := 1) (up0 rfl rfl rfl) rfl rfl rfl (by first | (with_reducible assumption) | omega | (simp only [lens, nonce_it1_l, *]; first | done | omega) | decide | (split <;> simp only [lens, nonce_it1_l, *]) | (with_reducible exact Lt.mono (by assumption) (by decide)) | (simp only [Cs.len]; done) | rfl)) rfl ?_
    refine OpsFrom.v (Y.move (up0 rfl rfl rfl) rfl rfl) rfl ?_
    refine OpsFrom.nil ?_
    exact Holds.again (i1_ + 1) (by omega) (by omega) [] ⟨⟨rfl, rfl, rfl, (nEq (by omega)), trivial⟩, ⟨(hEq (by rw [nonce_it1_s]; unfold nonce_s1; first | (dsimp only; done) | rfl)), trivial⟩, rfl, rfl⟩
  · obtain rfl : i1_ = 8 := by omega
    refine Holds.exit ?_
    refine Holds.seq ?_
    refine Holds.seq ?_
    refine Holds.reg ?_
    refine OpsFrom.v (Y.move (up0 rfl rfl rfl) rfl rfl) rfl ?_
    refine OpsFrom.nil ?_
    refine Holds.cond _ rfl (fun h18 => ?_) (fun h18 => ?_)
    · refine Holds.reg ?_
      refine OpsFrom.v (Y.ia0 (i := 8) ty25 ty5 (up0 rfl rfl rfl) rfl rfl rfl (by first | (with_reducible assumption) | omega | (simp only [lens, nonce_it1_l, *]; first | done | omega) | decide | (split <;> simp only [lens, nonce_it1_l, *]) | (with_reducible exact Lt.mono (by assumption) (by decide)) | (simp only [Cs.len]; done) | rfl)) rfl ?_
      refine OpsFrom.n (Y.stI ty5 (upN rfl rfl) rfl rfl rfl rfl (by first | (with_reducible assumption) | omega | (simp only [lens, nonce_it1_l, *]; first | done | omega) | decide | (split <;> simp only [lens, nonce_it1_l, *]) | (with_reducible exact Lt.mono (by assumption) (by decide)) | (simp only [Cs.len]; done) | rfl)) rfl rfl ?_
      refine OpsFrom.nil ?_
      refine Holds.seq ?_
      refine Holds.reg ?_
      refine OpsFrom.v (Y.ldAll ty25 rfl (up0 rfl rfl rfl) rfl rfl rfl (by first | (with_reducible assumption) | omega | (simp only [lens, nonce_it1_l, *]; first | done | omega) | decide | (split <;> simp only [lens, nonce_it1_l, *]) | (with_reducible exact Lt.mono (by assumption) (by decide)) | (simp only [Cs.len]; done) | rfl) (by decide)) rfl ?_
      refine OpsFrom.n (Y.stR ty25 (upN rfl rfl) rfl rfl rfl rfl rfl (by first | (with_reducible assumption) | omega | (simp only [lens, nonce_it1_l, *]; first | done | omega) | decide | (split <;> simp only [lens, nonce_it1_l, *]) | (with_reducible exact Lt.mono (by assumption) (by decide)) | (simp only [Cs.len]; done) | rfl) (by first | (with_reducible assumption) | omega | (simp only [lens, nonce_it1_l, *]; first | done | omega) | decide | (split <;> simp only [lens, nonce_it1_l, *]) | (with_reducible exact Lt.mono (by assumption) (by decide)) | (simp only [Cs.len]; done) | rfl) (by decide)) rfl rfl ?_
      refine OpsFrom.nil ?_
      refine Holds.ret ?_
      exact Holds.ret1 (.inl rfl) rfl (.rowN rfl rfl ty25 rfl (by first | (with_reducible assumption) | omega | (simp only [lens, nonce_it1_l, *]; first | done | omega) | decide | (split <;> simp only [lens, nonce_it1_l, *]) | (with_reducible exact Lt.mono (by assumption) (by decide)) | (simp only [Cs.len]; done) | rfl) (by decide)) (View.cg (congrArg (fun z => (.row (.ints .u8 z) : AV)) (show (nonce n last) = _ from (by unfold nonce; exact (if_pos h18)))) (.same _)) rfl
    · refine Holds.skip ?_
      refine Holds.seq ?_
      refine Holds.reg ?_
      refine OpsFrom.v (Y.ldAll ty25 rfl (up0 rfl rfl rfl) rfl rfl rfl (by first | (with_reducible assumption) | omega | (simp only [lens, nonce_it1_l, *]; first | done | omega) | decide | (split <;> simp only [lens, nonce_it1_l, *]) | (with_reducible exact Lt.mono (by assumption) (by decide)) | (simp only [Cs.len]; done) | rfl) (by decide)) rfl ?_
      refine OpsFrom.n (Y.stR ty25 (upN rfl rfl) rfl rfl rfl rfl rfl (by first | (with_reducible assumption) | omega | (simp only [lens, nonce_it1_l, *]; first | done | omega) | decide | (split <;> simp only [lens, nonce_it1_l, *]) | (with_reducible exact Lt.mono (by assumption) (by decide)) | (simp only [Cs.len]; done) | rfl) (by first | (with_reducible assumption) | omega | (simp only [lens, nonce_it1_l, *]; first | done | omega) | decide | (split <;> simp only [lens, nonce_it1_l, *]) | (with_reducible exact Lt.mono (by assumption) (by decide)) | (simp only [Cs.len]; done) | rfl) (by decide)) rfl rfl ?_
      refine OpsFrom.nil ?_
      refine Holds.ret ?_
      exact Holds.ret1 (.inl rfl) rfl (.rowN rfl rfl ty25 rfl (by first | (with_reducible assumption) | omega | (simp only [lens, nonce_it1_l, *]; first | done | omega) | decide | (split <;> simp only [lens, nonce_it1_l, *]) | (with_reducible exact Lt.mono (by assumption) (by decide)) | (simp only [Cs.len]; done) | rfl) (by decide)) (View.cg (congrArg (fun z => (.row (.ints .u8 z) : AV)) (show (nonce n last) = _ from (by unfold nonce; exact (if_neg (by first | (rw [h18]; decide) | simp [h18]))))) (.same _)) rfl

def count (x : Nat) : Nat × Nat :=
  if (x < 0) then
    (0, 0)
  else
    if 4194304 < x then
      (0, 0)
    else
      let v1_ : Nat := x + (16 * (Max.max (((x + 512) - 1) / 512) 1))
      (Max.max (((x + 512) - 1) / 512) 1, v1_)
theorem w_count (x : Nat)  : VC Try.prog 36 [.one (.n .i64 x)] (.two (.one (.n .i64 ((count x).1))) (.one (.n .i64 ((count x).2)))) := by
  refine VC.go Try.func36 rfl Try.ntmps36 rfl rfl fun O w => ?_
  refine Holds.seq ?_
  refine Holds.reg ?_
  refine OpsFrom.v (Y.assign (v := (.one (.n .i64 0))) (up0 rfl rfl rfl) rfl rfl) rfl ?_
  refine OpsFrom.v (Y.assign (v := (.one (.n .i64 0))) (up0 rfl rfl rfl) rfl rfl) rfl ?_
  refine OpsFrom.nil ?_
  refine Holds.seq ?_
  refine Holds.seq ?_
  by_cases a1_2 : (x < 0)
  · refine Holds.reg ?_
    refine OpsFrom.v (Y.move (up0 rfl rfl rfl) rfl rfl) rfl ?_
    refine OpsFrom.v (Y.lss (b := 0) (up0 rfl rfl rfl) rfl rfl rfl) rfl ?_
    refine OpsFrom.v (Doing.isB (c := true) (decide_eq_true a1_2) (Y.move (up0 rfl rfl rfl) rfl rfl)) rfl ?_
    refine OpsFrom.v (Doing.skip _ _ _ _ rfl rfl rfl rfl (dlt rfl (Nat.le_of_ble_eq_true rfl))) rfl ?_
    refine OpsFrom.v (Doing.skip _ _ _ _ rfl rfl rfl rfl (dlt rfl (Nat.le_of_ble_eq_true rfl))) rfl ?_
    refine OpsFrom.v (Y.pickT (up0 rfl rfl rfl) rfl rfl rfl) rfl ?_
    refine OpsFrom.nil ?_
    refine Holds.condT rfl ?_
    refine Holds.seq ?_
    refine Holds.reg ?_
    refine OpsFrom.v (Y.assign (v := (.one (.n .i64 0))) (up0 rfl rfl rfl) rfl rfl) rfl ?_
    refine OpsFrom.v (Y.assign (v := (.one (.n .i64 0))) (up0 rfl rfl rfl) rfl rfl) rfl ?_
    refine OpsFrom.nil ?_
    refine Holds.ret ?_
    exact Holds.ret2 (.inl rfl) rfl (.tmp _ _ rfl) (.tmp _ _ rfl) (View.cg (congrArg (fun z => (.two (.one (.n .i64 z.1)) (.one (.n .i64 z.2)) : AV)) (show (count x) = _ from (by unfold count; exact (if_pos a1_2)))) (.two _ _ _ _ (.same _) (.same _))) rfl
  · refine Holds.reg ?_
    refine OpsFrom.v (Y.move (up0 rfl rfl rfl) rfl rfl) rfl ?_
    refine OpsFrom.v (Y.lss (b := 0) (up0 rfl rfl rfl) rfl rfl rfl) rfl ?_
    refine OpsFrom.v (Doing.isB (c := false) (decide_eq_false a1_2) (Y.move (up0 rfl rfl rfl) rfl rfl)) rfl ?_
    refine OpsFrom.v (Y.move (up1 rfl rfl rfl rfl rfl rfl) rfl rfl) rfl ?_
    refine OpsFrom.v (Y.gtr (b := 4194304) (up1 rfl rfl rfl rfl rfl rfl) rfl rfl rfl) rfl ?_
    refine OpsFrom.v (Y.pickF (up0 rfl rfl rfl) rfl rfl rfl) rfl ?_
    refine OpsFrom.nil ?_
    refine Holds.condD rfl (fun h9 => ?_) (fun h9 => ?_)
    · refine Holds.seq ?_
      refine Holds.reg ?_
      refine OpsFrom.v (Y.assign (v := (.one (.n .i64 0))) (up0 rfl rfl rfl) rfl rfl) rfl ?_
      refine OpsFrom.v (Y.assign (v := (.one (.n .i64 0))) (up0 rfl rfl rfl) rfl rfl) rfl ?_
      refine OpsFrom.nil ?_
      refine Holds.ret ?_
      exact Holds.ret2 (.inl rfl) rfl (.tmp _ _ rfl) (.tmp _ _ rfl) (View.cg (congrArg (fun z => (.two (.one (.n .i64 z.1)) (.one (.n .i64 z.2)) : AV)) (show (count x) = _ from (by unfold count; exact (if_neg a1_2).trans (if_pos h9)))) (.two _ _ _ _ (.same _) (.same _))) rfl
    · refine Holds.skip ?_
      refine Holds.seq ?_
      refine Holds.reg ?_
      refine OpsFrom.v (Y.move (up0 rfl rfl rfl) rfl rfl) rfl ?_
      refine OpsFrom.v (Y.addI (b := 512) (up0 rfl rfl rfl) rfl rfl rfl (by first | (with_reducible assumption) | omega | (simp only [lens, *]; first | done | omega) | decide | (split <;> simp only [lens, *]) | (with_reducible exact Lt.mono (by assumption) (by decide)) | (simp only [Cs.len]; done) | rfl)) rfl ?_
      refine OpsFrom.v (Y.subI (b := 1) (up0 rfl rfl rfl) rfl rfl rfl (by first | (with_reducible assumption) | omega | (simp only [lens, *]; first | done | omega) | decide | (split <;> simp only [lens, *]) | (with_reducible exact Lt.mono (by assumption) (by decide)) | (simp only [Cs.len]; done) | rfl) (by first | (with_reducible assumption) | omega | (simp only [lens, *]; first | done | omega) | decide | (split <;> simp only [lens, *]) | (with_reducible exact Lt.mono (by assumption) (by decide)) | (simp only [Cs.len]; done) | rfl)) rfl ?_
      refine OpsFrom.v (Y.quoI (b := 512) (up0 rfl rfl rfl) rfl rfl rfl (by first | (with_reducible assumption) | omega | (simp only [lens, *]; first | done | omega) | decide | (split <;> simp only [lens, *]) | (with_reducible exact Lt.mono (by assumption) (by decide)) | (simp only [Cs.len]; done) | rfl) (by decide)) rfl ?_
      refine OpsFrom.v (Y.max (up0 rfl rfl rfl) rfl rfl rfl) rfl ?_
      refine OpsFrom.v (Y.assign (up0 rfl rfl rfl) rfl rfl) rfl ?_
      refine OpsFrom.nil ?_
      refine Holds.seq ?_
      refine Holds.reg ?_
      refine OpsFrom.v (Y.move (up0 rfl rfl rfl) rfl rfl) rfl ?_
      refine OpsFrom.v (Y.move (up0 rfl rfl rfl) rfl rfl) rfl ?_
      refine OpsFrom.v (Y.move (up0 rfl rfl rfl) rfl rfl) rfl ?_
      refine OpsFrom.v (Y.mulI (a := 16) (up0 rfl rfl rfl) rfl rfl rfl (by first | (with_reducible assumption) | omega | (simp only [lens, *]; first | done | omega) | decide | (split <;> simp only [lens, *]) | (with_reducible exact Lt.mono (by assumption) (by decide)) | (simp only [Cs.len]; done) | rfl)) rfl ?_
      refine OpsFrom.v (Y.addI (up0 rfl rfl rfl) rfl rfl rfl (by first | (with_reducible assumption) | omega | (simp only [lens, *]; first | done | omega) | decide | (split <;> simp only [lens, *]) | (with_reducible exact Lt.mono (by assumption) (by decide)) | (simp only [Cs.len]; done) | rfl)) rfl ?_
      refine OpsFrom.v (Y.assign (up0 rfl rfl rfl) rfl rfl) rfl ?_
      refine OpsFrom.v (Y.assign (up0 rfl rfl rfl) rfl rfl) rfl ?_
      refine OpsFrom.nil ?_
      refine Holds.ret ?_
      exact Holds.ret2 (.inl rfl) rfl (.tmp _ _ rfl) (.tmp _ _ rfl) (View.cg (congrArg (fun z => (.two (.one (.n .i64 z.1)) (.one (.n .i64 z.2)) : AV)) (show (count x) = _ from (by unfold count; exact (if_neg a1_2).trans (if_neg h9)))) (.two _ _ _ _ (.same _) (.same _))) rfl

def countz (x : Int) : Nat × Nat :=
  if (x < ((0 : Nat) : Int)) then
    (0, 0)
  else
    if ((4194304 : Nat) : Int) < x then
      (0, 0)
    else
      let v1_ : Nat := 16 * (Max.max (((x.toNat + 512) - 1) / 512) 1)
      (Max.max (((x.toNat + 512) - 1) / 512) 1, x.toNat + v1_)
theorem w_countz (x : Int) (l_x : -9223372036854775808 ≤ x) (g_x : x < 9223372036854775808) : VC Try.prog 36 [.one (.z x)] (.two (.one (.n .i64 ((countz x).1))) (.one (.n .i64 ((countz x).2)))) := by
  refine VC.go Try.func36 rfl Try.ntmps36 rfl rfl fun O w => ?_
  refine Holds.seq ?_
  refine Holds.reg ?_
  refine OpsFrom.v (Y.assign (v := (.one (.n .i64 0))) (up0 rfl rfl rfl) rfl rfl) rfl ?_
  refine OpsFrom.v (Y.assign (v := (.one (.n .i64 0))) (up0 rfl rfl rfl) rfl rfl) rfl ?_
  refine OpsFrom.nil ?_
  refine Holds.seq ?_
  refine Holds.seq ?_
  by_cases a1_2 : (x < ((0 : Nat) : Int))
  · refine Holds.reg ?_
    refine OpsFrom.v (Y.move (up0 rfl rfl rfl) rfl rfl) rfl ?_
    refine OpsFrom.v (Y.lssZ (b := 0) (up0 rfl rfl rfl) rfl rfl rfl rfl rfl) rfl ?_
    refine OpsFrom.v (Doing.isB (c := true) (decide_eq_true a1_2) (Y.move (up0 rfl rfl rfl) rfl rfl)) rfl ?_
    refine OpsFrom.v (Doing.skip _ _ _ _ rfl rfl rfl rfl (dlt rfl (Nat.le_of_ble_eq_true rfl))) rfl ?_
    refine OpsFrom.v (Doing.skip _ _ _ _ rfl rfl rfl rfl (dlt rfl (Nat.le_of_ble_eq_true rfl))) rfl ?_
    refine OpsFrom.v (Y.pickT (up0 rfl rfl rfl) rfl rfl rfl) rfl ?_
    refine OpsFrom.nil ?_
    refine Holds.condT rfl ?_
    refine Holds.seq ?_
    refine Holds.reg ?_
    refine OpsFrom.v (Y.assign (v := (.one (.n .i64 0))) (up0 rfl rfl rfl) rfl rfl) rfl ?_
    refine OpsFrom.v (Y.assign (v := (.one (.n .i64 0))) (up0 rfl rfl rfl) rfl rfl) rfl ?_
    refine OpsFrom.nil ?_
    refine Holds.ret ?_
    exact Holds.ret2 (.inl rfl) rfl (.tmp _ _ rfl) (.tmp _ _ rfl) (View.cg (congrArg (fun z => (.two (.one (.n .i64 z.1)) (.one (.n .i64 z.2)) : AV)) (show (countz x) = _ from (by unfold countz; exact (if_pos a1_2)))) (.two _ _ _ _ (.same _) (.same _))) rfl
  · refine Holds.reg ?_
    refine OpsFrom.v (Y.move (up0 rfl rfl rfl) rfl rfl) rfl ?_
    refine OpsFrom.v (Y.lssZ (b := 0) (up0 rfl rfl rfl) rfl rfl rfl rfl rfl) rfl ?_
    refine OpsFrom.v (Doing.isB (c := false) (decide_eq_false a1_2) (Y.move (up0 rfl rfl rfl) rfl rfl)) rfl ?_
    refine OpsFrom.v (Y.move (up1 rfl rfl rfl rfl rfl rfl) rfl rfl) rfl ?_
    refine OpsFrom.v (Y.gtrZ (b := 4194304) (up1 rfl rfl rfl rfl rfl rfl) rfl rfl rfl rfl rfl) rfl ?_
    refine OpsFrom.v (Y.pickF (up0 rfl rfl rfl) rfl rfl rfl) rfl ?_
    refine OpsFrom.nil ?_
    refine Holds.condD rfl (fun h9 => ?_) (fun h9 => ?_)
    · refine Holds.seq ?_
      refine Holds.reg ?_
      refine OpsFrom.v (Y.assign (v := (.one (.n .i64 0))) (up0 rfl rfl rfl) rfl rfl) rfl ?_
      refine OpsFrom.v (Y.assign (v := (.one (.n .i64 0))) (up0 rfl rfl rfl) rfl rfl) rfl ?_
      refine OpsFrom.nil ?_
      refine Holds.ret ?_
      exact Holds.ret2 (.inl rfl) rfl (.tmp _ _ rfl) (.tmp _ _ rfl) (View.cg (congrArg (fun z => (.two (.one (.n .i64 z.1)) (.one (.n .i64 z.2)) : AV)) (show (countz x) = _ from (by unfold countz; exact (if_neg a1_2).trans (if_pos h9)))) (.two _ _ _ _ (.same _) (.same _))) rfl
    · refine Holds.skip ?_
      refine Holds.seq ?_
      refine Holds.nat 0 rfl (x).toNat (by first | (with_reducible assumption) | omega | (simp only [lens, *]; first | done | omega) | decide | (split <;> simp only [lens, *]) | (with_reducible exact Lt.mono (by assumption) (by decide)) | (simp only [Cs.len]; done) | rfl) ?_
      refine Holds.reg ?_
      refine OpsFrom.v (Y.move (up0 rfl rfl rfl) rfl rfl) rfl ?_
      refine OpsFrom.v (Y.addI (b := 512) (up0 rfl rfl rfl) rfl rfl rfl (by first | (with_reducible assumption) | omega | (simp only [lens, *]; first | done | omega) | decide | (split <;> simp only [lens, *]) | (with_reducible exact Lt.mono (by assumption) (by decide)) | (simp only [Cs.len]; done) | rfl)) rfl ?_
      refine OpsFrom.v (Y.subI (b := 1) (up0 rfl rfl rfl) rfl rfl rfl (by first | (with_reducible assumption) | omega | (simp only [lens, *]; first | done | omega) | decide | (split <;> simp only [lens, *]) | (with_reducible exact Lt.mono (by assumption) (by decide)) | (simp only [Cs.len]; done) | rfl) (by first | (with_reducible assumption) | omega | (simp only [lens, *]; first | done | omega) | decide | (split <;> simp only [lens, *]) | (with_reducible exact Lt.mono (by assumption) (by decide)) | (simp only [Cs.len]; done) | rfl)) rfl ?_
      refine OpsFrom.v (Y.quoI (b := 512) (up0 rfl rfl rfl) rfl rfl rfl (by first | (with_reducible assumption) | omega | (simp only [lens, *]; first | done | omega) | decide | (split <;> simp only [lens, *]) | (with_reducible exact Lt.mono (by assumption) (by decide)) | (simp only [Cs.len]; done) | rfl) (by decide)) rfl ?_
      refine OpsFrom.v (Y.max (up0 rfl rfl rfl) rfl rfl rfl) rfl ?_
      refine OpsFrom.v (Y.assign (up0 rfl rfl rfl) rfl rfl) rfl ?_
      refine OpsFrom.nil ?_
      refine Holds.seq ?_
      refine Holds.reg ?_
      refine OpsFrom.v (Y.move (up0 rfl rfl rfl) rfl rfl) rfl ?_
      refine OpsFrom.v (Y.move (up0 rfl rfl rfl) rfl rfl) rfl ?_
      refine OpsFrom.v (Y.move (up0 rfl rfl rfl) rfl rfl) rfl ?_
      refine OpsFrom.v (Y.mulI (a := 16) (up0 rfl rfl rfl) rfl rfl rfl (by first | (with_reducible assumption) | omega | (simp only [lens, *]; first | done | omega) | decide | (split <;> simp only [lens, *]) | (with_reducible exact Lt.mono (by assumption) (by decide)) | (simp only [Cs.len]; done) | rfl)) rfl ?_
      refine OpsFrom.v (Y.addI (up0 rfl rfl rfl) rfl rfl rfl (by first | (with_reducible assumption) | omega | (simp only [lens, *]; first | done | omega) | decide | (split <;> simp only [lens, *]) | (with_reducible exact Lt.mono (by assumption) (by decide)) | (simp only [Cs.len]; done) | rfl)) rfl ?_
      refine OpsFrom.v (Y.assign (up0 rfl rfl rfl) rfl rfl) rfl ?_
      refine OpsFrom.v (Y.assign (up0 rfl rfl rfl) rfl rfl) rfl ?_
      refine OpsFrom.nil ?_
      refine Holds.ret ?_
      exact Holds.ret2 (.inl rfl) rfl (.tmp _ _ rfl) (.tmp _ _ rfl) (View.cg (congrArg (fun z => (.two (.one (.n .i64 z.1)) (.one (.n .i64 z.2)) : AV)) (show (countz x) = _ from (by unfold countz; exact (if_neg a1_2).trans (if_neg h9)))) (.two _ _ _ _ (.same _) (.same _))) rfl


end Go.Proofs.Ytkpelchcpiafaaa
