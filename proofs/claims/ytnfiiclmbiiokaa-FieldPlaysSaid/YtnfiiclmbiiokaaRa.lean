/-
  Walks: the document: comparisons.
-/
import Derived.Test.YtnfiiclmbiiokaaFt
namespace Go.Proofs.Ytnfiiclmbiiokaa
open Go Go.Fx
set_option linter.unusedVariables false
set_option linter.unusedSimpArgs false
theorem neg_case {n : Nat} (h : ¬ (0 : Int) ≤ (n : Int) - 1) : n = 0 := by omega
theorem below_end {x y : List Nat} (hx : x.length = 16) (hy : y.length = 16) (he : ∀ j, 0 ≤ j → j < 16 → x.getD j 0 = y.getD j 0) : false = decide (val 65536 x < val 65536 y) := by
  have : x = y := ext_getD (by omega) fun i hi => he i (Nat.zero_le _) (by omega)
  subst this
  simp
theorem below_now {x y : List Nat} (hx : x.length = 16) (hy : y.length = 16) (bx : Lt 65536 x) (bY : Lt 65536 y) {n : Nat} (hn : 0 < n) (hn2 : n ≤ 16) (he : ∀ j, n ≤ j → j < 16 → x.getD j 0 = y.getD j 0) (hne : x.getD (n - 1) 0 ≠ y.getD (n - 1) 0) :
    decide (x.getD (n - 1) 0 < y.getD (n - 1) 0) = decide (val 65536 x < val 65536 y) := by
  rw [decide_eq_decide]
  exact val_cmp bx.mem bY.mem (by omega) (by omega) (fun j h1 h2 => he j (by omega) (by omega)) hne
theorem w59 (x y : List Nat) (hx : x.length = 16) (hy : y.length = 16) (bx : Lt 65536 x) (bY : Lt 65536 y) : VC Try.prog 59 [.row (.ints .u64 x), .row (.ints .u64 y)] (.one (.b (decide (val 65536 x < val 65536 y)))) := by
  refine VC.go Try.func59 rfl Try.ntmps59 rfl rfl fun O w => ?_
  refine Holds.seq ?_
  refine Holds.reg ?_
  refine OpsFrom.u (Y.boxR (d := 2) (up0 rfl rfl rfl) rfl rfl rfl) rfl rfl rfl ?_
  refine OpsFrom.u (Y.boxR (d := 3) (up0 rfl rfl rfl) rfl rfl rfl) rfl rfl rfl ?_
  refine OpsFrom.v (Y.assign (up0 rfl rfl rfl) rfl rfl) rfl ?_
  refine OpsFrom.nil ?_
  refine Holds.seq ?_
  refine Holds.seq ?_
  refine Holds.reg ?_
  refine OpsFrom.v (Y.assign (v := (.one (.n .i64 15))) (up0 rfl rfl rfl) rfl rfl) rfl ?_
  refine OpsFrom.nil ?_
  refine Holds.block ?_
  refine Holds.toZ 5 rfl (((16 : Nat) : Int) - 1) (by decide) ?_
  refine Holds.loop (fun (n : Nat) => ⟨[(5, .one (.z ((n : Int) - 1))), (2, .one (.p 2 0)), (3, .one (.p 3 0))], [(2, .own (.ints .u64 x)), (3, .own (.ints .u64 y))]⟩) (fun (n : Nat) => n ≤ 16 ∧ ∀ j, n ≤ j → j < 16 → x.getD j 0 = y.getD j 0) (fun (n : Nat) => n) 16 ⟨by omega, fun j h1 h2 => by omega⟩ [] ⟨⟨rfl, rfl, rfl, trivial⟩, ⟨rfl, rfl, trivial⟩, rfl, rfl⟩ ?_
  intro n hok
  obtain ⟨hn, he⟩ := hok
  refine Holds.seq ?_
  refine Holds.seq ?_
  refine Holds.reg ?_
  refine OpsFrom.v (Y.move (up0 rfl rfl rfl) rfl rfl) rfl ?_
  refine OpsFrom.v (Y.geqZ (b := 0) (up0 rfl rfl rfl) rfl rfl rfl rfl rfl) rfl ?_
  refine OpsFrom.nil ?_
  refine Holds.condD rfl (fun h7 => ?_) (fun h7 => ?_)
  · refine Holds.nat 5 rfl (n - 1) (by omega) ?_
    refine Holds.skip ?_
    refine Holds.seq ?_
    refine Holds.block ?_
    refine Holds.seq ?_
    refine Holds.dr mx [([10], [13, 14, 15]), ([11], [13, 14, 15]), ([12], [13, 14, 15]), ([13], [10, 11, 12]), ([14], [10, 11, 12]), ([15], [10, 11, 12]), ([16], [])] (by kernel_rfl) ?_
    refine CertK.vd (Y.move (up0 rfl rfl rfl) rfl rfl) rfl rfl ?_
    refine CertK.vd (Y.ia0 ty31 ty24 (up0 rfl rfl rfl) rfl rfl rfl (by omega)) rfl rfl ?_
    refine CertK.vd (Y.ldI ty24 rfl (up0 rfl rfl rfl) rfl rfl rfl (by first | (with_reducible assumption) | omega | (simp only [*]; done) | (simp only [*]; omega) | (simp only [lens, *]; done) | (simp only [lens, *]; omega))) rfl rfl ?_
    refine CertK.vd (Y.move (up0 rfl rfl rfl) rfl rfl) rfl rfl ?_
    refine CertK.vd (Y.ia0 ty31 ty24 (up0 rfl rfl rfl) rfl rfl rfl (by omega)) rfl rfl ?_
    refine CertK.vd (Y.ldI ty24 rfl (up0 rfl rfl rfl) rfl rfl rfl (by first | (with_reducible assumption) | omega | (simp only [*]; done) | (simp only [*]; omega) | (simp only [lens, *]; done) | (simp only [lens, *]; omega))) rfl rfl ?_
    refine CertK.v (Y.neq (up0 rfl rfl rfl) rfl rfl rfl) rfl ?_
    refine CertK.nil ?_
    refine Holds.condD rfl (fun h16 => ?_) (fun h16 => ?_)
    · refine Holds.seq ?_
      refine Holds.dr mx [([17], [20, 21, 22]), ([18], [20, 21, 22]), ([19], [20, 21, 22]), ([20], [17, 18, 19]), ([21], [17, 18, 19]), ([22], [17, 18, 19]), ([23], []), ([4], [])] (by kernel_rfl) ?_
      refine CertK.vd (Y.move (up0 rfl rfl rfl) rfl rfl) rfl rfl ?_
      refine CertK.vd (Y.ia0 ty31 ty24 (up0 rfl rfl rfl) rfl rfl rfl (by omega)) rfl rfl ?_
      refine CertK.vd (Y.ldI ty24 rfl (up0 rfl rfl rfl) rfl rfl rfl (by first | (with_reducible assumption) | omega | (simp only [*]; done) | (simp only [*]; omega) | (simp only [lens, *]; done) | (simp only [lens, *]; omega))) rfl rfl ?_
      refine CertK.vd (Y.move (up0 rfl rfl rfl) rfl rfl) rfl rfl ?_
      refine CertK.vd (Y.ia0 ty31 ty24 (up0 rfl rfl rfl) rfl rfl rfl (by omega)) rfl rfl ?_
      refine CertK.vd (Y.ldI ty24 rfl (up0 rfl rfl rfl) rfl rfl rfl (by first | (with_reducible assumption) | omega | (simp only [*]; done) | (simp only [*]; omega) | (simp only [lens, *]; done) | (simp only [lens, *]; omega))) rfl rfl ?_
      refine CertK.v (Y.lss (up0 rfl rfl rfl) rfl rfl rfl) rfl ?_
      refine CertK.v (Y.assign (up0 rfl rfl rfl) rfl rfl) rfl ?_
      refine CertK.nil ?_
      refine Holds.ret ?_
      first | exact Holds.ret1 (.inl rfl) rfl (.tmp _ _ rfl) (below_end hx hy he ▸ .same _) rfl | exact Holds.ret1 (.inl rfl) rfl (.tmp _ _ rfl) (below_now hx hy bx bY (by omega) hn he h16 ▸ .same _) rfl
    · refine Holds.skip ?_
      refine Holds.reg ?_
      refine OpsFrom.v (Y.move (up0 rfl rfl rfl) rfl rfl) rfl ?_
      refine OpsFrom.v (Y.subZ (b := 1) (up0 rfl rfl rfl) rfl rfl rfl rfl rfl (by omega) (by omega)) rfl ?_
      refine OpsFrom.v (Y.assign (up0 rfl rfl rfl) rfl rfl) rfl ?_
      refine OpsFrom.nil ?_
      exact Holds.again (n - 1) ⟨by omega, fun j h1 h2 => by
    by_cases hj : j = n - 1
    · subst hj; exact Decidable.not_not.1 h16
    · exact he j (by omega) h2⟩ (by omega) [] ⟨⟨rfl, rfl, rfl, trivial⟩, ⟨rfl, rfl, trivial⟩, rfl, rfl⟩
  · obtain rfl := neg_case h7
    refine Holds.exit ?_
    refine Holds.seq ?_
    refine Holds.reg ?_
    refine OpsFrom.v (Y.assign (up0 rfl rfl rfl) rfl rfl) rfl ?_
    refine OpsFrom.nil ?_
    refine Holds.ret ?_
    first | exact Holds.ret1 (.inl rfl) rfl (.tmp _ _ rfl) (below_end hx hy he ▸ .same _) rfl | exact Holds.ret1 (.inl rfl) rfl (.tmp _ _ rfl) (below_now hx hy bx bY (by omega) hn he h16 ▸ .same _) rfl
def rP_s1  (i1_ : Nat) (m1_ : List Nat) : List Nat :=
  m1_.set i1_ 65535
def rP_it1  (i1_ : Nat) : List Nat := iter (rP_s1) i1_ (List.replicate 16 0)
theorem rP_it1_z  : rP_it1 0 = List.replicate 16 0 := rfl
theorem rP_it1_s  (i1_ : Nat) : rP_it1 (i1_ + 1) = rP_s1 i1_ (rP_it1 i1_) := by unfold rP_it1; exact iterS _ _ _
theorem rP_it1_l  (i1_ : Nat) : ((rP_it1 i1_)).length = (List.replicate 16 0 : List Nat).length := iter_inv (fun (s : List Nat) => (s).length = (List.replicate 16 0 : List Nat).length) (by simp) (fun i s h => by
  unfold rP_s1
  first | (simp [h]; done) | (dsimp only; (repeat' split) <;> simp [h])) i1_
def rP  : List Nat :=
  ((rP_it1 16).set 0 65517).set 15 32767
theorem rP_len   : (rP).length = 16 := by
  unfold rP
  first | (simp [rP_it1_l]; done) | (simp [*, rP_it1_l]; done) | (dsimp only; (repeat' split) <;> simp [*, rP_it1_l])
theorem w_rP   : VC Try.prog 48 [] (.row (.ints .u64 rP)) := by
  refine VC.go Try.func48 rfl Try.ntmps48 rfl rfl fun O w => ?_
  refine Holds.seq ?_
  refine Holds.reg ?_
  refine OpsFrom.u (Y.alloc (d := 0) ty31 rfl rfl (up0 rfl rfl rfl) rfl) rfl rfl rfl ?_
  refine OpsFrom.nil ?_
  refine Holds.seq ?_
  refine Holds.reg ?_
  refine OpsFrom.v (Y.buildA ty31 ty24 rfl (up0 rfl rfl rfl) rfl (.nil _)) rfl ?_
  refine OpsFrom.u (Y.alloc (d := 1) ty31 rfl rfl (up0 rfl rfl rfl) rfl) rfl rfl rfl ?_
  refine OpsFrom.n (Y.stR ty31 (upN rfl rfl) rfl rfl rfl rfl rfl (by first | (with_reducible assumption) | omega | (simp only [lens, *]; first | done | omega) | decide | (split <;> simp only [lens, *]) | (with_reducible exact Lt.mono (by assumption) (by decide)) | (simp only [Cs.len]; done) | rfl) (by first | (with_reducible assumption) | omega | (simp only [lens, *]; first | done | omega) | decide | (split <;> simp only [lens, *]) | (with_reducible exact Lt.mono (by assumption) (by decide)) | (simp only [Cs.len]; done) | rfl) (by decide)) rfl rfl ?_
  refine OpsFrom.nil ?_
  refine Holds.seq ?_
  refine Holds.seq ?_
  refine Holds.reg ?_
  refine OpsFrom.v (Y.assign (v := (.one (.n .i64 0))) (up0 rfl rfl rfl) rfl rfl) rfl ?_
  refine OpsFrom.nil ?_
  refine Holds.block ?_
  refine Holds.loop (fun (i1_ : Nat) => ⟨[(0, .one (.p 0 0)), (1, .one (.p 1 0)), (2, .one (.n .i64 i1_))], [(0, .own (.ints .u64 (List.replicate 16 0))), (1, .own (.ints .u64 (rP_it1 i1_)))]⟩) (fun (i1_ : Nat) => i1_ ≤ 16) (fun (i1_ : Nat) => 16 - i1_) 0 (by first | (with_reducible assumption) | omega | (simp only [lens, rP_it1_l, *]; first | done | omega) | decide | (split <;> simp only [lens, rP_it1_l, *]) | (with_reducible exact Lt.mono (by assumption) (by decide)) | (simp only [Cs.len]; done) | rfl) [] ⟨⟨rfl, rfl, rfl, trivial⟩, ⟨rfl, (hEq (congrArg (fun (s : List Nat) => s) (rP_it1_z)).symm), trivial⟩, rfl, rfl⟩ ?_
  intro i1_ k1_
  refine Holds.seq ?_
  refine Holds.seq ?_
  refine Holds.reg ?_
  refine OpsFrom.v (Y.move (up0 rfl rfl rfl) rfl rfl) rfl ?_
  refine OpsFrom.v (Y.lss (b := 16) (up0 rfl rfl rfl) rfl rfl rfl) rfl ?_
  refine OpsFrom.nil ?_
  refine Holds.condD rfl (fun h5 => ?_) (fun h5 => ?_)
  · refine Holds.skip ?_
    refine Holds.seq ?_
    refine Holds.block ?_
    refine Holds.reg ?_
    refine OpsFrom.v (Y.move (up0 rfl rfl rfl) rfl rfl) rfl ?_
    refine OpsFrom.v (Y.ia0 ty31 ty24 (up0 rfl rfl rfl) rfl rfl rfl (by first | (with_reducible assumption) | omega | (simp only [lens, rP_it1_l, *]; first | done | omega) | decide | (split <;> simp only [lens, rP_it1_l, *]) | (with_reducible exact Lt.mono (by assumption) (by decide)) | (simp only [Cs.len]; done) | rfl)) rfl ?_
    refine OpsFrom.n (Y.stI ty24 (upN rfl rfl) rfl rfl rfl rfl (by first | (with_reducible assumption) | omega | (simp only [lens, rP_it1_l, *]; first | done | omega) | decide | (split <;> simp only [lens, rP_it1_l, *]) | (with_reducible exact Lt.mono (by assumption) (by decide)) | (simp only [Cs.len]; done) | rfl)) rfl rfl ?_
    refine OpsFrom.nil ?_
    refine Holds.reg ?_
    refine OpsFrom.v (Y.move (up0 rfl rfl rfl) rfl rfl) rfl ?_
    refine OpsFrom.v (Y.addI (b := 1) (up0 rfl rfl rfl) rfl rfl rfl (by first | (with_reducible assumption) | omega | (simp only [lens, rP_it1_l, *]; first | done | omega) | decide | (split <;> simp only [lens, rP_it1_l, *]) | (with_reducible exact Lt.mono (by assumption) (by decide)) | (simp only [Cs.len]; done) | rfl)) rfl ?_
    refine OpsFrom.v (Y.assign (up0 rfl rfl rfl) rfl rfl) rfl ?_
    refine OpsFrom.nil ?_
    exact Holds.again (i1_ + 1) (by omega) (by omega) [] ⟨⟨rfl, rfl, (nEq (by omega)), trivial⟩, ⟨rfl, (hEq (by rw [rP_it1_s]; unfold rP_s1; first | (dsimp only; done) | rfl)), trivial⟩, rfl, rfl⟩
  · obtain rfl : i1_ = 16 := by omega
    refine Holds.exit ?_
    refine Holds.seq ?_
    refine Holds.reg ?_
    refine OpsFrom.v (Y.ia0 (i := 0) ty31 ty24 (up0 rfl rfl rfl) rfl rfl rfl (by first | (with_reducible assumption) | omega | (simp only [lens, rP_it1_l, *]; first | done | omega) | decide | (split <;> simp only [lens, rP_it1_l, *]) | (with_reducible exact Lt.mono (by assumption) (by decide)) | (simp only [Cs.len]; done) | rfl)) rfl ?_
    refine OpsFrom.n (Y.stI ty24 (upN rfl rfl) rfl rfl rfl rfl (by first | (with_reducible assumption) | omega | (simp only [lens, rP_it1_l, *]; first | done | omega) | decide | (split <;> simp only [lens, rP_it1_l, *]) | (with_reducible exact Lt.mono (by assumption) (by decide)) | (simp only [Cs.len]; done) | rfl)) rfl rfl ?_
    refine OpsFrom.nil ?_
    refine Holds.seq ?_
    refine Holds.reg ?_
    refine OpsFrom.v (Y.ia0 (i := 15) ty31 ty24 (up0 rfl rfl rfl) rfl rfl rfl (by first | (with_reducible assumption) | omega | (simp only [lens, rP_it1_l, *]; first | done | omega) | decide | (split <;> simp only [lens, rP_it1_l, *]) | (with_reducible exact Lt.mono (by assumption) (by decide)) | (simp only [Cs.len]; done) | rfl)) rfl ?_
    refine OpsFrom.n (Y.stI ty24 (upN rfl rfl) rfl rfl rfl rfl (by first | (with_reducible assumption) | omega | (simp only [lens, rP_it1_l, *]; first | done | omega) | decide | (split <;> simp only [lens, rP_it1_l, *]) | (with_reducible exact Lt.mono (by assumption) (by decide)) | (simp only [Cs.len]; done) | rfl)) rfl rfl ?_
    refine OpsFrom.nil ?_
    refine Holds.seq ?_
    refine Holds.reg ?_
    refine OpsFrom.v (Y.ldAll ty31 rfl (up0 rfl rfl rfl) rfl rfl rfl (by first | (with_reducible assumption) | omega | (simp only [lens, rP_it1_l, *]; first | done | omega) | decide | (split <;> simp only [lens, rP_it1_l, *]) | (with_reducible exact Lt.mono (by assumption) (by decide)) | (simp only [Cs.len]; done) | rfl) (by decide)) rfl ?_
    refine OpsFrom.n (Y.stR ty31 (upN rfl rfl) rfl rfl rfl rfl rfl (by first | (with_reducible assumption) | omega | (simp only [lens, rP_it1_l, *]; first | done | omega) | decide | (split <;> simp only [lens, rP_it1_l, *]) | (with_reducible exact Lt.mono (by assumption) (by decide)) | (simp only [Cs.len]; done) | rfl) (by first | (with_reducible assumption) | omega | (simp only [lens, rP_it1_l, *]; first | done | omega) | decide | (split <;> simp only [lens, rP_it1_l, *]) | (with_reducible exact Lt.mono (by assumption) (by decide)) | (simp only [Cs.len]; done) | rfl) (by decide)) rfl rfl ?_
    refine OpsFrom.nil ?_
    refine Holds.ret ?_
    exact Holds.ret1 (.inl rfl) rfl (.rowN rfl rfl ty31 rfl (by first | (with_reducible assumption) | omega | (simp only [lens, rP_it1_l, *]; first | done | omega) | decide | (split <;> simp only [lens, rP_it1_l, *]) | (with_reducible exact Lt.mono (by assumption) (by decide)) | (simp only [Cs.len]; done) | rfl) (by decide)) (.same _) rfl

def rless_s1 (x : List Nat) (y : List Nat) (i1_ : Nat) (m1_ : Nat × (List Nat)) : Nat × (List Nat) :=
  let v10_ : Nat := ((x.getD i1_ 0) + 65536) % 18446744073709551616
  let v11_ : Nat := (v10_ + (18446744073709551616 - (y.getD i1_ 0))) % 18446744073709551616
  let v12_ : Nat := (v11_ + (18446744073709551616 - m1_.1)) % 18446744073709551616
  let v13_ : Nat := (1 + (18446744073709551616 - (v12_ / 65536))) % 18446744073709551616
  (v13_, m1_.2.set i1_ (v12_ % 65536))
def rless_it1 (x : List Nat) (y : List Nat) (i1_ : Nat) : Nat × (List Nat) := iter (rless_s1 x y) i1_ (0, List.replicate 16 0)
theorem rless_it1_z (x : List Nat) (y : List Nat) : rless_it1 x y 0 = (0, List.replicate 16 0) := rfl
theorem rless_it1_s (x : List Nat) (y : List Nat) (i1_ : Nat) : rless_it1 x y (i1_ + 1) = rless_s1 x y i1_ (rless_it1 x y i1_) := by unfold rless_it1; exact iterS _ _ _
theorem rless_it1_l1 (x : List Nat) (y : List Nat) (i1_ : Nat) : ((rless_it1 x y i1_).2).length = (List.replicate 16 0 : List Nat).length := iter_inv (fun (s : Nat × (List Nat)) => (s.2).length = (List.replicate 16 0 : List Nat).length) (by simp) (fun i s h => by
  unfold rless_s1
  first | (simp [h]; done) | (dsimp only; (repeat' split) <;> simp [h])) i1_
def rless (x : List Nat) (y : List Nat) : List Nat :=
  (rless_it1 x y 16).2
theorem rless_len (x : List Nat) (y : List Nat) (l_x : x.length = 16) (l_y : y.length = 16) : ((rless x y)).length = 16 := by
  unfold rless
  first | (simp [rless_it1_l1]; done) | (simp [*, rless_it1_l1]; done) | (dsimp only; (repeat' split) <;> simp [*, rless_it1_l1])
theorem w_rless (x : List Nat) (y : List Nat) (l_x : x.length = 16) (l_y : y.length = 16) (b_x : Lt 65536 x) (b_y : Lt 65536 y) : VC Try.prog 47 [.row (.ints .u64 x), .row (.ints .u64 y)] (.row (.ints .u64 (rless x y))) := by
  refine VC.go Try.func47 rfl Try.ntmps47 rfl rfl fun O w => ?_
  refine Holds.seq ?_
  refine Holds.reg ?_
  refine OpsFrom.u (Y.boxR (d := 2) (up0 rfl rfl rfl) rfl rfl rfl) rfl rfl rfl ?_
  refine OpsFrom.u (Y.boxR (d := 3) (up0 rfl rfl rfl) rfl rfl rfl) rfl rfl rfl ?_
  refine OpsFrom.u (Y.alloc (d := 4) ty31 rfl rfl (up0 rfl rfl rfl) rfl) rfl rfl rfl ?_
  refine OpsFrom.nil ?_
  refine Holds.seq ?_
  refine Holds.reg ?_
  refine OpsFrom.v (Y.assign (v := (.one (.n .u64 0))) (up0 rfl rfl rfl) rfl rfl) rfl ?_
  refine OpsFrom.nil ?_
  refine Holds.seq ?_
  refine Holds.reg ?_
  refine OpsFrom.v (Y.buildA ty31 ty24 rfl (up0 rfl rfl rfl) rfl (.nil _)) rfl ?_
  refine OpsFrom.u (Y.alloc (d := 6) ty31 rfl rfl (up0 rfl rfl rfl) rfl) rfl rfl rfl ?_
  refine OpsFrom.n (Y.stR ty31 (upN rfl rfl) rfl rfl rfl rfl rfl (by first | (with_reducible assumption) | omega | (simp only [lens, *]; first | done | omega) | decide | (split <;> simp only [lens, *]) | (with_reducible exact Lt.mono (by assumption) (by decide)) | (simp only [Cs.len]; done) | rfl) (by first | (with_reducible assumption) | omega | (simp only [lens, *]; first | done | omega) | decide | (split <;> simp only [lens, *]) | (with_reducible exact Lt.mono (by assumption) (by decide)) | (simp only [Cs.len]; done) | rfl) (by decide)) rfl rfl ?_
  refine OpsFrom.nil ?_
  refine Holds.seq ?_
  refine Holds.seq ?_
  refine Holds.reg ?_
  refine OpsFrom.v (Y.assign (v := (.one (.n .i64 0))) (up0 rfl rfl rfl) rfl rfl) rfl ?_
  refine OpsFrom.nil ?_
  refine Holds.block ?_
  refine Holds.loop (fun (i1_ : Nat) => ⟨[(2, .one (.p 2 0)), (3, .one (.p 3 0)), (4, .one (.p 4 0)), (5, .one (.n .u64 ((rless_it1 x y i1_).1))), (6, .one (.p 6 0)), (7, .one (.n .i64 i1_))], [(2, .own (.ints .u64 x)), (3, .own (.ints .u64 y)), (4, .own (.ints .u64 (List.replicate 16 0))), (6, .own (.ints .u64 ((rless_it1 x y i1_).2)))]⟩) (fun (i1_ : Nat) => i1_ ≤ 16) (fun (i1_ : Nat) => 16 - i1_) 0 (by first | (with_reducible assumption) | omega | (simp only [lens, rless_it1_l1, *]; first | done | omega) | decide | (split <;> simp only [lens, rless_it1_l1, *]) | (with_reducible exact Lt.mono (by assumption) (by decide)) | (simp only [Cs.len]; done) | rfl) [] ⟨⟨rfl, rfl, rfl, (nEq (congrArg (fun (s : Nat × (List Nat)) => s.1) (rless_it1_z x y)).symm), rfl, rfl, trivial⟩, ⟨rfl, rfl, rfl, (hEq (congrArg (fun (s : Nat × (List Nat)) => s.2) (rless_it1_z x y)).symm), trivial⟩, rfl, rfl⟩ ?_
  intro i1_ k1_
  refine Holds.seq ?_
  refine Holds.seq ?_
  refine Holds.reg ?_
  refine OpsFrom.v (Y.move (up0 rfl rfl rfl) rfl rfl) rfl ?_
  refine OpsFrom.v (Y.lss (b := 16) (up0 rfl rfl rfl) rfl rfl rfl) rfl ?_
  refine OpsFrom.nil ?_
  refine Holds.condD rfl (fun h11 => ?_) (fun h11 => ?_)
  · refine Holds.skip ?_
    refine Holds.seq ?_
    refine Holds.block ?_
    refine Holds.seq ?_
    refine Holds.dr mx [([14], [18, 19, 20, 22]), ([15], [18, 19, 20, 22]), ([16], [18, 19, 20, 22]), ([17], [18, 19, 20, 22]), ([18], [14, 15, 16, 17, 22]), ([19], [14, 15, 16, 17, 22]), ([20], [14, 15, 16, 17, 22]), ([21], [22]), ([22], [14, 15, 16, 17, 18, 19, 20, 21]), ([23], []), ([8], [])] (by kernel_rfl) ?_
    refine CertK.vd (Y.move (up0 rfl rfl rfl) rfl rfl) rfl rfl ?_
    refine CertK.vd (Y.ia0 ty31 ty24 (up0 rfl rfl rfl) rfl rfl rfl (by first | (with_reducible assumption) | omega | (simp only [lens, rless_it1_l1, *]; first | done | omega) | decide | (split <;> simp only [lens, rless_it1_l1, *]) | (with_reducible exact Lt.mono (by assumption) (by decide)) | (simp only [Cs.len]; done) | rfl)) rfl rfl ?_
    refine CertK.vd (Y.ldI ty24 rfl (up0 rfl rfl rfl) rfl rfl rfl (by first | (with_reducible assumption) | omega | (simp only [lens, rless_it1_l1, *]; first | done | omega) | decide | (split <;> simp only [lens, rless_it1_l1, *]) | (with_reducible exact Lt.mono (by assumption) (by decide)) | (simp only [Cs.len]; done) | rfl)) rfl rfl ?_
    refine CertK.vd (Y.add (b := 65536) u64s u64m (up0 rfl rfl rfl) rfl rfl rfl) rfl rfl ?_
    refine CertK.vd (Y.move (up0 rfl rfl rfl) rfl rfl) rfl rfl ?_
    refine CertK.vd (Y.ia0 ty31 ty24 (up0 rfl rfl rfl) rfl rfl rfl (by first | (with_reducible assumption) | omega | (simp only [lens, rless_it1_l1, *]; first | done | omega) | decide | (split <;> simp only [lens, rless_it1_l1, *]) | (with_reducible exact Lt.mono (by assumption) (by decide)) | (simp only [Cs.len]; done) | rfl)) rfl rfl ?_
    refine CertK.vd (Y.ldI ty24 rfl (up0 rfl rfl rfl) rfl rfl rfl (by first | (with_reducible assumption) | omega | (simp only [lens, rless_it1_l1, *]; first | done | omega) | decide | (split <;> simp only [lens, rless_it1_l1, *]) | (with_reducible exact Lt.mono (by assumption) (by decide)) | (simp only [Cs.len]; done) | rfl)) rfl rfl ?_
    refine CertK.vd (Y.sub u64s u64m (up0 rfl rfl rfl) rfl rfl rfl) rfl rfl ?_
    refine CertK.vd (Y.move (up0 rfl rfl rfl) rfl rfl) rfl rfl ?_
    refine CertK.v (Y.sub u64s u64m (up0 rfl rfl rfl) rfl rfl rfl) rfl ?_
    refine CertK.v (Y.assign (up0 rfl rfl rfl) rfl rfl) rfl ?_
    refine CertK.nil ?_
    refine Holds.seq ?_
    refine Holds.reg ?_
    refine OpsFrom.v (Y.move (up0 rfl rfl rfl) rfl rfl) rfl ?_
    refine OpsFrom.v (Y.move (up0 rfl rfl rfl) rfl rfl) rfl ?_
    refine OpsFrom.v (Y.rem (b := 65536) (up0 rfl rfl rfl) rfl rfl rfl (by decide)) rfl ?_
    refine OpsFrom.v (Y.ia0 ty31 ty24 (up0 rfl rfl rfl) rfl rfl rfl (by first | (with_reducible assumption) | omega | (simp only [lens, rless_it1_l1, *]; first | done | omega) | decide | (split <;> simp only [lens, rless_it1_l1, *]) | (with_reducible exact Lt.mono (by assumption) (by decide)) | (simp only [Cs.len]; done) | rfl)) rfl ?_
    refine OpsFrom.n (Y.stI ty24 (upN rfl rfl) rfl rfl rfl rfl (by first | (with_reducible assumption) | omega | (simp only [lens, rless_it1_l1, *]; first | done | omega) | decide | (split <;> simp only [lens, rless_it1_l1, *]) | (with_reducible exact Lt.mono (by assumption) (by decide)) | (simp only [Cs.len]; done) | rfl)) rfl rfl ?_
    refine OpsFrom.nil ?_
    refine Holds.reg ?_
    refine OpsFrom.v (Y.move (up0 rfl rfl rfl) rfl rfl) rfl ?_
    refine OpsFrom.v (Y.quo (b := 65536) u64s u64m (up0 rfl rfl rfl) rfl rfl rfl (by decide)) rfl ?_
    refine OpsFrom.v (Y.sub (a := 1) u64s u64m (up0 rfl rfl rfl) rfl rfl rfl) rfl ?_
    refine OpsFrom.v (Y.assign (up0 rfl rfl rfl) rfl rfl) rfl ?_
    refine OpsFrom.nil ?_
    refine Holds.reg ?_
    refine OpsFrom.v (Y.move (up0 rfl rfl rfl) rfl rfl) rfl ?_
    refine OpsFrom.v (Y.addI (b := 1) (up0 rfl rfl rfl) rfl rfl rfl (by first | (with_reducible assumption) | omega | (simp only [lens, rless_it1_l1, *]; first | done | omega) | decide | (split <;> simp only [lens, rless_it1_l1, *]) | (with_reducible exact Lt.mono (by assumption) (by decide)) | (simp only [Cs.len]; done) | rfl)) rfl ?_
    refine OpsFrom.v (Y.assign (up0 rfl rfl rfl) rfl rfl) rfl ?_
    refine OpsFrom.nil ?_
    exact Holds.again (i1_ + 1) (by omega) (by omega) [] ⟨⟨rfl, rfl, rfl, (nEq (by rw [rless_it1_s]; unfold rless_s1; first | (dsimp only; done) | rfl)), rfl, (nEq (by omega)), trivial⟩, ⟨rfl, rfl, rfl, (hEq (by rw [rless_it1_s]; unfold rless_s1; first | (dsimp only; done) | rfl)), trivial⟩, rfl, rfl⟩
  · obtain rfl : i1_ = 16 := by omega
    refine Holds.exit ?_
    refine Holds.seq ?_
    refine Holds.reg ?_
    refine OpsFrom.v (Y.ldAll ty31 rfl (up0 rfl rfl rfl) rfl rfl rfl (by first | (with_reducible assumption) | omega | (simp only [lens, rless_it1_l1, *]; first | done | omega) | decide | (split <;> simp only [lens, rless_it1_l1, *]) | (with_reducible exact Lt.mono (by assumption) (by decide)) | (simp only [Cs.len]; done) | rfl) (by decide)) rfl ?_
    refine OpsFrom.n (Y.stR ty31 (upN rfl rfl) rfl rfl rfl rfl rfl (by first | (with_reducible assumption) | omega | (simp only [lens, rless_it1_l1, *]; first | done | omega) | decide | (split <;> simp only [lens, rless_it1_l1, *]) | (with_reducible exact Lt.mono (by assumption) (by decide)) | (simp only [Cs.len]; done) | rfl) (by first | (with_reducible assumption) | omega | (simp only [lens, rless_it1_l1, *]; first | done | omega) | decide | (split <;> simp only [lens, rless_it1_l1, *]) | (with_reducible exact Lt.mono (by assumption) (by decide)) | (simp only [Cs.len]; done) | rfl) (by decide)) rfl rfl ?_
    refine OpsFrom.nil ?_
    refine Holds.ret ?_
    exact Holds.ret1 (.inl rfl) rfl (.rowN rfl rfl ty31 rfl (by first | (with_reducible assumption) | omega | (simp only [lens, rless_it1_l1, *]; first | done | omega) | decide | (split <;> simp only [lens, rless_it1_l1, *]) | (with_reducible exact Lt.mono (by assumption) (by decide)) | (simp only [Cs.len]; done) | rfl) (by decide)) (.same _) rfl


end Go.Proofs.Ytnfiiclmbiiokaa
