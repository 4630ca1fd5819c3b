/-
  Walks: comparisons.
-/
import Derived.Test.YtfnfcmgbbijlnaaWa
import Derived.Test.YtfnfcmgbbijlnaaFxX
namespace Go.Proofs.Ytfnfcmgbbijlnaa
open Go Go.Fx
set_option linter.unusedVariables false
theorem neg_case {n : Nat} (h : ¬ (0 : Int) ≤ (n : Int) - 1) : n = 0 := by omega
theorem below_end {x y : List Nat} (hx : x.length = 32) (hy : y.length = 32) (he : ∀ j, 0 ≤ j → j < 32 → x.getD j 0 = y.getD j 0) : false = decide (val 256 x < val 256 y) := by
  have : x = y := ext_getD (by omega) fun i hi => he i (Nat.zero_le _) (by omega)
  subst this
  simp
theorem below_now {x y : List Nat} (hx : x.length = 32) (hy : y.length = 32) (bx : Lt 256 x) (bY : Lt 256 y) {n : Nat} (hn : 0 < n) (hn2 : n ≤ 32) (he : ∀ j, n ≤ j → j < 32 → x.getD j 0 = y.getD j 0) (hne : x.getD (n - 1) 0 ≠ y.getD (n - 1) 0) :
    decide (x.getD (n - 1) 0 < y.getD (n - 1) 0) = decide (val 256 x < val 256 y) := by
  rw [decide_eq_decide]
  exact val_cmp bx.mem bY.mem (by omega) (by omega) (fun j h1 h2 => he j (by omega) (by omega)) hne
theorem w26 (x y : List Nat) (hx : x.length = 32) (hy : y.length = 32) (bx : Lt 256 x) (bY : Lt 256 y) : VC Try.prog 26 [.row (.ints .u8 x), .row (.ints .u8 y)] (.one (.b (decide (val 256 x < val 256 y)))) := by
  refine VC.go Try.func26 rfl Try.ntmps26 rfl rfl fun O w => ?_
  refine Holds.seq ?_
  refine Holds.reg ?_
  refine OpsFrom.u (Y.boxR (d := 2) (up0 rfl rfl rfl) rfl rfl rfl) rfl rfl rfl ?_
  refine OpsFrom.u (Y.boxR (d := 3) (up0 rfl rfl rfl) rfl rfl rfl) rfl rfl rfl ?_
  refine OpsFrom.v (Y.assign (up0 rfl rfl rfl) rfl rfl) rfl ?_
  refine OpsFrom.nil ?_
  refine Holds.seq ?_
  refine Holds.seq ?_
  refine Holds.reg ?_
  refine OpsFrom.v (Y.assign (v := (.one (.n .i64 31))) (up0 rfl rfl rfl) rfl rfl) rfl ?_
  refine OpsFrom.nil ?_
  refine Holds.block ?_
  refine Holds.toZ 5 rfl (((32 : Nat) : Int) - 1) (by decide) ?_
  refine Holds.loop (fun (n : Nat) => ⟨[(5, .one (.z ((n : Int) - 1))), (2, .one (.p 2 0)), (3, .one (.p 3 0))], [(2, .own (.ints .u8 x)), (3, .own (.ints .u8 y))]⟩) (fun (n : Nat) => n ≤ 32 ∧ ∀ j, n ≤ j → j < 32 → x.getD j 0 = y.getD j 0) (fun (n : Nat) => n) 32 ⟨by omega, fun j h1 h2 => by omega⟩ [] ⟨⟨rfl, rfl, rfl, trivial⟩, ⟨rfl, rfl, trivial⟩, rfl, rfl⟩ ?_
  intro n hok
  obtain ⟨hn, he⟩ := hok
  refine Holds.seq ?_
  refine Holds.seq ?_
  refine Holds.reg ?_
  refine OpsFrom.v (Y.move (up0 rfl rfl rfl) rfl rfl) rfl ?_
  refine OpsFrom.v (Y.geqZ (b := 0) (up0 rfl rfl rfl) rfl rfl rfl rfl rfl) rfl ?_
  refine OpsFrom.nil ?_
  refine Holds.condD rfl (fun h7 => ?_) (fun h7 => ?_)
  · refine Holds.nat 5 rfl (n - 1) (by omega) ?_
    refine Holds.skip ?_
    refine Holds.seq ?_
    refine Holds.block ?_
    refine Holds.seq ?_
    refine Holds.dr mx [([10], [13, 14, 15]), ([11], [13, 14, 15]), ([12], [13, 14, 15]), ([13], [10, 11, 12]), ([14], [10, 11, 12]), ([15], [10, 11, 12]), ([16], [])] (by kernel_rfl) ?_
    refine CertK.vd (Y.move (up0 rfl rfl rfl) rfl rfl) rfl rfl ?_
    refine CertK.vd (Y.ia0 ty23 ty5 (up0 rfl rfl rfl) rfl rfl rfl (by omega)) rfl rfl ?_
    refine CertK.vd (Y.ldI ty5 rfl (up0 rfl rfl rfl) rfl rfl rfl (by first | (with_reducible assumption) | omega | (simp only [*]; done) | (simp only [*]; omega) | (simp only [lens, *]; done) | (simp only [lens, *]; omega))) rfl rfl ?_
    refine CertK.vd (Y.move (up0 rfl rfl rfl) rfl rfl) rfl rfl ?_
    refine CertK.vd (Y.ia0 ty23 ty5 (up0 rfl rfl rfl) rfl rfl rfl (by omega)) rfl rfl ?_
    refine CertK.vd (Y.ldI ty5 rfl (up0 rfl rfl rfl) rfl rfl rfl (by first | (with_reducible assumption) | omega | (simp only [*]; done) | (simp only [*]; omega) | (simp only [lens, *]; done) | (simp only [lens, *]; omega))) rfl rfl ?_
    refine CertK.v (Y.neq (up0 rfl rfl rfl) rfl rfl rfl) rfl ?_
    refine CertK.nil ?_
    refine Holds.condD rfl (fun h16 => ?_) (fun h16 => ?_)
    · refine Holds.seq ?_
      refine Holds.dr mx [([17], [20, 21, 22]), ([18], [20, 21, 22]), ([19], [20, 21, 22]), ([20], [17, 18, 19]), ([21], [17, 18, 19]), ([22], [17, 18, 19]), ([23], []), ([4], [])] (by kernel_rfl) ?_
      refine CertK.vd (Y.move (up0 rfl rfl rfl) rfl rfl) rfl rfl ?_
      refine CertK.vd (Y.ia0 ty23 ty5 (up0 rfl rfl rfl) rfl rfl rfl (by omega)) rfl rfl ?_
      refine CertK.vd (Y.ldI ty5 rfl (up0 rfl rfl rfl) rfl rfl rfl (by first | (with_reducible assumption) | omega | (simp only [*]; done) | (simp only [*]; omega) | (simp only [lens, *]; done) | (simp only [lens, *]; omega))) rfl rfl ?_
      refine CertK.vd (Y.move (up0 rfl rfl rfl) rfl rfl) rfl rfl ?_
      refine CertK.vd (Y.ia0 ty23 ty5 (up0 rfl rfl rfl) rfl rfl rfl (by omega)) rfl rfl ?_
      refine CertK.vd (Y.ldI ty5 rfl (up0 rfl rfl rfl) rfl rfl rfl (by first | (with_reducible assumption) | omega | (simp only [*]; done) | (simp only [*]; omega) | (simp only [lens, *]; done) | (simp only [lens, *]; omega))) rfl rfl ?_
      refine CertK.v (Y.lss (up0 rfl rfl rfl) rfl rfl rfl) rfl ?_
      refine CertK.v (Y.assign (up0 rfl rfl rfl) rfl rfl) rfl ?_
      refine CertK.nil ?_
      refine Holds.ret ?_
      first | exact Holds.ret1 (.inl rfl) rfl (.tmp _ _ rfl) (below_end hx hy he ▸ .same _) rfl | exact Holds.ret1 (.inl rfl) rfl (.tmp _ _ rfl) (below_now hx hy bx bY (by omega) hn he h16 ▸ .same _) rfl
    · refine Holds.skip ?_
      refine Holds.reg ?_
      refine OpsFrom.v (Y.move (up0 rfl rfl rfl) rfl rfl) rfl ?_
      refine OpsFrom.v (Y.subZ (b := 1) (up0 rfl rfl rfl) rfl rfl rfl rfl rfl (by omega) (by omega)) rfl ?_
      refine OpsFrom.v (Y.assign (up0 rfl rfl rfl) rfl rfl) rfl ?_
      refine OpsFrom.nil ?_
      exact Holds.again (n - 1) ⟨by omega, fun j h1 h2 => by
    by_cases hj : j = n - 1
    · subst hj; exact Decidable.not_not.1 h16
    · exact he j (by omega) h2⟩ (by omega) [] ⟨⟨rfl, rfl, rfl, trivial⟩, ⟨rfl, rfl, trivial⟩, rfl, rfl⟩
  · obtain rfl := neg_case h7
    refine Holds.exit ?_
    refine Holds.seq ?_
    refine Holds.reg ?_
    refine OpsFrom.v (Y.assign (up0 rfl rfl rfl) rfl rfl) rfl ?_
    refine OpsFrom.nil ?_
    refine Holds.ret ?_
    first | exact Holds.ret1 (.inl rfl) rfl (.tmp _ _ rfl) (below_end hx hy he ▸ .same _) rfl | exact Holds.ret1 (.inl rfl) rfl (.tmp _ _ rfl) (below_now hx hy bx bY (by omega) hn he h16 ▸ .same _) rfl

end Go.Proofs.Ytfnfcmgbbijlnaa
