/-
  Walks: sealing, the small ones.
-/
import Derived.Test.YtkpelchcpiafaaaPd
import Derived.Test.YtkpelchcpiafaaaPa
import Derived.Test.YtkpelchcpiafaaaFc
namespace Go.Proofs.Ytkpelchcpiafaaa
open Go Go.Fx
set_option linter.unusedVariables false
set_option linter.unusedSimpArgs false
def same_s1 (a : List Nat) (b : List Nat) (i1_ : Nat) (m1_ : Nat) : Nat :=
  let v2_ : Nat := m1_ ||| ((a.getD i1_ 0) ^^^ (b.getD i1_ 0))
  v2_
def same_it1 (a : List Nat) (b : List Nat) (i1_ : Nat) : Nat := iter (same_s1 a b) i1_ 0
theorem same_it1_z (a : List Nat) (b : List Nat) : same_it1 a b 0 = 0 := rfl
theorem same_it1_s (a : List Nat) (b : List Nat) (i1_ : Nat) : same_it1 a b (i1_ + 1) = same_s1 a b i1_ (same_it1 a b i1_) := by unfold same_it1; exact iterS _ _ _
def same (a : List Nat) (b : List Nat) : Bool :=
  if a.length ≠ b.length then
    false
  else
    decide ((same_it1 a b a.length) = 0)
theorem w_same (a : List Nat) (b : List Nat) (h_a : a.length < 4294967296) : VC Try.prog 63 [.one (.bs false .u8 a), .one (.bs false .u8 b)] (.one (.b (same a b))) := by
  refine VC.go Try.func63 rfl Try.ntmps63 rfl rfl fun O w => ?_
  refine Holds.seq ?_
  refine Holds.reg ?_
  refine OpsFrom.v (Y.assign (up0 rfl rfl rfl) rfl rfl) rfl ?_
  refine OpsFrom.nil ?_
  refine Holds.seq ?_
  refine Holds.seq ?_
  refine Holds.reg ?_
  refine OpsFrom.v (Y.move (up0 rfl rfl rfl) rfl rfl) rfl ?_
  refine OpsFrom.v (Y.len ty26 (up0 rfl rfl rfl) rfl rfl rfl rfl) rfl ?_
  refine OpsFrom.v (Y.move (up0 rfl rfl rfl) rfl rfl) rfl ?_
  refine OpsFrom.v (Y.len ty26 (up0 rfl rfl rfl) rfl rfl rfl rfl) rfl ?_
  refine OpsFrom.v (Y.neq (up0 rfl rfl rfl) rfl rfl rfl) rfl ?_
  refine OpsFrom.nil ?_
  refine Holds.condD rfl (fun h12 => ?_) (fun h12 => ?_)
  · refine Holds.seq ?_
    refine Holds.reg ?_
    refine OpsFrom.v (Y.assign (up0 rfl rfl rfl) rfl rfl) rfl ?_
    refine OpsFrom.nil ?_
    refine Holds.ret ?_
    exact Holds.ret1 (.inl rfl) rfl (.tmp _ _ rfl) (View.cg (congrArg (fun z => (.one (.b z) : AV)) (show (same a b) = _ from (by unfold same; exact (if_pos h12)))) (.same _)) rfl
  · refine Holds.skip ?_
    refine Holds.seq ?_
    refine Holds.reg ?_
    refine OpsFrom.v (Y.assign (v := (.one (.n .u8 0))) (up0 rfl rfl rfl) rfl rfl) rfl ?_
    refine OpsFrom.nil ?_
    refine Holds.seq ?_
    refine Holds.seq ?_
    refine Holds.reg ?_
    refine OpsFrom.v (Y.move (up0 rfl rfl rfl) rfl rfl) rfl ?_
    refine OpsFrom.v (Y.len ty26 (up0 rfl rfl rfl) rfl rfl rfl rfl) rfl ?_
    refine OpsFrom.v (Y.move (v := (.one (.n .i64 0))) (up0 rfl rfl rfl) rfl rfl) rfl ?_
    refine OpsFrom.nil ?_
    refine Holds.block ?_
    refine Holds.loop (fun (i1_ : Nat) => ⟨[(1, .one (.bs false .u8 b)), (4, .one (.b false)), (5, .one (.n .u8 (same_it1 a b i1_))), (13, .one (.bs false .u8 a)), (14, .one (.n .i64 a.length)), (15, .one (.n .i64 i1_))], []⟩) (fun (i1_ : Nat) => i1_ ≤ a.length) (fun (i1_ : Nat) => a.length - i1_) 0 (by first | (with_reducible assumption) | omega | (simp only [lens, *]; first | done | omega) | decide | (split <;> simp only [lens, *]) | (with_reducible exact Lt.mono (by assumption) (by decide)) | (simp only [Cs.len]; done) | rfl) [] ⟨⟨rfl, rfl, (nEq (congrArg (fun (s : Nat) => s) (same_it1_z a b)).symm), rfl, rfl, rfl, trivial⟩, trivial, rfl, rfl⟩ ?_
    intro i1_ k1_
    refine Holds.seq ?_
    refine Holds.reg ?_
    refine OpsFrom.v (Y.lss (up0 rfl rfl rfl) rfl rfl rfl) rfl ?_
    refine OpsFrom.nil ?_
    refine Holds.seq ?_
    refine Holds.condD rfl (fun h16 => ?_) (fun h16 => ?_)
    · refine Holds.skip ?_
      refine Holds.seq ?_
      refine Holds.block ?_
      refine Holds.seq ?_
      refine Holds.reg ?_
      refine OpsFrom.v (Y.move (up0 rfl rfl rfl) rfl rfl) rfl ?_
      refine OpsFrom.v (Y.iaBs ty26 ty5 (up0 rfl rfl rfl) rfl rfl rfl (by first | (with_reducible assumption) | omega | (simp only [lens, *]; first | done | omega) | decide | (split <;> simp only [lens, *]) | (with_reducible exact Lt.mono (by assumption) (by decide)) | (simp only [Cs.len]; done) | rfl)) rfl ?_
      refine OpsFrom.v (Y.ldPc ty5 rfl (up0 rfl rfl rfl) rfl rfl) rfl ?_
      refine OpsFrom.v (Y.assign (up0 rfl rfl rfl) rfl rfl) rfl ?_
      refine OpsFrom.v (Y.assign (up0 rfl rfl rfl) rfl rfl) rfl ?_
      refine OpsFrom.nil ?_
      refine Holds.reg ?_
      refine OpsFrom.v (Y.move (up0 rfl rfl rfl) rfl rfl) rfl ?_
      refine OpsFrom.v (Y.move (up0 rfl rfl rfl) rfl rfl) rfl ?_
      refine OpsFrom.v (Y.move (up0 rfl rfl rfl) rfl rfl) rfl ?_
      refine OpsFrom.v (Y.move (up0 rfl rfl rfl) rfl rfl) rfl ?_
      refine OpsFrom.v (Y.iaBs ty26 ty5 (up0 rfl rfl rfl) rfl rfl rfl (by first | (with_reducible assumption) | omega | (simp only [lens, *]; first | done | omega) | decide | (split <;> simp only [lens, *]) | (with_reducible exact Lt.mono (by assumption) (by decide)) | (simp only [Cs.len]; done) | rfl)) rfl ?_
      refine OpsFrom.v (Y.ldPc ty5 rfl (up0 rfl rfl rfl) rfl rfl) rfl ?_
      refine OpsFrom.v (Y.xor u8s u8m (up0 rfl rfl rfl) rfl rfl rfl) rfl ?_
      refine OpsFrom.v (Y.or u8s u8m (up0 rfl rfl rfl) rfl rfl rfl) rfl ?_
      refine OpsFrom.v (Y.assign (up0 rfl rfl rfl) rfl rfl) rfl ?_
      refine OpsFrom.nil ?_
      refine Holds.reg ?_
      refine OpsFrom.v (Y.addI (b := 1) (up0 rfl rfl rfl) rfl rfl rfl (by first | (with_reducible assumption) | omega | (simp only [lens, *]; first | done | omega) | decide | (split <;> simp only [lens, *]) | (with_reducible exact Lt.mono (by assumption) (by decide)) | (simp only [Cs.len]; done) | rfl)) rfl ?_
      refine OpsFrom.v (Y.move (up0 rfl rfl rfl) rfl rfl) rfl ?_
      refine OpsFrom.nil ?_
      exact Holds.again (i1_ + 1) (by omega) (by omega) [] ⟨⟨rfl, rfl, (nEq (by rw [same_it1_s]; unfold same_s1; first | (dsimp only; done) | rfl)), rfl, rfl, (nEq (by omega)), trivial⟩, trivial, rfl, rfl⟩
    · obtain rfl : i1_ = a.length := by omega
      refine Holds.exit ?_
      refine Holds.seq ?_
      refine Holds.reg ?_
      refine OpsFrom.v (Y.move (up0 rfl rfl rfl) rfl rfl) rfl ?_
      refine OpsFrom.v (Y.eql (b := 0) (up0 rfl rfl rfl) rfl rfl rfl) rfl ?_
      refine OpsFrom.v (Y.assign (up0 rfl rfl rfl) rfl rfl) rfl ?_
      refine OpsFrom.nil ?_
      refine Holds.ret ?_
      exact Holds.ret1 (.inl rfl) rfl (.tmp _ _ rfl) (View.cg (congrArg (fun z => (.one (.b z) : AV)) (show (same a b) = _ from (by unfold same; exact (if_neg h12)))) (.same _)) rfl

def filled_s1 (b : List Nat) (i1_ : Nat) (m1_ : List Nat) : List Nat :=
  m1_ ++ [0]
def filled_it1 (b : List Nat) (i1_ : Nat) : List Nat := iter (filled_s1 b) i1_ ([] ++ b)
theorem filled_it1_z (b : List Nat) : filled_it1 b 0 = [] ++ b := rfl
theorem filled_it1_s (b : List Nat) (i1_ : Nat) : filled_it1 b (i1_ + 1) = filled_s1 b i1_ (filled_it1 b i1_) := by unfold filled_it1; exact iterS _ _ _
theorem filled_n (b : List Nat) (i : Nat) : (filled_it1 b i).length = b.length + i := by
  induction i with
  | zero => rw [filled_it1_z]; simp
  | succ i ih => rw [filled_it1_s]; unfold filled_s1; simp [ih]; omega
theorem filled_iff (b : List Nat) {i : Nat} (h : i ≤ (16 - b.length % 16) % 16) : (filled_it1 b i).length % 16 ≠ 0 ↔ i < (16 - b.length % 16) % 16 := by rw [filled_n]; omega
def filled (b : List Nat) : List Nat :=
  (filled_it1 b ((16 - b.length % 16) % 16))
theorem w_filled (b : List Nat) (h_b : b.length < 4294967296) : VF Try.prog 69 [.one (.bs false .u8 b)] (.one (.sg 0 0 ((filled b)).length)) .u8 ((filled b)) := by
  refine VF.go Try.func69 rfl Try.ntmps69 rfl rfl fun O w => ?_
  refine Holds.seq ?_
  refine Holds.reg ?_
  refine OpsFrom.v (Y.assign (up0 rfl rfl rfl) rfl rfl) rfl ?_
  refine OpsFrom.nil ?_
  refine Holds.seq ?_
  refine Holds.reg ?_
  refine OpsFrom.v (Y.bldS0 ty26 ty5 (up0 rfl rfl rfl) rfl) rfl ?_
  refine OpsFrom.v (Y.move (up0 rfl rfl rfl) rfl rfl) rfl ?_
  refine OpsFrom.u (Y.app (d := 6) ty26 ty5 rfl ty26 (by decide) (up0 rfl rfl rfl) rfl rfl rfl (.nilI _) rfl (.bs _ _ _) App.i (by first | (with_reducible assumption) | omega | (simp only [lens, *]; first | done | omega) | decide | (split <;> simp only [lens, *]) | (with_reducible exact Lt.mono (by assumption) (by decide)) | (simp only [Cs.len]; done) | rfl) rfl (by first | (simp; done) | (rintro ⟨_, _, _, h⟩; cases h))) rfl rfl rfl ?_
  refine OpsFrom.v (Y.assign (up0 rfl rfl rfl) rfl rfl) rfl ?_
  refine OpsFrom.nil ?_
  refine Holds.seq ?_
  refine Holds.block ?_
  refine Holds.loop (fun (i1_ : Nat) => ⟨[(2, .one (.nil)), (3, .one (.sg 6 0 ((filled_it1 b i1_).length)))], [(6, .own (.ints .u8 (filled_it1 b i1_)))]⟩) (fun (i1_ : Nat) => i1_ ≤ ((16 - b.length % 16) % 16)) (fun (i1_ : Nat) => ((16 - b.length % 16) % 16) - i1_) 0 (by first | (with_reducible assumption) | omega | (simp only [lens, *]; first | done | omega) | decide | (split <;> simp only [lens, *]) | (with_reducible exact Lt.mono (by assumption) (by decide)) | (simp only [Cs.len]; done) | rfl) [] ⟨⟨rfl, rfl, trivial⟩, ⟨(hEq (congrArg (fun (s : List Nat) => s) (filled_it1_z b)).symm), trivial⟩, rfl, rfl⟩ ?_
  intro i1_ k1_
  have hn := filled_n b i1_
  refine Holds.seq ?_
  refine Holds.seq ?_
  refine Holds.reg ?_
  refine OpsFrom.v (Y.move (up0 rfl rfl rfl) rfl rfl) rfl ?_
  refine OpsFrom.v (Y.len ty26 (up0 rfl rfl rfl) rfl rfl rfl rfl) rfl ?_
  refine OpsFrom.v (Y.rem (b := 16) (up0 rfl rfl rfl) rfl rfl rfl (by decide)) rfl ?_
  refine OpsFrom.v (Y.neq (b := 0) (up0 rfl rfl rfl) rfl rfl rfl) rfl ?_
  refine OpsFrom.nil ?_
  refine Holds.condD rfl (fun h10 => ?_) (fun h10 => ?_)
  · have h1c := (filled_iff b k1_).1 h10
    refine Holds.skip ?_
    refine Holds.block ?_
    refine Holds.reg ?_
    refine OpsFrom.v (Y.move (up0 rfl rfl rfl) rfl rfl) rfl ?_
    refine OpsFrom.u (Y.bldS (d := 12) ty26 ty5 rfl (up0 rfl rfl rfl) rfl (.ints .u8 (List.replicate 1 0)) rfl rfl rfl rfl (by decide) (by decide) (.cons _ _ _ _ _ _ (.one (.n .u8 0)) _ _ rfl rfl rfl rfl (Spl.n (by first | decide | (simp; done))) (.nil _))) rfl rfl rfl ?_
    refine OpsFrom.u (Y.app (d := 13) ty26 ty5 rfl ty26 (by decide) (up0 rfl rfl rfl) rfl rfl rfl (.all rfl (by first | (with_reducible assumption) | omega | (simp only [lens, *]; first | done | omega) | decide | (split <;> simp only [lens, *]) | (with_reducible exact Lt.mono (by assumption) (by decide)) | (simp only [Cs.len]; done) | rfl)) rfl (.all rfl (by first | (with_reducible assumption) | omega | (simp only [lens, *]; first | done | omega) | decide | (split <;> simp only [lens, *]) | (with_reducible exact Lt.mono (by assumption) (by decide)) | (simp only [Cs.len]; done) | rfl)) App.i (by first | (with_reducible assumption) | omega | (simp only [lens, *]; first | done | omega) | decide | (split <;> simp only [lens, *]) | (with_reducible exact Lt.mono (by assumption) (by decide)) | (simp only [Cs.len]; done) | rfl) rfl (by first | (simp; done) | (rintro ⟨_, _, _, h⟩; cases h))) rfl rfl rfl ?_
    refine OpsFrom.v (Y.assign (up0 rfl rfl rfl) rfl rfl) rfl ?_
    refine OpsFrom.nil ?_
    exact Holds.again (i1_ + 1) (by omega) (by omega) [(6, 13)] ⟨⟨rfl, (sgEq (congrArg List.length (by rw [filled_it1_s]; unfold filled_s1; first | (dsimp only; done) | rfl)) rfl), trivial⟩, ⟨(hEq (by rw [filled_it1_s]; unfold filled_s1; first | (dsimp only; done) | rfl)), trivial⟩, rfl, rfl⟩
  · have h1c : ¬ (i1_ < ((16 - b.length % 16) % 16)) := fun q => h10 ((filled_iff b k1_).2 q)
    obtain rfl : i1_ = (16 - b.length % 16) % 16 := by omega
    refine Holds.exit ?_
    refine Holds.seq ?_
    refine Holds.reg ?_
    refine OpsFrom.v (Y.move (up0 rfl rfl rfl) rfl rfl) rfl ?_
    refine OpsFrom.v (Y.assign (up0 rfl rfl rfl) rfl rfl) rfl ?_
    refine OpsFrom.nil ?_
    refine Holds.ret ?_
    exact Holds.retF (id := 6) (.inl rfl) rfl (.one _ _ (.tmp _ _ rfl)) (by first | rfl | (unfold filled; rfl)) rfl (by first | rfl | (unfold filled; rfl))

def long_s1 (b : List Nat) (i1_ : Nat) (m1_ : List Nat) : List Nat :=
  let v3_ : Nat := (b.length % 18446744073709551616) / 2 ^ ((8 * i1_) % 18446744073709551616)
  m1_ ++ [v3_ % 256]
def long_it1 (b : List Nat) (i1_ : Nat) : List Nat := iter (long_s1 b) i1_ []
theorem long_it1_z (b : List Nat) : long_it1 b 0 = [] := rfl
theorem long_it1_s (b : List Nat) (i1_ : Nat) : long_it1 b (i1_ + 1) = long_s1 b i1_ (long_it1 b i1_) := by unfold long_it1; exact iterS _ _ _
theorem long_n (b : List Nat) (i : Nat) : (long_it1 b i).length = i := by
  induction i with
  | zero => rfl
  | succ i ih => rw [long_it1_s]; unfold long_s1; simp [ih]
def long (b : List Nat) : List Nat :=
  (long_it1 b 8)
theorem w_long (b : List Nat) (h_b : b.length < 4294967296) : VC Try.prog 70 [.one (.bs false .u8 b)] (.one (.bs false .u8 (long b))) := by
  refine VC.go Try.func70 rfl Try.ntmps70 rfl rfl fun O w => ?_
  refine Holds.seq ?_
  refine Holds.reg ?_
  refine OpsFrom.v (Y.assign (up0 rfl rfl rfl) rfl rfl) rfl ?_
  refine OpsFrom.nil ?_
  refine Holds.seq ?_
  refine Holds.reg ?_
  refine OpsFrom.v (Y.assign (up0 rfl rfl rfl) rfl rfl) rfl ?_
  refine OpsFrom.nil ?_
  refine Holds.seq ?_
  refine Holds.seq ?_
  refine Holds.reg ?_
  refine OpsFrom.v (Y.assign (v := (.one (.n .i64 0))) (up0 rfl rfl rfl) rfl rfl) rfl ?_
  refine OpsFrom.nil ?_
  refine Holds.block ?_
  refine Holds.grow 3 3 (.ints .u8 []) rfl rfl rfl ?_
  refine Holds.loop (fun (i1_ : Nat) => ⟨[(0, .one (.bs false .u8 b)), (2, .one (.nil)), (3, .one (.sg 3 0 ((long_it1 b i1_).length))), (4, .one (.n .i64 i1_))], [(3, .own (.ints .u8 (long_it1 b i1_)))]⟩) (fun (i1_ : Nat) => i1_ ≤ 8) (fun (i1_ : Nat) => 8 - i1_) 0 (by first | (with_reducible assumption) | omega | (simp only [lens, *]; first | done | omega) | decide | (split <;> simp only [lens, *]) | (with_reducible exact Lt.mono (by assumption) (by decide)) | (simp only [Cs.len]; done) | rfl) [] ⟨⟨rfl, rfl, rfl, rfl, trivial⟩, ⟨(hEq (congrArg (fun (s : List Nat) => s) (long_it1_z b)).symm), trivial⟩, rfl, rfl⟩ ?_
  intro i1_ k1_
  have hn := long_n b i1_
  refine Holds.seq ?_
  refine Holds.seq ?_
  refine Holds.reg ?_
  refine OpsFrom.v (Y.move (up0 rfl rfl rfl) rfl rfl) rfl ?_
  refine OpsFrom.v (Y.lss (b := 8) (up0 rfl rfl rfl) rfl rfl rfl) rfl ?_
  refine OpsFrom.nil ?_
  refine Holds.condD rfl (fun h6 => ?_) (fun h6 => ?_)
  · refine Holds.skip ?_
    refine Holds.seq ?_
    refine Holds.block ?_
    refine Holds.reg ?_
    refine OpsFrom.v (Y.move (up0 rfl rfl rfl) rfl rfl) rfl ?_
    refine OpsFrom.v (Y.move (up0 rfl rfl rfl) rfl rfl) rfl ?_
    refine OpsFrom.v (Y.len ty26 (up0 rfl rfl rfl) rfl rfl rfl rfl) rfl ?_
    refine OpsFrom.v (Y.conv ty3.u ty42.u u64s u64m (up0 rfl rfl rfl) rfl rfl) rfl ?_
    refine OpsFrom.v (Y.move (up0 rfl rfl rfl) rfl rfl) rfl ?_
    refine OpsFrom.v (Y.mulI (a := 8) (up0 rfl rfl rfl) rfl rfl rfl (by first | (with_reducible assumption) | omega | (simp only [lens, *]; first | done | omega) | decide | (split <;> simp only [lens, *]) | (with_reducible exact Lt.mono (by assumption) (by decide)) | (simp only [Cs.len]; done) | rfl)) rfl ?_
    refine OpsFrom.v (Y.conv ty3.u ty67.u u64s u64m (up0 rfl rfl rfl) rfl rfl) rfl ?_
    refine OpsFrom.v (Y.shr u64s u64m (up0 rfl rfl rfl) rfl rfl rfl) rfl ?_
    refine OpsFrom.v (Y.conv ty42.u ty5.u u8s u8m (up0 rfl rfl rfl) rfl rfl) rfl ?_
    refine OpsFrom.u (Y.bldS (d := 18) ty26 ty5 rfl (up0 rfl rfl rfl) rfl (.ints .u8 (List.replicate 1 0)) rfl rfl rfl rfl (by decide) (by decide) (.cons _ _ _ _ _ _ _ _ _ rfl rfl rfl rfl (Spl.n (by first | decide | (simp; done))) (.nil _))) rfl rfl rfl ?_
    refine OpsFrom.u (Y.app (d := 19) ty26 ty5 rfl ty26 (by decide) (up0 rfl rfl rfl) rfl rfl rfl (.all rfl (by first | (with_reducible assumption) | omega | (simp only [lens, *]; first | done | omega) | decide | (split <;> simp only [lens, *]) | (with_reducible exact Lt.mono (by assumption) (by decide)) | (simp only [Cs.len]; done) | rfl)) rfl (.all rfl (by first | (with_reducible assumption) | omega | (simp only [lens, *]; first | done | omega) | decide | (split <;> simp only [lens, *]) | (with_reducible exact Lt.mono (by assumption) (by decide)) | (simp only [Cs.len]; done) | rfl)) App.i (by first | (with_reducible assumption) | omega | (simp only [lens, *]; first | done | omega) | decide | (split <;> simp only [lens, *]) | (with_reducible exact Lt.mono (by assumption) (by decide)) | (simp only [Cs.len]; done) | rfl) rfl (by first | (simp; done) | (rintro ⟨_, _, _, h⟩; cases h))) rfl rfl rfl ?_
    refine OpsFrom.v (Y.assign (up0 rfl rfl rfl) rfl rfl) rfl ?_
    refine OpsFrom.nil ?_
    refine Holds.reg ?_
    refine OpsFrom.v (Y.move (up0 rfl rfl rfl) rfl rfl) rfl ?_
    refine OpsFrom.v (Y.addI (b := 1) (up0 rfl rfl rfl) rfl rfl rfl (by first | (with_reducible assumption) | omega | (simp only [lens, *]; first | done | omega) | decide | (split <;> simp only [lens, *]) | (with_reducible exact Lt.mono (by assumption) (by decide)) | (simp only [Cs.len]; done) | rfl)) rfl ?_
    refine OpsFrom.v (Y.assign (up0 rfl rfl rfl) rfl rfl) rfl ?_
    refine OpsFrom.nil ?_
    exact Holds.again (i1_ + 1) (by omega) (by omega) [(3, 19)] ⟨⟨rfl, rfl, (sgEq (congrArg List.length (by rw [long_it1_s]; unfold long_s1; first | (dsimp only; done) | rfl)) rfl), (nEq (by omega)), trivial⟩, ⟨(hEq (by rw [long_it1_s]; unfold long_s1; first | (dsimp only; done) | rfl)), trivial⟩, rfl, rfl⟩
  · obtain rfl : i1_ = 8 := by omega
    refine Holds.exit ?_
    refine Holds.seq ?_
    refine Holds.reg ?_
    refine OpsFrom.v (Y.move (up0 rfl rfl rfl) rfl rfl) rfl ?_
    refine OpsFrom.v (Y.assign (up0 rfl rfl rfl) rfl rfl) rfl ?_
    refine OpsFrom.nil ?_
    refine Holds.ret ?_
    exact Holds.ret1 (.inl rfl) rfl (.tmp _ _ rfl) (.all rfl (by first | (with_reducible assumption) | omega | (simp only [lens, *]; first | done | omega) | decide | (split <;> simp only [lens, *]) | (with_reducible exact Lt.mono (by assumption) (by decide)) | (simp only [Cs.len]; done) | rfl)) rfl

theorem filled_le (b : List Nat) : (filled b).length < b.length + 16 := by unfold filled; rw [filled_n]; omega
theorem long_len8 (b : List Nat) : (long b).length = 8 := long_n b 8

end Go.Proofs.Ytkpelchcpiafaaa
