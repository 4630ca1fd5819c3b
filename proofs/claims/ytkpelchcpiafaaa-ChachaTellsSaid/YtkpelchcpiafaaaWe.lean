/-
  Walks: the vectors.
-/
import Derived.Test.YtkpelchcpiafaaaWd
namespace Go.Proofs.Ytkpelchcpiafaaa
open Go Go.Fx
set_option linter.unusedVariables false
def akstep (i : Nat) (m : List Nat) : List Nat := m.set i (i % 256)
theorem aklen (i : Nat) : (iter akstep i (List.replicate 32 0)).length = 32 := (iter_len (fun _ _ => by simp [akstep]) i).trans (by simp)
theorem w26  : VC Try.prog 26 [] (.one (.b true)) := by
  refine VC.go Try.func26 rfl Try.ntmps26 rfl rfl fun O w => ?_
  refine Holds.seq ?_
  refine Holds.reg ?_
  refine OpsFrom.v (Y.assign (up0 rfl rfl rfl) rfl rfl) rfl ?_
  refine OpsFrom.nil ?_
  refine Holds.seq ?_
  refine Holds.reg ?_
  refine OpsFrom.v (Y.buildA ty23 ty5 rfl (up0 rfl rfl rfl) rfl (.nil _)) rfl ?_
  refine OpsFrom.u (Y.alloc (d := 1) ty23 rfl rfl (up0 rfl rfl rfl) rfl) rfl rfl rfl ?_
  refine OpsFrom.n (Y.stR ty23 (upN rfl rfl) rfl rfl rfl rfl rfl (by first | (with_reducible assumption) | omega | (simp only [*]; done) | (simp only [*]; omega) | (simp only [lens, *]; done) | (simp only [lens, *]; omega)) (by first | (with_reducible assumption) | omega | (simp only [*]; done) | (simp only [*]; omega) | (simp only [lens, *]; done) | (simp only [lens, *]; omega)) (by decide)) rfl rfl ?_
  refine OpsFrom.nil ?_
  refine Holds.seq ?_
  refine Holds.seq ?_
  refine Holds.reg ?_
  refine OpsFrom.v (Y.assign (v := (.one (.n .i64 0))) (up0 rfl rfl rfl) rfl rfl) rfl ?_
  refine OpsFrom.nil ?_
  refine Holds.block ?_
  refine Holds.loop (fun (i : Nat) => ⟨[(2, .one (.n .i64 i)), (1, .one (.p 1 0))], [(1, .own (.ints .u8 (iter akstep i (List.replicate 32 0))))]⟩) (fun (i : Nat) => i ≤ 32) (fun (i : Nat) => 32 - i) 0 (by omega) [] ⟨⟨rfl, rfl, trivial⟩, ⟨(hEq (iter0 _ _).symm), trivial⟩, rfl, rfl⟩ ?_
  intro i hok
  have hl := aklen i
  refine Holds.seq ?_
  refine Holds.seq ?_
  refine Holds.reg ?_
  refine OpsFrom.v (Y.move (up0 rfl rfl rfl) rfl rfl) rfl ?_
  refine OpsFrom.v (Y.lss (b := 32) (up0 rfl rfl rfl) rfl rfl rfl) rfl ?_
  refine OpsFrom.nil ?_
  refine Holds.condD rfl (fun h10 => ?_) (fun h10 => ?_)
  · refine Holds.skip ?_
    refine Holds.seq ?_
    refine Holds.block ?_
    refine Holds.reg ?_
    refine OpsFrom.v (Y.move (up0 rfl rfl rfl) rfl rfl) rfl ?_
    refine OpsFrom.v (Y.move (up0 rfl rfl rfl) rfl rfl) rfl ?_
    refine OpsFrom.v (Y.conv ty3.u ty5.u u8s u8m (up0 rfl rfl rfl) rfl rfl) rfl ?_
    refine OpsFrom.v (Y.ia0 ty23 ty5 (up0 rfl rfl rfl) rfl rfl rfl (by omega)) rfl ?_
    refine OpsFrom.n (Y.stI ty5 (upN rfl rfl) rfl rfl rfl rfl (by first | (with_reducible assumption) | omega | (simp only [*]; done) | (simp only [*]; omega) | (simp only [lens, *]; done) | (simp only [lens, *]; omega))) rfl rfl ?_
    refine OpsFrom.nil ?_
    refine Holds.reg ?_
    refine OpsFrom.v (Y.move (up0 rfl rfl rfl) rfl rfl) rfl ?_
    refine OpsFrom.v (Y.addI (b := 1) (up0 rfl rfl rfl) rfl rfl rfl (by omega)) rfl ?_
    refine OpsFrom.v (Y.assign (up0 rfl rfl rfl) rfl rfl) rfl ?_
    refine OpsFrom.nil ?_
    exact Holds.again (i + 1) (by omega) (by omega) [] ⟨⟨rfl, rfl, trivial⟩, ⟨rfl, trivial⟩, rfl, rfl⟩
  · obtain rfl : i = 32 := by omega
    have hb := block_len
    have hl2 := aklen 32
    refine Holds.exit ?_
    refine Holds.seq ?_
    refine Holds.reg ?_
    refine OpsFrom.v (Y.ldAll ty23 rfl (up0 rfl rfl rfl) rfl rfl rfl (by first | (with_reducible assumption) | omega | (simp only [*]; done) | (simp only [*]; omega) | (simp only [lens, *]; done) | (simp only [lens, *]; omega)) (by decide)) rfl ?_
    refine OpsFrom.v (Y.buildA ty25 ty5 rfl (up0 rfl rfl rfl) rfl (.cons _ _ _ _ _ _ (.one (.n .u8 9)) _ _ rfl rfl rfl rfl (Spl.n (by decide)) (.cons _ _ _ _ _ _ (.one (.n .u8 74)) _ _ rfl rfl rfl rfl (Spl.n (by decide)) (.nil _)))) rfl ?_
    refine OpsFrom.v (Y.callV (w29 _ _ _ (by first | (with_reducible assumption) | omega | (simp only [*]; done) | (simp only [*]; omega) | (simp only [lens, *]; done) | (simp only [lens, *]; omega)) (by first | (with_reducible assumption) | omega | (simp only [*]; done) | (simp only [*]; omega) | (simp only [lens, *]; done) | (simp only [lens, *]; omega))) fnok29 (up0 rfl rfl rfl) rfl rfl (.cons _ _ _ _ rfl (.cons _ _ (.one (.n .u32 1)) _ rfl (.cons _ _ _ _ rfl .nil))) (.cons _ _ _ _ (.same _) (.cons _ _ _ _ (.same _) (.cons _ _ _ _ (.same _) .nil))) rfl rfl) rfl ?_
    refine OpsFrom.u (Y.alloc (d := 3) ty30 rfl rfl (up0 rfl rfl rfl) rfl) rfl rfl rfl ?_
    refine OpsFrom.n (Y.stR ty30 (upN rfl rfl) rfl rfl rfl rfl rfl (by first | (with_reducible assumption) | omega | (simp only [*]; done) | (simp only [*]; omega) | (simp only [lens, *]; done) | (simp only [lens, *]; omega)) (by first | (with_reducible assumption) | omega | (simp only [*]; done) | (simp only [*]; omega) | (simp only [lens, *]; done) | (simp only [lens, *]; omega)) (by decide)) rfl rfl ?_
    refine OpsFrom.nil ?_
    refine Holds.seq ?_
    refine Holds.dr mx [([21], [22, 23]), ([22], [21, 23]), ([23], [21, 22]), ([24], []), ([20], []), ([25], [26]), ([26], [25, 4]), ([4], [26]), ([5], [])] (by kernel_rfl) ?_
    refine CertK.vd (Y.ldAll ty23 rfl (up0 rfl rfl rfl) rfl rfl rfl (by first | (with_reducible assumption) | omega | (simp only [*]; done) | (simp only [*]; omega) | (simp only [lens, *]; done) | (simp only [lens, *]; omega)) (by decide)) rfl rfl ?_
    refine CertK.vd (Y.buildA ty25 ty5 rfl (up0 rfl rfl rfl) rfl (.nil _)) rfl rfl ?_
    refine CertK.u (Y.mkS (d := 23) (L := 65) ty26 ty5 (up0 rfl rfl rfl) rfl rfl rfl (by omega) (by omega)) rfl rfl rfl rfl rfl ?_
    refine CertK.v (Y.callV (w27e _ _ _ _ (by first | (with_reducible assumption) | omega | (simp only [*]; done) | (simp only [*]; omega) | (simp only [lens, *]; done) | (simp only [lens, *]; omega)) (by first | (with_reducible assumption) | omega | (simp only [*]; done) | (simp only [*]; omega) | (simp only [lens, *]; done) | (simp only [lens, *]; omega)) (by first | (with_reducible assumption) | omega | (simp only [*]; done) | (simp only [*]; omega) | (simp only [lens, *]; done) | (simp only [lens, *]; omega)) (by first | (with_reducible assumption) | omega | (simp only [*]; done) | (simp only [*]; omega) | (simp only [lens, *]; done) | (simp only [lens, *]; omega)) (by decide)) fnok27 (up0 rfl rfl rfl) rfl rfl (.cons _ _ _ _ rfl (.cons _ _ (.one (.n .u32 4294967295)) _ rfl (.cons _ _ _ _ rfl (.cons _ _ _ _ rfl .nil)))) (.cons _ _ _ _ (.same _) (.cons _ _ _ _ (.same _) (.cons _ _ _ _ (.same _) (.cons _ _ _ _ (.all rfl (by first | (with_reducible assumption) | omega | (simp only [*]; done) | (simp only [*]; omega) | (simp only [lens, *]; done) | (simp only [lens, *]; omega))) .nil)))) rfl rfl) rfl ?_
    refine CertK.v (Y.move (up0 rfl rfl rfl) rfl rfl) rfl ?_
    refine CertK.vd (Y.ext0 (up0 rfl rfl rfl) rfl rfl) rfl rfl ?_
    refine CertK.vd (Y.ext1 (up0 rfl rfl rfl) rfl rfl) rfl rfl ?_
    refine CertK.vd (Y.assign (up0 rfl rfl rfl) rfl rfl) rfl rfl ?_
    refine CertK.v (Y.assign (up0 rfl rfl rfl) rfl rfl) rfl ?_
    refine CertK.nil ?_
    refine Holds.seq ?_
    refine Holds.dr mx [([28], [29, 30]), ([29], [28, 30]), ([30], [28, 29]), ([31], []), ([27], []), ([32], [33]), ([33], [32, 6]), ([6], [33]), ([7], [])] (by kernel_rfl) ?_
    refine CertK.vd (Y.ldAll ty23 rfl (up0 rfl rfl rfl) rfl rfl rfl (by first | (with_reducible assumption) | omega | (simp only [*]; done) | (simp only [*]; omega) | (simp only [lens, *]; done) | (simp only [lens, *]; omega)) (by decide)) rfl rfl ?_
    refine CertK.vd (Y.buildA ty25 ty5 rfl (up0 rfl rfl rfl) rfl (.nil _)) rfl rfl ?_
    refine CertK.u (Y.mkS (d := 30) (L := 64) ty26 ty5 (up0 rfl rfl rfl) rfl rfl rfl (by omega) (by omega)) rfl rfl rfl rfl rfl ?_
    refine CertK.u (Y.callF (d := 31) (w27 _ _ _ _ (by first | (with_reducible assumption) | omega | (simp only [*]; done) | (simp only [*]; omega) | (simp only [lens, *]; done) | (simp only [lens, *]; omega)) (by first | (with_reducible assumption) | omega | (simp only [*]; done) | (simp only [*]; omega) | (simp only [lens, *]; done) | (simp only [lens, *]; omega)) (by first | (with_reducible assumption) | omega | (simp only [*]; done) | (simp only [*]; omega) | (simp only [lens, *]; done) | (simp only [lens, *]; omega)) (by first | (with_reducible assumption) | omega | (simp only [*]; done) | (simp only [*]; omega) | (simp only [lens, *]; done) | (simp only [lens, *]; omega))) fnok27 (up0 rfl rfl rfl) rfl rfl (.cons _ _ _ _ rfl (.cons _ _ (.one (.n .u32 4294967295)) _ rfl (.cons _ _ _ _ rfl (.cons _ _ _ _ rfl .nil)))) (.cons _ _ _ _ (.same _) (.cons _ _ _ _ (.same _) (.cons _ _ _ _ (.same _) (.cons _ _ _ _ (.all rfl (by first | (with_reducible assumption) | omega | (simp only [*]; done) | (simp only [*]; omega) | (simp only [lens, *]; done) | (simp only [lens, *]; omega))) .nil)))) rfl rfl rfl) rfl rfl rfl rfl rfl ?_
    refine CertK.v (Y.move (up0 rfl rfl rfl) rfl rfl) rfl ?_
    refine CertK.vd (Y.ext0 (up0 rfl rfl rfl) rfl rfl) rfl rfl ?_
    refine CertK.vd (Y.ext1 (up0 rfl rfl rfl) rfl rfl) rfl rfl ?_
    refine CertK.vd (Y.assign (up0 rfl rfl rfl) rfl rfl) rfl rfl ?_
    refine CertK.v (Y.assign (up0 rfl rfl rfl) rfl rfl) rfl ?_
    refine CertK.nil ?_
    refine Holds.seq ?_
    refine Holds.reg ?_
    refine OpsFrom.v (Y.ia0 (i := 0) ty30 ty5 (up0 rfl rfl rfl) rfl rfl rfl (by omega)) rfl ?_
    refine OpsFrom.v (Y.ldI ty5 rfl (up0 rfl rfl rfl) rfl rfl rfl (by first | (with_reducible assumption) | omega | (simp only [*]; done) | (simp only [*]; omega) | (simp only [lens, *]; done) | (simp only [lens, *]; omega))) rfl ?_
    refine OpsFrom.v (Doing.isB (c := true) (decide_eq_true (by kernel_rfl)) (Y.eql (b := 16) (up0 rfl rfl rfl) rfl rfl rfl)) rfl ?_
    refine OpsFrom.v (Y.move (up0 rfl rfl rfl) rfl rfl) rfl ?_
    refine OpsFrom.v (Y.ia0 (i := 1) ty30 ty5 (up1 rfl rfl rfl rfl rfl rfl) rfl rfl rfl (by omega)) rfl ?_
    refine OpsFrom.v (Y.ldI ty5 rfl (up1 rfl rfl rfl rfl rfl rfl) rfl rfl rfl (by first | (with_reducible assumption) | omega | (simp only [*]; done) | (simp only [*]; omega) | (simp only [lens, *]; done) | (simp only [lens, *]; omega))) rfl ?_
    refine OpsFrom.v (Doing.isB (c := true) (decide_eq_true (by kernel_rfl)) (Y.eql (b := 241) (up1 rfl rfl rfl rfl rfl rfl) rfl rfl rfl)) rfl ?_
    refine OpsFrom.v (Y.pickT (up0 rfl rfl rfl) rfl rfl rfl) rfl ?_
    refine OpsFrom.v (Y.move (up0 rfl rfl rfl) rfl rfl) rfl ?_
    refine OpsFrom.v (Y.ia0 (i := 2) ty30 ty5 (up1 rfl rfl rfl rfl rfl rfl) rfl rfl rfl (by omega)) rfl ?_
    refine OpsFrom.v (Y.ldI ty5 rfl (up1 rfl rfl rfl rfl rfl rfl) rfl rfl rfl (by first | (with_reducible assumption) | omega | (simp only [*]; done) | (simp only [*]; omega) | (simp only [lens, *]; done) | (simp only [lens, *]; omega))) rfl ?_
    refine OpsFrom.v (Doing.isB (c := true) (decide_eq_true (by kernel_rfl)) (Y.eql (b := 231) (up1 rfl rfl rfl rfl rfl rfl) rfl rfl rfl)) rfl ?_
    refine OpsFrom.v (Y.pickT (up0 rfl rfl rfl) rfl rfl rfl) rfl ?_
    refine OpsFrom.v (Y.move (up0 rfl rfl rfl) rfl rfl) rfl ?_
    refine OpsFrom.v (Y.ia0 (i := 3) ty30 ty5 (up1 rfl rfl rfl rfl rfl rfl) rfl rfl rfl (by omega)) rfl ?_
    refine OpsFrom.v (Y.ldI ty5 rfl (up1 rfl rfl rfl rfl rfl rfl) rfl rfl rfl (by first | (with_reducible assumption) | omega | (simp only [*]; done) | (simp only [*]; omega) | (simp only [lens, *]; done) | (simp only [lens, *]; omega))) rfl ?_
    refine OpsFrom.v (Doing.isB (c := true) (decide_eq_true (by kernel_rfl)) (Y.eql (b := 228) (up1 rfl rfl rfl rfl rfl rfl) rfl rfl rfl)) rfl ?_
    refine OpsFrom.v (Y.pickT (up0 rfl rfl rfl) rfl rfl rfl) rfl ?_
    refine OpsFrom.v (Y.move (up0 rfl rfl rfl) rfl rfl) rfl ?_
    refine OpsFrom.v (Y.move (up1 rfl rfl rfl rfl rfl rfl) rfl rfl) rfl ?_
    refine OpsFrom.v (Doing.isB (c := true) (decide_eq_true rfl) (Y.eql (b := 90) (up1 rfl rfl rfl rfl rfl rfl) rfl rfl rfl)) rfl ?_
    refine OpsFrom.v (Y.pickT (up0 rfl rfl rfl) rfl rfl rfl) rfl ?_
    refine OpsFrom.v (Y.move (up0 rfl rfl rfl) rfl rfl) rfl ?_
    refine OpsFrom.v (Y.move (up1 rfl rfl rfl rfl rfl rfl) rfl rfl) rfl ?_
    refine OpsFrom.v (Y.len ty26 (up1 rfl rfl rfl rfl rfl rfl) rfl rfl rfl rfl) rfl ?_
    refine OpsFrom.v (Doing.isB (c := true) (decide_eq_true (by first | (with_reducible assumption) | omega | (simp only [*]; done) | (simp only [*]; omega) | (simp only [lens, *]; done) | (simp only [lens, *]; omega))) (Y.eql (b := 64) (up1 rfl rfl rfl rfl rfl rfl) rfl rfl rfl)) rfl ?_
    refine OpsFrom.v (Y.pickT (up0 rfl rfl rfl) rfl rfl rfl) rfl ?_
    refine OpsFrom.v (Y.move (up0 rfl rfl rfl) rfl rfl) rfl ?_
    refine OpsFrom.v (Y.move (up1 rfl rfl rfl rfl rfl rfl) rfl rfl) rfl ?_
    refine OpsFrom.v (Doing.isB (c := true) (decide_eq_true rfl) (Y.eql (b := 0) (up1 rfl rfl rfl rfl rfl rfl) rfl rfl rfl)) rfl ?_
    refine OpsFrom.v (Y.pickT (up0 rfl rfl rfl) rfl rfl rfl) rfl ?_
    refine OpsFrom.v (Y.assign (up0 rfl rfl rfl) rfl rfl) rfl ?_
    refine OpsFrom.nil ?_
    refine Holds.ret ?_
    exact Holds.ret1 (.inl rfl) rfl (.tmp _ _ rfl) (.same _) rfl
theorem w3  : VC Try.prog 3 [] (.one (.b true)) := by
  refine VC.go Try.func3 rfl Try.ntmps3 rfl rfl fun O w => ?_
  refine Holds.seq ?_
  refine Holds.reg ?_
  refine OpsFrom.v (Y.assign (up0 rfl rfl rfl) rfl rfl) rfl ?_
  refine OpsFrom.nil ?_
  refine Holds.seq ?_
  refine Holds.reg ?_
  refine OpsFrom.v (Y.callV w26 fnok26 (up0 rfl rfl rfl) rfl rfl .nil .nil rfl rfl) rfl ?_
  refine OpsFrom.v (Y.assign (up0 rfl rfl rfl) rfl rfl) rfl ?_
  refine OpsFrom.nil ?_
  refine Holds.seq ?_
  refine Holds.reg ?_
  refine OpsFrom.v (Y.move (up0 rfl rfl rfl) rfl rfl) rfl ?_
  refine OpsFrom.v (Y.move (up0 rfl rfl rfl) rfl rfl) rfl ?_
  refine OpsFrom.v (Y.pickT (up0 rfl rfl rfl) rfl rfl rfl) rfl ?_
  refine OpsFrom.v (Y.assign (up0 rfl rfl rfl) rfl rfl) rfl ?_
  refine OpsFrom.nil ?_
  refine Holds.ret ?_
  exact Holds.ret1 (.inl rfl) rfl (.tmp _ _ rfl) (.same _) rfl

end Go.Proofs.Ytkpelchcpiafaaa
