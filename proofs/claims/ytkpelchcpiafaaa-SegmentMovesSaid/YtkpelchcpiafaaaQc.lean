/-
  Walks: the other Poly1305: products.
-/
import Derived.Test.YtkpelchcpiafaaaQb
namespace Go.Proofs.Ytkpelchcpiafaaa
open Go Go.Fx
set_option linter.unusedVariables false
set_option linter.unusedSimpArgs false
def rtimes_s2 (a : List Nat) (b : List Nat) (i1_ : Nat) (m1_ : List Nat) (i2_ : Nat) (m2_ : List Nat) : List Nat :=
  let v15_ : Nat := (m2_.getD (i1_ + i2_) 0) + ((a.getD i1_ 0) * (b.getD i2_ 0))
  m2_.set (i1_ + i2_) v15_
def rtimes_it2 (a : List Nat) (b : List Nat) (i1_ : Nat) (m1_ : List Nat) (i2_ : Nat) : List Nat := iter (rtimes_s2 a b i1_ m1_) i2_ m1_
theorem rtimes_it2_z (a : List Nat) (b : List Nat) (i1_ : Nat) (m1_ : List Nat) : rtimes_it2 a b i1_ m1_ 0 = m1_ := rfl
theorem rtimes_it2_s (a : List Nat) (b : List Nat) (i1_ : Nat) (m1_ : List Nat) (i2_ : Nat) : rtimes_it2 a b i1_ m1_ (i2_ + 1) = rtimes_s2 a b i1_ m1_ i2_ (rtimes_it2 a b i1_ m1_ i2_) := by unfold rtimes_it2; exact iterS _ _ _
theorem rtimes_it2_l (a : List Nat) (b : List Nat) (i1_ : Nat) (m1_ : List Nat) (i2_ : Nat) : ((rtimes_it2 a b i1_ m1_ i2_)).length = (m1_ : List Nat).length := iter_inv (fun (s : List Nat) => (s).length = (m1_ : List Nat).length) (by simp) (fun i s h => by
  unfold rtimes_s2
  first | (simp [h]; done) | (dsimp only; (repeat' split) <;> simp [h])) i2_
theorem rtimes_mul {a b : List Nat} (ba : Lt 256 a) (bb : Lt 256 b) (i k : Nat) : a.getD i 0 * b.getD k 0 ≤ 65025 := Nat.mul_le_mul (Nat.le_of_lt_succ (ba i)) (Nat.le_of_lt_succ (bb k))
theorem rtimes_b2 {a b : List Nat} (ba : Lt 256 a) (bb : Lt 256 b) (i : Nat) {m : List Nat} {K : Nat} (h : Lt K m) (k : Nat) : Lt (K + 65025 * k) (rtimes_it2 a b i m k) := by
  induction k with
  | zero => exact h
  | succ k ih =>
    rw [rtimes_it2_s]
    have := ih (i + k)
    have := rtimes_mul ba bb i k
    simp only [rtimes_s2]
    exact (ih.mono (by omega)).set (by omega)
def rtimes_s1 (a : List Nat) (b : List Nat) (i1_ : Nat) (m1_ : List Nat) : List Nat :=
  (rtimes_it2 a b i1_ m1_ 20)
def rtimes_it1 (a : List Nat) (b : List Nat) (i1_ : Nat) : List Nat := iter (rtimes_s1 a b) i1_ (List.replicate 40 0)
theorem rtimes_it1_z (a : List Nat) (b : List Nat) : rtimes_it1 a b 0 = List.replicate 40 0 := rfl
theorem rtimes_it1_s (a : List Nat) (b : List Nat) (i1_ : Nat) : rtimes_it1 a b (i1_ + 1) = rtimes_s1 a b i1_ (rtimes_it1 a b i1_) := by unfold rtimes_it1; exact iterS _ _ _
theorem rtimes_it1_l (a : List Nat) (b : List Nat) (i1_ : Nat) : ((rtimes_it1 a b i1_)).length = (List.replicate 40 0 : List Nat).length := iter_inv (fun (s : List Nat) => (s).length = (List.replicate 40 0 : List Nat).length) (by simp) (fun i s h => by
  unfold rtimes_s1
  first | (simp [rtimes_it2_l, h]; done) | (dsimp only; (repeat' split) <;> simp [rtimes_it2_l, h])) i1_
theorem rtimes_b1 {a b : List Nat} (ba : Lt 256 a) (bb : Lt 256 b) (i : Nat) : Lt (1 + 1300500 * i) (rtimes_it1 a b i) := by
  induction i with
  | zero => exact Lt.replicate (by omega)
  | succ i ih =>
    rw [rtimes_it1_s]
    exact (rtimes_b2 ba bb i ih 20).mono (by omega)
def rtimes (a : List Nat) (b : List Nat) : List Nat :=
  (rmodulo (rtimes_it1 a b 20))
theorem rtimes_len (a : List Nat) (b : List Nat)  : ((rtimes a b)).length = 40 := by
  unfold rtimes
  first | (simp [rtimes_it2_l, rtimes_it1_l, rmodulo_len]; done) | (simp [*, rtimes_it2_l, rtimes_it1_l, rmodulo_len]; done) | (dsimp only; (repeat' split) <;> simp [*, rtimes_it2_l, rtimes_it1_l, rmodulo_len])
theorem w_rtimes (a : List Nat) (b : List Nat) (l_a : a.length = 40) (l_b : b.length = 40) (b_a : Lt 256 a) (b_b : Lt 256 b) : VC Try.prog 58 [.row (.ints .i64 a), .row (.ints .i64 b)] (.row (.ints .i64 (rtimes a b))) := by
  refine VC.go Try.func58 rfl Try.ntmps58 rfl rfl fun O w => ?_
  refine Holds.seq ?_
  refine Holds.reg ?_
  refine OpsFrom.u (Y.boxR (d := 2) (up0 rfl rfl rfl) rfl rfl rfl) rfl rfl rfl ?_
  refine OpsFrom.u (Y.boxR (d := 3) (up0 rfl rfl rfl) rfl rfl rfl) rfl rfl rfl ?_
  refine OpsFrom.u (Y.alloc (d := 4) ty78 rfl rfl (up0 rfl rfl rfl) rfl) rfl rfl rfl ?_
  refine OpsFrom.nil ?_
  refine Holds.seq ?_
  refine Holds.reg ?_
  refine OpsFrom.v (Y.buildA ty78 ty3 rfl (up0 rfl rfl rfl) rfl (.nil _)) rfl ?_
  refine OpsFrom.u (Y.alloc (d := 5) ty78 rfl rfl (up0 rfl rfl rfl) rfl) rfl rfl rfl ?_
  refine OpsFrom.n (Y.stR ty78 (upN rfl rfl) rfl rfl rfl rfl rfl (by first | (with_reducible assumption) | omega | (simp only [lens, *]; first | done | omega) | decide | (split <;> simp only [lens, *]) | (with_reducible exact Lt.mono (by assumption) (by decide))) (by first | (with_reducible assumption) | omega | (simp only [lens, *]; first | done | omega) | decide | (split <;> simp only [lens, *]) | (with_reducible exact Lt.mono (by assumption) (by decide))) (by decide)) rfl rfl ?_
  refine OpsFrom.nil ?_
  refine Holds.seq ?_
  refine Holds.seq ?_
  refine Holds.reg ?_
  refine OpsFrom.v (Y.assign (v := (.one (.n .i64 0))) (up0 rfl rfl rfl) rfl rfl) rfl ?_
  refine OpsFrom.nil ?_
  refine Holds.block ?_
  refine Holds.loop (fun (i1_ : Nat) => ⟨[(2, .one (.p 2 0)), (3, .one (.p 3 0)), (4, .one (.p 4 0)), (5, .one (.p 5 0)), (6, .one (.n .i64 i1_))], [(2, .own (.ints .i64 a)), (3, .own (.ints .i64 b)), (4, .own (.ints .i64 (List.replicate 40 0))), (5, .own (.ints .i64 (rtimes_it1 a b i1_)))]⟩) (fun (i1_ : Nat) => i1_ ≤ 20) (fun (i1_ : Nat) => 20 - i1_) 0 (by first | (with_reducible assumption) | omega | (simp only [lens, rtimes_it1_l, *]; first | done | omega) | decide | (split <;> simp only [lens, rtimes_it1_l, *]) | (with_reducible exact Lt.mono (by assumption) (by decide))) [] ⟨⟨rfl, rfl, rfl, rfl, rfl, trivial⟩, ⟨rfl, rfl, rfl, (hEq (congrArg (fun (s : List Nat) => s) (rtimes_it1_z a b)).symm), trivial⟩, rfl, rfl⟩ ?_
  intro i1_ k1_
  have hq := rtimes_b1 b_a b_b i1_
  refine Holds.seq ?_
  refine Holds.seq ?_
  refine Holds.reg ?_
  refine OpsFrom.v (Y.move (up0 rfl rfl rfl) rfl rfl) rfl ?_
  refine OpsFrom.v (Y.lss (b := 20) (up0 rfl rfl rfl) rfl rfl rfl) rfl ?_
  refine OpsFrom.nil ?_
  refine Holds.condD rfl (fun h10 => ?_) (fun h10 => ?_)
  · refine Holds.skip ?_
    refine Holds.seq ?_
    refine Holds.block ?_
    refine Holds.seq ?_
    refine Holds.reg ?_
    refine OpsFrom.v (Y.assign (v := (.one (.n .i64 0))) (up0 rfl rfl rfl) rfl rfl) rfl ?_
    refine OpsFrom.nil ?_
    refine Holds.block ?_
    refine Holds.loop (fun (i2_ : Nat) => ⟨[(2, .one (.p 2 0)), (3, .one (.p 3 0)), (4, .one (.p 4 0)), (5, .one (.p 5 0)), (6, .one (.n .i64 i1_)), (9, .one (.n .i64 i1_)), (10, .one (.b (decide (i1_ < 20)))), (7, .one (.n .i64 i2_))], [(2, .own (.ints .i64 a)), (3, .own (.ints .i64 b)), (4, .own (.ints .i64 (List.replicate 40 0))), (5, .own (.ints .i64 (rtimes_it2 a b i1_ (rtimes_it1 a b i1_) i2_)))]⟩) (fun (i2_ : Nat) => i2_ ≤ 20) (fun (i2_ : Nat) => 20 - i2_) 0 (by first | (with_reducible assumption) | omega | (simp only [lens, rtimes_it1_l, rtimes_it2_l, *]; first | done | omega) | decide | (split <;> simp only [lens, rtimes_it1_l, rtimes_it2_l, *]) | (with_reducible exact Lt.mono (by assumption) (by decide))) [] ⟨⟨rfl, rfl, rfl, rfl, rfl, rfl, rfl, rfl, trivial⟩, ⟨rfl, rfl, rfl, (hEq (congrArg (fun (s : List Nat) => s) (rtimes_it2_z a b i1_ (rtimes_it1 a b i1_))).symm), trivial⟩, rfl, rfl⟩ ?_
    intro i2_ k2_
    have hr := rtimes_b2 b_a b_b i1_ hq i2_ (i1_ + i2_)
    have hs := rtimes_mul b_a b_b i1_ i2_
    refine Holds.seq ?_
    refine Holds.seq ?_
    refine Holds.reg ?_
    refine OpsFrom.v (Y.move (up0 rfl rfl rfl) rfl rfl) rfl ?_
    refine OpsFrom.v (Y.lss (b := 20) (up0 rfl rfl rfl) rfl rfl rfl) rfl ?_
    refine OpsFrom.nil ?_
    refine Holds.condD rfl (fun h14 => ?_) (fun h14 => ?_)
    · refine Holds.skip ?_
      refine Holds.seq ?_
      refine Holds.block ?_
      refine Holds.dr mx [([17], [18, 20, 21, 22, 23, 24, 25, 26, 27, 28, 29, 30, 31, 32]), ([18], [17, 20, 21, 22, 23, 24, 25, 26, 27, 28, 29, 30, 31, 32]), ([19], [20, 21, 22, 23, 24, 25, 26, 27, 28, 29, 30, 31, 32]), ([20], [17, 18, 19, 21, 25, 26, 27, 28, 29, 30, 31]), ([21], [17, 18, 19, 20, 25, 26, 27, 28, 29, 30, 31]), ([22], [17, 18, 19, 25, 26, 27, 28, 29, 30, 31]), ([23], [17, 18, 19, 25, 26, 27, 28, 29, 30, 31]), ([24], [17, 18, 19, 25, 26, 27, 28, 29, 30, 31]), ([25], [17, 18, 19, 20, 21, 22, 23, 24, 28, 29, 30]), ([26], [17, 18, 19, 20, 21, 22, 23, 24, 28, 29, 30]), ([27], [17, 18, 19, 20, 21, 22, 23, 24, 28, 29, 30]), ([28], [17, 18, 19, 20, 21, 22, 23, 24, 25, 26, 27]), ([29], [17, 18, 19, 20, 21, 22, 23, 24, 25, 26, 27]), ([30], [17, 18, 19, 20, 21, 22, 23, 24, 25, 26, 27]), ([31], [17, 18, 19, 20, 21, 22, 23, 24]), ([32], [17, 18, 19]), ([33], []), ([5], [])] (by kernel_rfl) ?_
      refine CertK.vd (Y.move (up0 rfl rfl rfl) rfl rfl) rfl rfl ?_
      refine CertK.vd (Y.move (up0 rfl rfl rfl) rfl rfl) rfl rfl ?_
      refine CertK.vd (Y.addI (up0 rfl rfl rfl) rfl rfl rfl (by first | (with_reducible assumption) | omega | (simp only [lens, rtimes_it1_l, rtimes_it2_l, *]; first | done | omega) | decide | (split <;> simp only [lens, rtimes_it1_l, rtimes_it2_l, *]) | (with_reducible exact Lt.mono (by assumption) (by decide)))) rfl rfl ?_
      refine CertK.vd (Y.move (up0 rfl rfl rfl) rfl rfl) rfl rfl ?_
      refine CertK.vd (Y.move (up0 rfl rfl rfl) rfl rfl) rfl rfl ?_
      refine CertK.vd (Y.addI (up0 rfl rfl rfl) rfl rfl rfl (by first | (with_reducible assumption) | omega | (simp only [lens, rtimes_it1_l, rtimes_it2_l, *]; first | done | omega) | decide | (split <;> simp only [lens, rtimes_it1_l, rtimes_it2_l, *]) | (with_reducible exact Lt.mono (by assumption) (by decide)))) rfl rfl ?_
      refine CertK.vd (Y.ia0 ty78 ty3 (up0 rfl rfl rfl) rfl rfl rfl (by first | (with_reducible assumption) | omega | (simp only [lens, rtimes_it1_l, rtimes_it2_l, *]; first | done | omega) | decide | (split <;> simp only [lens, rtimes_it1_l, rtimes_it2_l, *]) | (with_reducible exact Lt.mono (by assumption) (by decide)))) rfl rfl ?_
      refine CertK.vd (Y.ldI ty3 rfl (up0 rfl rfl rfl) rfl rfl rfl (by first | (with_reducible assumption) | omega | (simp only [lens, rtimes_it1_l, rtimes_it2_l, *]; first | done | omega) | decide | (split <;> simp only [lens, rtimes_it1_l, rtimes_it2_l, *]) | (with_reducible exact Lt.mono (by assumption) (by decide)))) rfl rfl ?_
      refine CertK.vd (Y.move (up0 rfl rfl rfl) rfl rfl) rfl rfl ?_
      refine CertK.vd (Y.ia0 ty78 ty3 (up0 rfl rfl rfl) rfl rfl rfl (by first | (with_reducible assumption) | omega | (simp only [lens, rtimes_it1_l, rtimes_it2_l, *]; first | done | omega) | decide | (split <;> simp only [lens, rtimes_it1_l, rtimes_it2_l, *]) | (with_reducible exact Lt.mono (by assumption) (by decide)))) rfl rfl ?_
      refine CertK.vd (Y.ldI ty3 rfl (up0 rfl rfl rfl) rfl rfl rfl (by first | (with_reducible assumption) | omega | (simp only [lens, rtimes_it1_l, rtimes_it2_l, *]; first | done | omega) | decide | (split <;> simp only [lens, rtimes_it1_l, rtimes_it2_l, *]) | (with_reducible exact Lt.mono (by assumption) (by decide)))) rfl rfl ?_
      refine CertK.vd (Y.move (up0 rfl rfl rfl) rfl rfl) rfl rfl ?_
      refine CertK.vd (Y.ia0 ty78 ty3 (up0 rfl rfl rfl) rfl rfl rfl (by first | (with_reducible assumption) | omega | (simp only [lens, rtimes_it1_l, rtimes_it2_l, *]; first | done | omega) | decide | (split <;> simp only [lens, rtimes_it1_l, rtimes_it2_l, *]) | (with_reducible exact Lt.mono (by assumption) (by decide)))) rfl rfl ?_
      refine CertK.vd (Y.ldI ty3 rfl (up0 rfl rfl rfl) rfl rfl rfl (by first | (with_reducible assumption) | omega | (simp only [lens, rtimes_it1_l, rtimes_it2_l, *]; first | done | omega) | decide | (split <;> simp only [lens, rtimes_it1_l, rtimes_it2_l, *]) | (with_reducible exact Lt.mono (by assumption) (by decide)))) rfl rfl ?_
      refine CertK.vd (Y.mulI (up0 rfl rfl rfl) rfl rfl rfl (by first | (with_reducible assumption) | omega | (simp only [lens, rtimes_it1_l, rtimes_it2_l, *]; first | done | omega) | decide | (split <;> simp only [lens, rtimes_it1_l, rtimes_it2_l, *]) | (with_reducible exact Lt.mono (by assumption) (by decide)))) rfl rfl ?_
      refine CertK.vd (Y.addI (up0 rfl rfl rfl) rfl rfl rfl (by first | (with_reducible assumption) | omega | (simp only [lens, rtimes_it1_l, rtimes_it2_l, *]; first | done | omega) | decide | (split <;> simp only [lens, rtimes_it1_l, rtimes_it2_l, *]) | (with_reducible exact Lt.mono (by assumption) (by decide)))) rfl rfl ?_
      refine CertK.v (Y.ia0 ty78 ty3 (up0 rfl rfl rfl) rfl rfl rfl (by first | (with_reducible assumption) | omega | (simp only [lens, rtimes_it1_l, rtimes_it2_l, *]; first | done | omega) | decide | (split <;> simp only [lens, rtimes_it1_l, rtimes_it2_l, *]) | (with_reducible exact Lt.mono (by assumption) (by decide)))) rfl ?_
      refine CertK.n (Y.stI ty3 (upN rfl rfl) rfl rfl rfl rfl (by first | (with_reducible assumption) | omega | (simp only [lens, rtimes_it1_l, rtimes_it2_l, *]; first | done | omega) | decide | (split <;> simp only [lens, rtimes_it1_l, rtimes_it2_l, *]) | (with_reducible exact Lt.mono (by assumption) (by decide)))) rfl rfl rfl rfl ?_
      refine CertK.nil ?_
      refine Holds.reg ?_
      refine OpsFrom.v (Y.move (up0 rfl rfl rfl) rfl rfl) rfl ?_
      refine OpsFrom.v (Y.addI (b := 1) (up0 rfl rfl rfl) rfl rfl rfl (by first | (with_reducible assumption) | omega | (simp only [lens, rtimes_it1_l, rtimes_it2_l, *]; first | done | omega) | decide | (split <;> simp only [lens, rtimes_it1_l, rtimes_it2_l, *]) | (with_reducible exact Lt.mono (by assumption) (by decide)))) rfl ?_
      refine OpsFrom.v (Y.assign (up0 rfl rfl rfl) rfl rfl) rfl ?_
      refine OpsFrom.nil ?_
      exact Holds.again (i2_ + 1) (by omega) (by omega) [] ⟨⟨rfl, rfl, rfl, rfl, rfl, rfl, rfl, (nEq (by omega)), trivial⟩, ⟨rfl, rfl, rfl, (hEq (by rw [rtimes_it2_s]; unfold rtimes_s2; first | (dsimp only; done) | rfl)), trivial⟩, rfl, rfl⟩
    · obtain rfl : i2_ = 20 := by omega
      refine Holds.exit ?_
      refine Holds.reg ?_
      refine OpsFrom.v (Y.move (up0 rfl rfl rfl) rfl rfl) rfl ?_
      refine OpsFrom.v (Y.addI (b := 1) (up0 rfl rfl rfl) rfl rfl rfl (by first | (with_reducible assumption) | omega | (simp only [lens, rtimes_it1_l, rtimes_it2_l, *]; first | done | omega) | decide | (split <;> simp only [lens, rtimes_it1_l, rtimes_it2_l, *]) | (with_reducible exact Lt.mono (by assumption) (by decide)))) rfl ?_
      refine OpsFrom.v (Y.assign (up0 rfl rfl rfl) rfl rfl) rfl ?_
      refine OpsFrom.nil ?_
      exact Holds.again (i1_ + 1) (by omega) (by omega) [] ⟨⟨rfl, rfl, rfl, rfl, (nEq (by omega)), trivial⟩, ⟨rfl, rfl, rfl, (hEq (by rw [rtimes_it1_s]; unfold rtimes_s1; first | (dsimp only; done) | rfl)), trivial⟩, rfl, rfl⟩
  · obtain rfl : i1_ = 20 := by omega
    have hq := rtimes_b1 b_a b_b 20
    refine Holds.exit ?_
    refine Holds.seq ?_
    refine Holds.reg ?_
    refine OpsFrom.v (Y.ldAll ty78 rfl (up0 rfl rfl rfl) rfl rfl rfl (by first | (with_reducible assumption) | omega | (simp only [lens, rtimes_it1_l, *]; first | done | omega) | decide | (split <;> simp only [lens, rtimes_it1_l, *]) | (with_reducible exact Lt.mono (by assumption) (by decide))) (by decide)) rfl ?_
    refine OpsFrom.v (Y.callV (w_rmodulo _ (by first | (with_reducible assumption) | omega | (simp only [lens, rtimes_it1_l, rmodulo_len, *]; first | done | omega) | decide | (split <;> simp only [lens, rtimes_it1_l, rmodulo_len, *]) | (with_reducible exact Lt.mono (by assumption) (by decide))) (by first | (with_reducible assumption) | omega | (simp only [lens, rtimes_it1_l, rmodulo_len, *]; first | done | omega) | decide | (split <;> simp only [lens, rtimes_it1_l, rmodulo_len, *]) | (with_reducible exact Lt.mono (by assumption) (by decide)))) fnok59 (up0 rfl rfl rfl) rfl rfl (.cons _ _ _ _ rfl .nil) (.cons _ _ _ _ (.same _) .nil) rfl rfl) rfl ?_
    refine OpsFrom.n (Y.stR ty78 (upN rfl rfl) rfl rfl rfl rfl rfl (by first | (with_reducible assumption) | omega | (simp only [lens, rtimes_it1_l, rmodulo_len, *]; first | done | omega) | decide | (split <;> simp only [lens, rtimes_it1_l, rmodulo_len, *]) | (with_reducible exact Lt.mono (by assumption) (by decide))) (by first | (with_reducible assumption) | omega | (simp only [lens, rtimes_it1_l, rmodulo_len, *]; first | done | omega) | decide | (split <;> simp only [lens, rtimes_it1_l, rmodulo_len, *]) | (with_reducible exact Lt.mono (by assumption) (by decide))) (by decide)) rfl rfl ?_
    refine OpsFrom.nil ?_
    refine Holds.ret ?_
    exact Holds.ret1 (.inl rfl) rfl (.rowN rfl rfl ty78 rfl (by first | (with_reducible assumption) | omega | (simp only [lens, rtimes_it1_l, rmodulo_len, *]; first | done | omega) | decide | (split <;> simp only [lens, rtimes_it1_l, rmodulo_len, *]) | (with_reducible exact Lt.mono (by assumption) (by decide))) (by decide)) (.same _) rfl


end Go.Proofs.Ytkpelchcpiafaaa
