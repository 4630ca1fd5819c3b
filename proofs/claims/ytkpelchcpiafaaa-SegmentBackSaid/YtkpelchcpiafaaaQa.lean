/-
  Walks: Poly1305, the small ones.
-/
import Derived.Test.YtkpelchcpiafaaaFt
import Derived.Test.YtkpelchcpiafaaaFc
namespace Go.Proofs.Ytkpelchcpiafaaa
open Go Go.Fx
set_option linter.unusedVariables false
set_option linter.unusedSimpArgs false
def pword_s1 (b : List Nat) (i1_ : Nat) (m1_ : Nat) : Nat :=
  let v3_ : Nat := (b.getD i1_ 0) * 2 ^ (8 * i1_) % 18446744073709551616
  m1_ ||| v3_
def pword_it1 (b : List Nat) (i1_ : Nat) : Nat := iter (pword_s1 b) i1_ 0
theorem pword_it1_z (b : List Nat) : pword_it1 b 0 = 0 := rfl
theorem pword_it1_s (b : List Nat) (i1_ : Nat) : pword_it1 b (i1_ + 1) = pword_s1 b i1_ (pword_it1 b i1_) := by unfold pword_it1; exact iterS _ _ _
def pword (b : List Nat) : Nat :=
  (pword_it1 b 8)
theorem w_pword (b : List Nat) (l_b : 8 ≤ b.length) : VC Try.prog 53 [.one (.bs false .u8 b)] (.one (.n .u64 (pword b))) := by
  refine VC.go Try.func53 rfl Try.ntmps53 rfl rfl fun O w => ?_
  refine Holds.seq ?_
  refine Holds.reg ?_
  refine OpsFrom.v (Y.assign (v := (.one (.n .u64 0))) (up0 rfl rfl rfl) rfl rfl) rfl ?_
  refine OpsFrom.nil ?_
  refine Holds.seq ?_
  refine Holds.seq ?_
  refine Holds.reg ?_
  refine OpsFrom.v (Y.move (v := (.one (.n .i64 0))) (up0 rfl rfl rfl) rfl rfl) rfl ?_
  refine OpsFrom.nil ?_
  refine Holds.block ?_
  refine Holds.loop (fun (i1_ : Nat) => ⟨[(0, .one (.bs false .u8 b)), (2, .one (.n .u64 (pword_it1 b i1_))), (4, .one (.n .i64 i1_))], []⟩) (fun (i1_ : Nat) => i1_ ≤ 8) (fun (i1_ : Nat) => 8 - i1_) 0 (by first | (with_reducible assumption) | omega | (simp only [lens, *]; first | done | omega) | decide | (split <;> simp only [lens, *]) | (with_reducible exact Lt.mono (by assumption) (by decide))) [] ⟨⟨rfl, (nEq (congrArg (fun (s : Nat) => s) (pword_it1_z b)).symm), rfl, trivial⟩, trivial, rfl, rfl⟩ ?_
  intro i1_ k1_
  refine Holds.seq ?_
  refine Holds.reg ?_
  refine OpsFrom.v (Y.lss (b := 8) (up0 rfl rfl rfl) rfl rfl rfl) rfl ?_
  refine OpsFrom.nil ?_
  refine Holds.seq ?_
  refine Holds.condD rfl (fun h5 => ?_) (fun h5 => ?_)
  · refine Holds.skip ?_
    refine Holds.seq ?_
    refine Holds.block ?_
    refine Holds.seq ?_
    refine Holds.reg ?_
    refine OpsFrom.v (Y.move (up0 rfl rfl rfl) rfl rfl) rfl ?_
    refine OpsFrom.v (Y.assign (up0 rfl rfl rfl) rfl rfl) rfl ?_
    refine OpsFrom.nil ?_
    refine Holds.reg ?_
    refine OpsFrom.v (Y.move (up0 rfl rfl rfl) rfl rfl) rfl ?_
    refine OpsFrom.v (Y.move (up0 rfl rfl rfl) rfl rfl) rfl ?_
    refine OpsFrom.v (Y.move (up0 rfl rfl rfl) rfl rfl) rfl ?_
    refine OpsFrom.v (Y.iaBs ty26 ty5 (up0 rfl rfl rfl) rfl rfl rfl (by first | (with_reducible assumption) | omega | (simp only [lens, *]; first | done | omega) | decide | (split <;> simp only [lens, *]) | (with_reducible exact Lt.mono (by assumption) (by decide)))) rfl ?_
    refine OpsFrom.v (Y.ldPc ty5 rfl (up0 rfl rfl rfl) rfl rfl) rfl ?_
    refine OpsFrom.v (Y.convUp ty5.u ty42.u rfl rfl (by decide) (up0 rfl rfl rfl) rfl rfl) rfl ?_
    refine OpsFrom.v (Y.move (up0 rfl rfl rfl) rfl rfl) rfl ?_
    refine OpsFrom.v (Y.mulI (a := 8) (up0 rfl rfl rfl) rfl rfl rfl (by first | (with_reducible assumption) | omega | (simp only [lens, *]; first | done | omega) | decide | (split <;> simp only [lens, *]) | (with_reducible exact Lt.mono (by assumption) (by decide)))) rfl ?_
    refine OpsFrom.v (Y.shl u64s u64m (up0 rfl rfl rfl) rfl rfl rfl) rfl ?_
    refine OpsFrom.v (Y.or u64s u64m (up0 rfl rfl rfl) rfl rfl rfl) rfl ?_
    refine OpsFrom.v (Y.assign (up0 rfl rfl rfl) rfl rfl) rfl ?_
    refine OpsFrom.nil ?_
    refine Holds.reg ?_
    refine OpsFrom.v (Y.addI (b := 1) (up0 rfl rfl rfl) rfl rfl rfl (by first | (with_reducible assumption) | omega | (simp only [lens, *]; first | done | omega) | decide | (split <;> simp only [lens, *]) | (with_reducible exact Lt.mono (by assumption) (by decide)))) rfl ?_
    refine OpsFrom.v (Y.move (up0 rfl rfl rfl) rfl rfl) rfl ?_
    refine OpsFrom.nil ?_
    exact Holds.again (i1_ + 1) (by omega) (by omega) [] ⟨⟨rfl, (nEq (by rw [pword_it1_s]; unfold pword_s1; first | (dsimp only; done) | rfl)), (nEq (by omega)), trivial⟩, trivial, rfl, rfl⟩
  · obtain rfl : i1_ = 8 := by omega
    refine Holds.exit ?_
    refine Holds.seq ?_
    refine Holds.reg ?_
    refine OpsFrom.v (Y.move (up0 rfl rfl rfl) rfl rfl) rfl ?_
    refine OpsFrom.v (Y.assign (up0 rfl rfl rfl) rfl rfl) rfl ?_
    refine OpsFrom.nil ?_
    refine Holds.ret ?_
    exact Holds.ret1 (.inl rfl) rfl (.tmp _ _ rfl) (.same _) rfl

def padd_s1 (a : List Nat) (b : List Nat) (i1_ : Nat) (m1_ : Nat × (List Nat)) : Nat × (List Nat) :=
  let v5_ : Nat := ((a.getD i1_ 0) + (b.getD i1_ 0) + m1_.1) % 18446744073709551616
  let v6_ : Nat := ((a.getD i1_ 0) + (b.getD i1_ 0) + m1_.1) / 18446744073709551616
  (v6_, m1_.2.set i1_ v5_)
def padd_it1 (a : List Nat) (b : List Nat) (i1_ : Nat) : Nat × (List Nat) := iter (padd_s1 a b) i1_ (0, List.replicate 3 0)
theorem padd_it1_z (a : List Nat) (b : List Nat) : padd_it1 a b 0 = (0, List.replicate 3 0) := rfl
theorem padd_it1_s (a : List Nat) (b : List Nat) (i1_ : Nat) : padd_it1 a b (i1_ + 1) = padd_s1 a b i1_ (padd_it1 a b i1_) := by unfold padd_it1; exact iterS _ _ _
theorem padd_it1_l1 (a : List Nat) (b : List Nat) (i1_ : Nat) : ((padd_it1 a b i1_).2).length = (List.replicate 3 0 : List Nat).length := iter_inv (fun (s : Nat × (List Nat)) => (s.2).length = (List.replicate 3 0 : List Nat).length) (by simp) (fun i s h => by
  unfold padd_s1
  first | (simp [h]; done) | (dsimp only; (repeat' split) <;> simp [h])) i1_
theorem padd_c (a b : List Nat) (i : Nat) (ba : Lt 18446744073709551616 a) (bb : Lt 18446744073709551616 b) : (padd_it1 a b i).1 ≤ 1 :=
  iter_inv (fun (s : Nat × List Nat) => s.1 ≤ 1) (by decide) (fun i s h => by
    have := ba i
    have := bb i
    simp only [padd_s1]; omega) i
def padd (a : List Nat) (b : List Nat) : List Nat :=
  (padd_it1 a b 3).2
theorem padd_len (a : List Nat) (b : List Nat)  : ((padd a b)).length = 3 := by
  unfold padd
  first | (simp [padd_it1_l1]; done) | (simp [*, padd_it1_l1]; done) | (dsimp only; (repeat' split) <;> simp [*, padd_it1_l1])
theorem w_padd (a : List Nat) (b : List Nat) (l_a : a.length = 3) (l_b : b.length = 3) : VC Try.prog 56 [.row (.ints .u64 a), .row (.ints .u64 b)] (.row (.ints .u64 (padd a b))) := by
  refine VC.go Try.func56 rfl Try.ntmps56 rfl rfl fun O w => ?_
  refine Holds.ltRow 0 rfl u64s u64m (fun ba => ?_)
  refine Holds.ltRow 1 rfl u64s u64m (fun bb => ?_)
  refine Holds.seq ?_
  refine Holds.reg ?_
  refine OpsFrom.u (Y.boxR (d := 2) (up0 rfl rfl rfl) rfl rfl rfl) rfl rfl rfl ?_
  refine OpsFrom.u (Y.boxR (d := 3) (up0 rfl rfl rfl) rfl rfl rfl) rfl rfl rfl ?_
  refine OpsFrom.u (Y.alloc (d := 4) ty71 rfl rfl (up0 rfl rfl rfl) rfl) rfl rfl rfl ?_
  refine OpsFrom.nil ?_
  refine Holds.seq ?_
  refine Holds.reg ?_
  refine OpsFrom.v (Y.assign (v := (.one (.n .u64 0))) (up0 rfl rfl rfl) rfl rfl) rfl ?_
  refine OpsFrom.nil ?_
  refine Holds.seq ?_
  refine Holds.seq ?_
  refine Holds.reg ?_
  refine OpsFrom.v (Y.move (v := (.one (.n .i64 0))) (up0 rfl rfl rfl) rfl rfl) rfl ?_
  refine OpsFrom.nil ?_
  refine Holds.block ?_
  refine Holds.loop (fun (i1_ : Nat) => ⟨[(2, .one (.p 2 0)), (3, .one (.p 3 0)), (4, .one (.p 4 0)), (5, .one (.n .u64 ((padd_it1 a b i1_).1))), (7, .one (.n .i64 i1_))], [(2, .own (.ints .u64 a)), (3, .own (.ints .u64 b)), (4, .own (.ints .u64 ((padd_it1 a b i1_).2)))]⟩) (fun (i1_ : Nat) => i1_ ≤ 3) (fun (i1_ : Nat) => 3 - i1_) 0 (by first | (with_reducible assumption) | omega | (simp only [lens, padd_it1_l1, *]; first | done | omega) | decide | (split <;> simp only [lens, padd_it1_l1, *]) | (with_reducible exact Lt.mono (by assumption) (by decide))) [] ⟨⟨rfl, rfl, rfl, (nEq (congrArg (fun (s : Nat × (List Nat)) => s.1) (padd_it1_z a b)).symm), rfl, trivial⟩, ⟨rfl, rfl, (hEq (congrArg (fun (s : Nat × (List Nat)) => s.2) (padd_it1_z a b)).symm), trivial⟩, rfl, rfl⟩ ?_
  intro i1_ k1_
  have hc := padd_c a b i1_ ba bb
  refine Holds.seq ?_
  refine Holds.reg ?_
  refine OpsFrom.v (Y.lss (b := 3) (up0 rfl rfl rfl) rfl rfl rfl) rfl ?_
  refine OpsFrom.nil ?_
  refine Holds.seq ?_
  refine Holds.condD rfl (fun h8 => ?_) (fun h8 => ?_)
  · refine Holds.skip ?_
    refine Holds.seq ?_
    refine Holds.block ?_
    refine Holds.seq ?_
    refine Holds.reg ?_
    refine OpsFrom.v (Y.move (up0 rfl rfl rfl) rfl rfl) rfl ?_
    refine OpsFrom.v (Y.assign (up0 rfl rfl rfl) rfl rfl) rfl ?_
    refine OpsFrom.nil ?_
    refine Holds.dr mx [([11], [12, 13, 14, 15, 16, 17, 18, 19, 10, 20, 21]), ([12], [11, 15, 16, 17, 18]), ([13], [11, 15, 16, 17, 18]), ([14], [11, 15, 16, 17, 18]), ([15], [11, 12, 13, 14, 18]), ([16], [11, 12, 13, 14, 18]), ([17], [11, 12, 13, 14, 18]), ([18], [11, 12, 13, 14, 15, 16, 17]), ([19], [11]), ([10], [11]), ([20], [11, 21]), ([21], [11, 20, 22, 4]), ([22], [21]), ([4], [21]), ([5], [])] (by kernel_rfl) ?_
    refine CertK.vd (Y.move (up0 rfl rfl rfl) rfl rfl) rfl rfl ?_
    refine CertK.vd (Y.move (up0 rfl rfl rfl) rfl rfl) rfl rfl ?_
    refine CertK.vd (Y.ia0 ty71 ty42 (up0 rfl rfl rfl) rfl rfl rfl (by first | (with_reducible assumption) | omega | (simp only [lens, padd_it1_l1, *]; first | done | omega) | decide | (split <;> simp only [lens, padd_it1_l1, *]) | (with_reducible exact Lt.mono (by assumption) (by decide)))) rfl rfl ?_
    refine CertK.vd (Y.ldI ty42 rfl (up0 rfl rfl rfl) rfl rfl rfl (by first | (with_reducible assumption) | omega | (simp only [lens, padd_it1_l1, *]; first | done | omega) | decide | (split <;> simp only [lens, padd_it1_l1, *]) | (with_reducible exact Lt.mono (by assumption) (by decide)))) rfl rfl ?_
    refine CertK.vd (Y.move (up0 rfl rfl rfl) rfl rfl) rfl rfl ?_
    refine CertK.vd (Y.ia0 ty71 ty42 (up0 rfl rfl rfl) rfl rfl rfl (by first | (with_reducible assumption) | omega | (simp only [lens, padd_it1_l1, *]; first | done | omega) | decide | (split <;> simp only [lens, padd_it1_l1, *]) | (with_reducible exact Lt.mono (by assumption) (by decide)))) rfl rfl ?_
    refine CertK.vd (Y.ldI ty42 rfl (up0 rfl rfl rfl) rfl rfl rfl (by first | (with_reducible assumption) | omega | (simp only [lens, padd_it1_l1, *]; first | done | omega) | decide | (split <;> simp only [lens, padd_it1_l1, *]) | (with_reducible exact Lt.mono (by assumption) (by decide)))) rfl rfl ?_
    refine CertK.vd (Y.move (up0 rfl rfl rfl) rfl rfl) rfl rfl ?_
    refine CertK.vd (Y.add64 ext67 (up0 rfl rfl rfl) rfl rfl rfl rfl rfl (by first | (with_reducible assumption) | omega | (simp only [lens, padd_it1_l1, *]; first | done | omega) | decide | (split <;> simp only [lens, padd_it1_l1, *]) | (with_reducible exact Lt.mono (by assumption) (by decide)))) rfl rfl ?_
    refine CertK.vd (Y.move (up0 rfl rfl rfl) rfl rfl) rfl rfl ?_
    refine CertK.vd (Y.ext0 (up0 rfl rfl rfl) rfl rfl) rfl rfl ?_
    refine CertK.vd (Y.ext1 (up0 rfl rfl rfl) rfl rfl) rfl rfl ?_
    refine CertK.vd (Y.ia0 ty71 ty42 (up0 rfl rfl rfl) rfl rfl rfl (by first | (with_reducible assumption) | omega | (simp only [lens, padd_it1_l1, *]; first | done | omega) | decide | (split <;> simp only [lens, padd_it1_l1, *]) | (with_reducible exact Lt.mono (by assumption) (by decide)))) rfl rfl ?_
    refine CertK.n (Y.stI ty42 (upN rfl rfl) rfl rfl rfl rfl (by first | (with_reducible assumption) | omega | (simp only [lens, padd_it1_l1, *]; first | done | omega) | decide | (split <;> simp only [lens, padd_it1_l1, *]) | (with_reducible exact Lt.mono (by assumption) (by decide)))) rfl rfl rfl rfl ?_
    refine CertK.v (Y.assign (up0 rfl rfl rfl) rfl rfl) rfl ?_
    refine CertK.nil ?_
    refine Holds.reg ?_
    refine OpsFrom.v (Y.addI (b := 1) (up0 rfl rfl rfl) rfl rfl rfl (by first | (with_reducible assumption) | omega | (simp only [lens, padd_it1_l1, *]; first | done | omega) | decide | (split <;> simp only [lens, padd_it1_l1, *]) | (with_reducible exact Lt.mono (by assumption) (by decide)))) rfl ?_
    refine OpsFrom.v (Y.move (up0 rfl rfl rfl) rfl rfl) rfl ?_
    refine OpsFrom.nil ?_
    exact Holds.again (i1_ + 1) (by omega) (by omega) [] ⟨⟨rfl, rfl, rfl, (nEq (by rw [padd_it1_s]; unfold padd_s1; first | (dsimp only; done) | rfl)), (nEq (by omega)), trivial⟩, ⟨rfl, rfl, (hEq (by rw [padd_it1_s]; unfold padd_s1; first | (dsimp only; done) | rfl)), trivial⟩, rfl, rfl⟩
  · obtain rfl : i1_ = 3 := by omega
    refine Holds.exit ?_
    refine Holds.seq ?_
    refine Holds.reg ?_
    refine OpsFrom.v (Y.ldAll ty71 rfl (up0 rfl rfl rfl) rfl rfl rfl (by first | (with_reducible assumption) | omega | (simp only [lens, padd_it1_l1, *]; first | done | omega) | decide | (split <;> simp only [lens, padd_it1_l1, *]) | (with_reducible exact Lt.mono (by assumption) (by decide))) (by decide)) rfl ?_
    refine OpsFrom.n (Y.stR ty71 (upN rfl rfl) rfl rfl rfl rfl rfl (by first | (with_reducible assumption) | omega | (simp only [lens, padd_it1_l1, *]; first | done | omega) | decide | (split <;> simp only [lens, padd_it1_l1, *]) | (with_reducible exact Lt.mono (by assumption) (by decide))) (by first | (with_reducible assumption) | omega | (simp only [lens, padd_it1_l1, *]; first | done | omega) | decide | (split <;> simp only [lens, padd_it1_l1, *]) | (with_reducible exact Lt.mono (by assumption) (by decide))) (by decide)) rfl rfl ?_
    refine OpsFrom.nil ?_
    refine Holds.ret ?_
    exact Holds.ret1 (.inl rfl) rfl (.rowN rfl rfl ty71 rfl (by first | (with_reducible assumption) | omega | (simp only [lens, padd_it1_l1, *]; first | done | omega) | decide | (split <;> simp only [lens, padd_it1_l1, *]) | (with_reducible exact Lt.mono (by assumption) (by decide))) (by decide)) (.same _) rfl

def pfolded (w : List Nat) : List Nat :=
  let v1_ : List Nat := (((List.replicate 3 0).set 0 (w.getD 0 0)).set 1 (w.getD 1 0)).set 2 ((w.getD 2 0) &&& 3)
  let v2_ : Nat := (w.getD 2 0) &&& (18446744073709551616 - 1 - 3)
  let v3_ : List Nat := (((List.replicate 3 0).set 0 v2_).set 1 (w.getD 3 0)).set 2 (w.getD 4 0)
  let v4_ : Nat := (w.getD 3 0) * 2 ^ 62 % 18446744073709551616
  let v5_ : Nat := (w.getD 4 0) * 2 ^ 62 % 18446744073709551616
  let v6_ : List Nat := (((List.replicate 3 0).set 0 (((w.getD 2 0) / 2 ^ 2) ||| v4_)).set 1 (((w.getD 3 0) / 2 ^ 2) ||| v5_)).set 2 ((w.getD 4 0) / 2 ^ 2)
  (padd (padd v1_ v3_) v6_)
theorem pfolded_len (w : List Nat)  : ((pfolded w)).length = 3 := by
  unfold pfolded
  first | (simp [padd_len]; done) | (simp [*, padd_len]; done) | (dsimp only; (repeat' split) <;> simp [*, padd_len])
theorem w_pfolded (w : List Nat) (l_w : w.length = 5) : VC Try.prog 57 [.row (.ints .u64 w)] (.row (.ints .u64 (pfolded w))) := by
  refine VC.go Try.func57 rfl Try.ntmps57 rfl rfl fun O w => ?_
  refine Holds.seq ?_
  refine Holds.reg ?_
  refine OpsFrom.u (Y.boxR (d := 1) (up0 rfl rfl rfl) rfl rfl rfl) rfl rfl rfl ?_
  refine OpsFrom.u (Y.alloc (d := 2) ty71 rfl rfl (up0 rfl rfl rfl) rfl) rfl rfl rfl ?_
  refine OpsFrom.nil ?_
  refine Holds.seq ?_
  refine Holds.reg ?_
  refine OpsFrom.v (Y.ia0 (i := 0) ty76 ty42 (up0 rfl rfl rfl) rfl rfl rfl (by first | (with_reducible assumption) | omega | (simp only [lens, *]; first | done | omega) | decide | (split <;> simp only [lens, *]) | (with_reducible exact Lt.mono (by assumption) (by decide)))) rfl ?_
  refine OpsFrom.v (Y.ldI ty42 rfl (up0 rfl rfl rfl) rfl rfl rfl (by first | (with_reducible assumption) | omega | (simp only [lens, *]; first | done | omega) | decide | (split <;> simp only [lens, *]) | (with_reducible exact Lt.mono (by assumption) (by decide)))) rfl ?_
  refine OpsFrom.v (Y.ia0 (i := 1) ty76 ty42 (up0 rfl rfl rfl) rfl rfl rfl (by first | (with_reducible assumption) | omega | (simp only [lens, *]; first | done | omega) | decide | (split <;> simp only [lens, *]) | (with_reducible exact Lt.mono (by assumption) (by decide)))) rfl ?_
  refine OpsFrom.v (Y.ldI ty42 rfl (up0 rfl rfl rfl) rfl rfl rfl (by first | (with_reducible assumption) | omega | (simp only [lens, *]; first | done | omega) | decide | (split <;> simp only [lens, *]) | (with_reducible exact Lt.mono (by assumption) (by decide)))) rfl ?_
  refine OpsFrom.v (Y.ia0 (i := 2) ty76 ty42 (up0 rfl rfl rfl) rfl rfl rfl (by first | (with_reducible assumption) | omega | (simp only [lens, *]; first | done | omega) | decide | (split <;> simp only [lens, *]) | (with_reducible exact Lt.mono (by assumption) (by decide)))) rfl ?_
  refine OpsFrom.v (Y.ldI ty42 rfl (up0 rfl rfl rfl) rfl rfl rfl (by first | (with_reducible assumption) | omega | (simp only [lens, *]; first | done | omega) | decide | (split <;> simp only [lens, *]) | (with_reducible exact Lt.mono (by assumption) (by decide)))) rfl ?_
  refine OpsFrom.v (Y.and (b := 3) u64s u64m (up0 rfl rfl rfl) rfl rfl rfl) rfl ?_
  refine OpsFrom.v (Y.buildA ty71 ty42 rfl (up0 rfl rfl rfl) rfl (.cons _ _ _ _ _ _ _ _ _ rfl rfl rfl rfl (Spl.n (by first | decide | (simp; done))) (.cons _ _ _ _ _ _ _ _ _ rfl rfl rfl rfl (Spl.n (by first | decide | (simp; done))) (.cons _ _ _ _ _ _ _ _ _ rfl rfl rfl rfl (Spl.n (by first | decide | (simp; done))) (.nil _))))) rfl ?_
  refine OpsFrom.u (Y.alloc (d := 3) ty71 rfl rfl (up0 rfl rfl rfl) rfl) rfl rfl rfl ?_
  refine OpsFrom.n (Y.stR ty71 (upN rfl rfl) rfl rfl rfl rfl rfl (by first | (with_reducible assumption) | omega | (simp only [lens, *]; first | done | omega) | decide | (split <;> simp only [lens, *]) | (with_reducible exact Lt.mono (by assumption) (by decide))) (by first | (with_reducible assumption) | omega | (simp only [lens, *]; first | done | omega) | decide | (split <;> simp only [lens, *]) | (with_reducible exact Lt.mono (by assumption) (by decide))) (by decide)) rfl rfl ?_
  refine OpsFrom.nil ?_
  refine Holds.seq ?_
  refine Holds.reg ?_
  refine OpsFrom.v (Y.ia0 (i := 2) ty76 ty42 (up0 rfl rfl rfl) rfl rfl rfl (by first | (with_reducible assumption) | omega | (simp only [lens, *]; first | done | omega) | decide | (split <;> simp only [lens, *]) | (with_reducible exact Lt.mono (by assumption) (by decide)))) rfl ?_
  refine OpsFrom.v (Y.ldI ty42 rfl (up0 rfl rfl rfl) rfl rfl rfl (by first | (with_reducible assumption) | omega | (simp only [lens, *]; first | done | omega) | decide | (split <;> simp only [lens, *]) | (with_reducible exact Lt.mono (by assumption) (by decide)))) rfl ?_
  refine OpsFrom.v (Y.andNot (b := 3) u64s u64m (up0 rfl rfl rfl) rfl rfl rfl) rfl ?_
  refine OpsFrom.v (Y.ia0 (i := 3) ty76 ty42 (up0 rfl rfl rfl) rfl rfl rfl (by first | (with_reducible assumption) | omega | (simp only [lens, *]; first | done | omega) | decide | (split <;> simp only [lens, *]) | (with_reducible exact Lt.mono (by assumption) (by decide)))) rfl ?_
  refine OpsFrom.v (Y.ldI ty42 rfl (up0 rfl rfl rfl) rfl rfl rfl (by first | (with_reducible assumption) | omega | (simp only [lens, *]; first | done | omega) | decide | (split <;> simp only [lens, *]) | (with_reducible exact Lt.mono (by assumption) (by decide)))) rfl ?_
  refine OpsFrom.v (Y.ia0 (i := 4) ty76 ty42 (up0 rfl rfl rfl) rfl rfl rfl (by first | (with_reducible assumption) | omega | (simp only [lens, *]; first | done | omega) | decide | (split <;> simp only [lens, *]) | (with_reducible exact Lt.mono (by assumption) (by decide)))) rfl ?_
  refine OpsFrom.v (Y.ldI ty42 rfl (up0 rfl rfl rfl) rfl rfl rfl (by first | (with_reducible assumption) | omega | (simp only [lens, *]; first | done | omega) | decide | (split <;> simp only [lens, *]) | (with_reducible exact Lt.mono (by assumption) (by decide)))) rfl ?_
  refine OpsFrom.v (Y.buildA ty71 ty42 rfl (up0 rfl rfl rfl) rfl (.cons _ _ _ _ _ _ _ _ _ rfl rfl rfl rfl (Spl.n (by first | decide | (simp; done))) (.cons _ _ _ _ _ _ _ _ _ rfl rfl rfl rfl (Spl.n (by first | decide | (simp; done))) (.cons _ _ _ _ _ _ _ _ _ rfl rfl rfl rfl (Spl.n (by first | decide | (simp; done))) (.nil _))))) rfl ?_
  refine OpsFrom.u (Y.alloc (d := 4) ty71 rfl rfl (up0 rfl rfl rfl) rfl) rfl rfl rfl ?_
  refine OpsFrom.n (Y.stR ty71 (upN rfl rfl) rfl rfl rfl rfl rfl (by first | (with_reducible assumption) | omega | (simp only [lens, *]; first | done | omega) | decide | (split <;> simp only [lens, *]) | (with_reducible exact Lt.mono (by assumption) (by decide))) (by first | (with_reducible assumption) | omega | (simp only [lens, *]; first | done | omega) | decide | (split <;> simp only [lens, *]) | (with_reducible exact Lt.mono (by assumption) (by decide))) (by decide)) rfl rfl ?_
  refine OpsFrom.nil ?_
  refine Holds.seq ?_
  refine Holds.reg ?_
  refine OpsFrom.v (Y.ia0 (i := 2) ty76 ty42 (up0 rfl rfl rfl) rfl rfl rfl (by first | (with_reducible assumption) | omega | (simp only [lens, *]; first | done | omega) | decide | (split <;> simp only [lens, *]) | (with_reducible exact Lt.mono (by assumption) (by decide)))) rfl ?_
  refine OpsFrom.v (Y.ldI ty42 rfl (up0 rfl rfl rfl) rfl rfl rfl (by first | (with_reducible assumption) | omega | (simp only [lens, *]; first | done | omega) | decide | (split <;> simp only [lens, *]) | (with_reducible exact Lt.mono (by assumption) (by decide)))) rfl ?_
  refine OpsFrom.v (Y.shr (b := 2) u64s u64m (up0 rfl rfl rfl) rfl rfl rfl) rfl ?_
  refine OpsFrom.v (Y.ia0 (i := 3) ty76 ty42 (up0 rfl rfl rfl) rfl rfl rfl (by first | (with_reducible assumption) | omega | (simp only [lens, *]; first | done | omega) | decide | (split <;> simp only [lens, *]) | (with_reducible exact Lt.mono (by assumption) (by decide)))) rfl ?_
  refine OpsFrom.v (Y.ldI ty42 rfl (up0 rfl rfl rfl) rfl rfl rfl (by first | (with_reducible assumption) | omega | (simp only [lens, *]; first | done | omega) | decide | (split <;> simp only [lens, *]) | (with_reducible exact Lt.mono (by assumption) (by decide)))) rfl ?_
  refine OpsFrom.v (Y.shl (b := 62) u64s u64m (up0 rfl rfl rfl) rfl rfl rfl) rfl ?_
  refine OpsFrom.v (Y.or u64s u64m (up0 rfl rfl rfl) rfl rfl rfl) rfl ?_
  refine OpsFrom.v (Y.ia0 (i := 3) ty76 ty42 (up0 rfl rfl rfl) rfl rfl rfl (by first | (with_reducible assumption) | omega | (simp only [lens, *]; first | done | omega) | decide | (split <;> simp only [lens, *]) | (with_reducible exact Lt.mono (by assumption) (by decide)))) rfl ?_
  refine OpsFrom.v (Y.ldI ty42 rfl (up0 rfl rfl rfl) rfl rfl rfl (by first | (with_reducible assumption) | omega | (simp only [lens, *]; first | done | omega) | decide | (split <;> simp only [lens, *]) | (with_reducible exact Lt.mono (by assumption) (by decide)))) rfl ?_
  refine OpsFrom.v (Y.shr (b := 2) u64s u64m (up0 rfl rfl rfl) rfl rfl rfl) rfl ?_
  refine OpsFrom.v (Y.ia0 (i := 4) ty76 ty42 (up0 rfl rfl rfl) rfl rfl rfl (by first | (with_reducible assumption) | omega | (simp only [lens, *]; first | done | omega) | decide | (split <;> simp only [lens, *]) | (with_reducible exact Lt.mono (by assumption) (by decide)))) rfl ?_
  refine OpsFrom.v (Y.ldI ty42 rfl (up0 rfl rfl rfl) rfl rfl rfl (by first | (with_reducible assumption) | omega | (simp only [lens, *]; first | done | omega) | decide | (split <;> simp only [lens, *]) | (with_reducible exact Lt.mono (by assumption) (by decide)))) rfl ?_
  refine OpsFrom.v (Y.shl (b := 62) u64s u64m (up0 rfl rfl rfl) rfl rfl rfl) rfl ?_
  refine OpsFrom.v (Y.or u64s u64m (up0 rfl rfl rfl) rfl rfl rfl) rfl ?_
  refine OpsFrom.v (Y.ia0 (i := 4) ty76 ty42 (up0 rfl rfl rfl) rfl rfl rfl (by first | (with_reducible assumption) | omega | (simp only [lens, *]; first | done | omega) | decide | (split <;> simp only [lens, *]) | (with_reducible exact Lt.mono (by assumption) (by decide)))) rfl ?_
  refine OpsFrom.v (Y.ldI ty42 rfl (up0 rfl rfl rfl) rfl rfl rfl (by first | (with_reducible assumption) | omega | (simp only [lens, *]; first | done | omega) | decide | (split <;> simp only [lens, *]) | (with_reducible exact Lt.mono (by assumption) (by decide)))) rfl ?_
  refine OpsFrom.v (Y.shr (b := 2) u64s u64m (up0 rfl rfl rfl) rfl rfl rfl) rfl ?_
  refine OpsFrom.v (Y.buildA ty71 ty42 rfl (up0 rfl rfl rfl) rfl (.cons _ _ _ _ _ _ _ _ _ rfl rfl rfl rfl (Spl.n (by first | decide | (simp; done))) (.cons _ _ _ _ _ _ _ _ _ rfl rfl rfl rfl (Spl.n (by first | decide | (simp; done))) (.cons _ _ _ _ _ _ _ _ _ rfl rfl rfl rfl (Spl.n (by first | decide | (simp; done))) (.nil _))))) rfl ?_
  refine OpsFrom.u (Y.alloc (d := 5) ty71 rfl rfl (up0 rfl rfl rfl) rfl) rfl rfl rfl ?_
  refine OpsFrom.n (Y.stR ty71 (upN rfl rfl) rfl rfl rfl rfl rfl (by first | (with_reducible assumption) | omega | (simp only [lens, *]; first | done | omega) | decide | (split <;> simp only [lens, *]) | (with_reducible exact Lt.mono (by assumption) (by decide))) (by first | (with_reducible assumption) | omega | (simp only [lens, *]; first | done | omega) | decide | (split <;> simp only [lens, *]) | (with_reducible exact Lt.mono (by assumption) (by decide))) (by decide)) rfl rfl ?_
  refine OpsFrom.nil ?_
  refine Holds.seq ?_
  refine Holds.dr mx [([40], [41, 43]), ([41], [40, 43]), ([42], [43]), ([43], [40, 41, 42]), ([44], []), ([2], [])] (by kernel_rfl) ?_
  refine CertK.vd (Y.ldAll ty71 rfl (up0 rfl rfl rfl) rfl rfl rfl (by first | (with_reducible assumption) | omega | (simp only [lens, padd_len, *]; first | done | omega) | decide | (split <;> simp only [lens, padd_len, *]) | (with_reducible exact Lt.mono (by assumption) (by decide))) (by decide)) rfl rfl ?_
  refine CertK.vd (Y.ldAll ty71 rfl (up0 rfl rfl rfl) rfl rfl rfl (by first | (with_reducible assumption) | omega | (simp only [lens, padd_len, *]; first | done | omega) | decide | (split <;> simp only [lens, padd_len, *]) | (with_reducible exact Lt.mono (by assumption) (by decide))) (by decide)) rfl rfl ?_
  refine CertK.vd (Y.callV (w_padd _ _ (by first | (with_reducible assumption) | omega | (simp only [lens, padd_len, *]; first | done | omega) | decide | (split <;> simp only [lens, padd_len, *]) | (with_reducible exact Lt.mono (by assumption) (by decide))) (by first | (with_reducible assumption) | omega | (simp only [lens, padd_len, *]; first | done | omega) | decide | (split <;> simp only [lens, padd_len, *]) | (with_reducible exact Lt.mono (by assumption) (by decide)))) fnok56 (up0 rfl rfl rfl) rfl rfl (.cons _ _ _ _ rfl (.cons _ _ _ _ rfl .nil)) (.cons _ _ _ _ (.same _) (.cons _ _ _ _ (.same _) .nil)) rfl rfl) rfl rfl ?_
  refine CertK.vd (Y.ldAll ty71 rfl (up0 rfl rfl rfl) rfl rfl rfl (by first | (with_reducible assumption) | omega | (simp only [lens, padd_len, *]; first | done | omega) | decide | (split <;> simp only [lens, padd_len, *]) | (with_reducible exact Lt.mono (by assumption) (by decide))) (by decide)) rfl rfl ?_
  refine CertK.v (Y.callV (w_padd _ _ (by first | (with_reducible assumption) | omega | (simp only [lens, padd_len, *]; first | done | omega) | decide | (split <;> simp only [lens, padd_len, *]) | (with_reducible exact Lt.mono (by assumption) (by decide))) (by first | (with_reducible assumption) | omega | (simp only [lens, padd_len, *]; first | done | omega) | decide | (split <;> simp only [lens, padd_len, *]) | (with_reducible exact Lt.mono (by assumption) (by decide)))) fnok56 (up0 rfl rfl rfl) rfl rfl (.cons _ _ _ _ rfl (.cons _ _ _ _ rfl .nil)) (.cons _ _ _ _ (.same _) (.cons _ _ _ _ (.same _) .nil)) rfl rfl) rfl ?_
  refine CertK.n (Y.stR ty71 (upN rfl rfl) rfl rfl rfl rfl rfl (by first | (with_reducible assumption) | omega | (simp only [lens, padd_len, *]; first | done | omega) | decide | (split <;> simp only [lens, padd_len, *]) | (with_reducible exact Lt.mono (by assumption) (by decide))) (by first | (with_reducible assumption) | omega | (simp only [lens, padd_len, *]; first | done | omega) | decide | (split <;> simp only [lens, padd_len, *]) | (with_reducible exact Lt.mono (by assumption) (by decide))) (by decide)) rfl rfl rfl rfl ?_
  refine CertK.nil ?_
  refine Holds.ret ?_
  exact Holds.ret1 (.inl rfl) rfl (.rowN rfl rfl ty71 rfl (by first | (with_reducible assumption) | omega | (simp only [lens, padd_len, *]; first | done | omega) | decide | (split <;> simp only [lens, padd_len, *]) | (with_reducible exact Lt.mono (by assumption) (by decide))) (by decide)) (.same _) rfl

def mul64 (x : Nat) (y : Nat) : Nat × Nat :=
  let v1_ : Nat := (x &&& 4294967295) * (y &&& 4294967295) % 18446744073709551616
  let v2_ : Nat := (x / 2 ^ 32) * (y &&& 4294967295) % 18446744073709551616
  let v3_ : Nat := (v2_ + (v1_ / 2 ^ 32)) % 18446744073709551616
  let v4_ : Nat := (x &&& 4294967295) * (y / 2 ^ 32) % 18446744073709551616
  let v5_ : Nat := ((v3_ &&& 4294967295) + v4_) % 18446744073709551616
  let v6_ : Nat := (x / 2 ^ 32) * (y / 2 ^ 32) % 18446744073709551616
  let v7_ : Nat := (v6_ + (v3_ / 2 ^ 32)) % 18446744073709551616
  let v8_ : Nat := (v7_ + (v5_ / 2 ^ 32)) % 18446744073709551616
  (v8_, x * y % 18446744073709551616)
theorem w_mul64 (x : Nat) (y : Nat)  : VC Try.prog 66 [.one (.n .u64 x), .one (.n .u64 y)] (.two (.one (.n .u64 ((mul64 x y).1))) (.one (.n .u64 ((mul64 x y).2)))) := by
  refine VC.go Try.func66 rfl Try.ntmps66 rfl rfl fun O w => ?_
  refine Holds.seq ?_
  refine Holds.reg ?_
  refine OpsFrom.v (Y.assign (v := (.one (.n .u64 0))) (up0 rfl rfl rfl) rfl rfl) rfl ?_
  refine OpsFrom.v (Y.assign (v := (.one (.n .u64 0))) (up0 rfl rfl rfl) rfl rfl) rfl ?_
  refine OpsFrom.nil ?_
  refine Holds.seq ?_
  refine Holds.reg ?_
  refine OpsFrom.v (Y.move (up0 rfl rfl rfl) rfl rfl) rfl ?_
  refine OpsFrom.v (Y.and (b := 4294967295) u64s u64m (up0 rfl rfl rfl) rfl rfl rfl) rfl ?_
  refine OpsFrom.v (Y.assign (up0 rfl rfl rfl) rfl rfl) rfl ?_
  refine OpsFrom.nil ?_
  refine Holds.seq ?_
  refine Holds.reg ?_
  refine OpsFrom.v (Y.move (up0 rfl rfl rfl) rfl rfl) rfl ?_
  refine OpsFrom.v (Y.shr (b := 32) u64s u64m (up0 rfl rfl rfl) rfl rfl rfl) rfl ?_
  refine OpsFrom.v (Y.assign (up0 rfl rfl rfl) rfl rfl) rfl ?_
  refine OpsFrom.nil ?_
  refine Holds.seq ?_
  refine Holds.reg ?_
  refine OpsFrom.v (Y.move (up0 rfl rfl rfl) rfl rfl) rfl ?_
  refine OpsFrom.v (Y.and (b := 4294967295) u64s u64m (up0 rfl rfl rfl) rfl rfl rfl) rfl ?_
  refine OpsFrom.v (Y.assign (up0 rfl rfl rfl) rfl rfl) rfl ?_
  refine OpsFrom.nil ?_
  refine Holds.seq ?_
  refine Holds.reg ?_
  refine OpsFrom.v (Y.move (up0 rfl rfl rfl) rfl rfl) rfl ?_
  refine OpsFrom.v (Y.shr (b := 32) u64s u64m (up0 rfl rfl rfl) rfl rfl rfl) rfl ?_
  refine OpsFrom.v (Y.assign (up0 rfl rfl rfl) rfl rfl) rfl ?_
  refine OpsFrom.nil ?_
  refine Holds.seq ?_
  refine Holds.reg ?_
  refine OpsFrom.v (Y.move (up0 rfl rfl rfl) rfl rfl) rfl ?_
  refine OpsFrom.v (Y.move (up0 rfl rfl rfl) rfl rfl) rfl ?_
  refine OpsFrom.v (Y.mul u64s u64m (up0 rfl rfl rfl) rfl rfl rfl) rfl ?_
  refine OpsFrom.v (Y.assign (up0 rfl rfl rfl) rfl rfl) rfl ?_
  refine OpsFrom.nil ?_
  refine Holds.seq ?_
  refine Holds.reg ?_
  refine OpsFrom.v (Y.move (up0 rfl rfl rfl) rfl rfl) rfl ?_
  refine OpsFrom.v (Y.move (up0 rfl rfl rfl) rfl rfl) rfl ?_
  refine OpsFrom.v (Y.mul u64s u64m (up0 rfl rfl rfl) rfl rfl rfl) rfl ?_
  refine OpsFrom.v (Y.move (up0 rfl rfl rfl) rfl rfl) rfl ?_
  refine OpsFrom.v (Y.shr (b := 32) u64s u64m (up0 rfl rfl rfl) rfl rfl rfl) rfl ?_
  refine OpsFrom.v (Y.add u64s u64m (up0 rfl rfl rfl) rfl rfl rfl) rfl ?_
  refine OpsFrom.v (Y.assign (up0 rfl rfl rfl) rfl rfl) rfl ?_
  refine OpsFrom.nil ?_
  refine Holds.seq ?_
  refine Holds.reg ?_
  refine OpsFrom.v (Y.move (up0 rfl rfl rfl) rfl rfl) rfl ?_
  refine OpsFrom.v (Y.and (b := 4294967295) u64s u64m (up0 rfl rfl rfl) rfl rfl rfl) rfl ?_
  refine OpsFrom.v (Y.assign (up0 rfl rfl rfl) rfl rfl) rfl ?_
  refine OpsFrom.nil ?_
  refine Holds.seq ?_
  refine Holds.reg ?_
  refine OpsFrom.v (Y.move (up0 rfl rfl rfl) rfl rfl) rfl ?_
  refine OpsFrom.v (Y.shr (b := 32) u64s u64m (up0 rfl rfl rfl) rfl rfl rfl) rfl ?_
  refine OpsFrom.v (Y.assign (up0 rfl rfl rfl) rfl rfl) rfl ?_
  refine OpsFrom.nil ?_
  refine Holds.seq ?_
  refine Holds.reg ?_
  refine OpsFrom.v (Y.move (up0 rfl rfl rfl) rfl rfl) rfl ?_
  refine OpsFrom.v (Y.move (up0 rfl rfl rfl) rfl rfl) rfl ?_
  refine OpsFrom.v (Y.move (up0 rfl rfl rfl) rfl rfl) rfl ?_
  refine OpsFrom.v (Y.mul u64s u64m (up0 rfl rfl rfl) rfl rfl rfl) rfl ?_
  refine OpsFrom.v (Y.add u64s u64m (up0 rfl rfl rfl) rfl rfl rfl) rfl ?_
  refine OpsFrom.v (Y.assign (up0 rfl rfl rfl) rfl rfl) rfl ?_
  refine OpsFrom.nil ?_
  refine Holds.seq ?_
  refine Holds.reg ?_
  refine OpsFrom.v (Y.move (up0 rfl rfl rfl) rfl rfl) rfl ?_
  refine OpsFrom.v (Y.move (up0 rfl rfl rfl) rfl rfl) rfl ?_
  refine OpsFrom.v (Y.mul u64s u64m (up0 rfl rfl rfl) rfl rfl rfl) rfl ?_
  refine OpsFrom.v (Y.move (up0 rfl rfl rfl) rfl rfl) rfl ?_
  refine OpsFrom.v (Y.add u64s u64m (up0 rfl rfl rfl) rfl rfl rfl) rfl ?_
  refine OpsFrom.v (Y.move (up0 rfl rfl rfl) rfl rfl) rfl ?_
  refine OpsFrom.v (Y.shr (b := 32) u64s u64m (up0 rfl rfl rfl) rfl rfl rfl) rfl ?_
  refine OpsFrom.v (Y.add u64s u64m (up0 rfl rfl rfl) rfl rfl rfl) rfl ?_
  refine OpsFrom.v (Y.assign (up0 rfl rfl rfl) rfl rfl) rfl ?_
  refine OpsFrom.nil ?_
  refine Holds.seq ?_
  refine Holds.reg ?_
  refine OpsFrom.v (Y.move (up0 rfl rfl rfl) rfl rfl) rfl ?_
  refine OpsFrom.v (Y.move (up0 rfl rfl rfl) rfl rfl) rfl ?_
  refine OpsFrom.v (Y.mul u64s u64m (up0 rfl rfl rfl) rfl rfl rfl) rfl ?_
  refine OpsFrom.v (Y.assign (up0 rfl rfl rfl) rfl rfl) rfl ?_
  refine OpsFrom.nil ?_
  refine Holds.ret ?_
  exact Holds.ret2 (.inl rfl) rfl (.tmp _ _ rfl) (.tmp _ _ rfl) (.two _ _ _ _ (.same _) (.same _)) rfl

theorem mul64_hi (x y : Nat) : (mul64 x y).1 < 18446744073709551616 := Nat.mod_lt _ (by decide)
def ptimes_s2 (a : List Nat) (r : List Nat) (i1_ : Nat) (m1_ : List Nat) (i2_ : Nat) (m2_ : Nat × (List Nat)) : Nat × (List Nat) :=
  let v90_ : Nat := (((mul64 (a.getD i1_ 0) (r.getD i2_ 0)).2) + m2_.1 + 0) % 18446744073709551616
  let v91_ : Nat := (((mul64 (a.getD i1_ 0) (r.getD i2_ 0)).2) + m2_.1 + 0) / 18446744073709551616
  let v92_ : Nat := ((m2_.2.getD (i1_ + i2_) 0) + v90_ + 0) % 18446744073709551616
  let v93_ : Nat := ((m2_.2.getD (i1_ + i2_) 0) + v90_ + 0) / 18446744073709551616
  let v94_ : Nat := (((mul64 (a.getD i1_ 0) (r.getD i2_ 0)).1) + v91_) % 18446744073709551616
  ((v94_ + v93_) % 18446744073709551616, m2_.2.set (i1_ + i2_) v92_)
def ptimes_it2 (a : List Nat) (r : List Nat) (i1_ : Nat) (m1_ : List Nat) (i2_ : Nat) : Nat × (List Nat) := iter (ptimes_s2 a r i1_ m1_) i2_ (0, m1_)
theorem ptimes_it2_z (a : List Nat) (r : List Nat) (i1_ : Nat) (m1_ : List Nat) : ptimes_it2 a r i1_ m1_ 0 = (0, m1_) := rfl
theorem ptimes_it2_s (a : List Nat) (r : List Nat) (i1_ : Nat) (m1_ : List Nat) (i2_ : Nat) : ptimes_it2 a r i1_ m1_ (i2_ + 1) = ptimes_s2 a r i1_ m1_ i2_ (ptimes_it2 a r i1_ m1_ i2_) := by unfold ptimes_it2; exact iterS _ _ _
theorem ptimes_it2_l1 (a : List Nat) (r : List Nat) (i1_ : Nat) (m1_ : List Nat) (i2_ : Nat) : ((ptimes_it2 a r i1_ m1_ i2_).2).length = (m1_ : List Nat).length := iter_inv (fun (s : Nat × (List Nat)) => (s.2).length = (m1_ : List Nat).length) (by simp) (fun i s h => by
  unfold ptimes_s2
  first | (simp [h]; done) | (dsimp only; (repeat' split) <;> simp [h])) i2_
def ptimes_s1 (a : List Nat) (r : List Nat) (i1_ : Nat) (m1_ : List Nat) : List Nat :=
  let v75_ : Nat := ((ptimes_it2 a r i1_ m1_ 2).2).getD (i1_ + 2) 0
  let v76_ : Nat := (v75_ + ((ptimes_it2 a r i1_ m1_ 2).1)) % 18446744073709551616
  let v77_ : List Nat := ((ptimes_it2 a r i1_ m1_ 2).2).set (i1_ + 2) v76_
  v77_
def ptimes_it1 (a : List Nat) (r : List Nat) (i1_ : Nat) : List Nat := iter (ptimes_s1 a r) i1_ (List.replicate 5 0)
theorem ptimes_it1_z (a : List Nat) (r : List Nat) : ptimes_it1 a r 0 = List.replicate 5 0 := rfl
theorem ptimes_it1_s (a : List Nat) (r : List Nat) (i1_ : Nat) : ptimes_it1 a r (i1_ + 1) = ptimes_s1 a r i1_ (ptimes_it1 a r i1_) := by unfold ptimes_it1; exact iterS _ _ _
theorem ptimes_it1_l (a : List Nat) (r : List Nat) (i1_ : Nat) : ((ptimes_it1 a r i1_)).length = (List.replicate 5 0 : List Nat).length := iter_inv (fun (s : List Nat) => (s).length = (List.replicate 5 0 : List Nat).length) (by simp) (fun i s h => by
  unfold ptimes_s1
  first | (simp [ptimes_it2_l1, h]; done) | (dsimp only; (repeat' split) <;> simp [ptimes_it2_l1, h])) i1_
def ptimes (a : List Nat) (r : List Nat) : List Nat :=
  (pfolded (ptimes_it1 a r 3))
theorem ptimes_len (a : List Nat) (r : List Nat)  : ((ptimes a r)).length = 3 := by
  unfold ptimes
  first | (simp [ptimes_it2_l1, ptimes_it1_l, pfolded_len]; done) | (simp [*, ptimes_it2_l1, ptimes_it1_l, pfolded_len]; done) | (dsimp only; (repeat' split) <;> simp [*, ptimes_it2_l1, ptimes_it1_l, pfolded_len])
theorem w_ptimes (a : List Nat) (r : List Nat) (l_a : a.length = 3) (l_r : r.length = 2) : VC Try.prog 55 [.row (.ints .u64 a), .row (.ints .u64 r)] (.row (.ints .u64 (ptimes a r))) := by
  refine VC.go Try.func55 rfl Try.ntmps55 rfl rfl fun O w => ?_
  refine Holds.seq ?_
  refine Holds.reg ?_
  refine OpsFrom.u (Y.boxR (d := 2) (up0 rfl rfl rfl) rfl rfl rfl) rfl rfl rfl ?_
  refine OpsFrom.u (Y.boxR (d := 3) (up0 rfl rfl rfl) rfl rfl rfl) rfl rfl rfl ?_
  refine OpsFrom.u (Y.alloc (d := 4) ty71 rfl rfl (up0 rfl rfl rfl) rfl) rfl rfl rfl ?_
  refine OpsFrom.nil ?_
  refine Holds.seq ?_
  refine Holds.reg ?_
  refine OpsFrom.u (Y.alloc (d := 5) ty76 rfl rfl (up0 rfl rfl rfl) rfl) rfl rfl rfl ?_
  refine OpsFrom.nil ?_
  refine Holds.seq ?_
  refine Holds.seq ?_
  refine Holds.reg ?_
  refine OpsFrom.v (Y.ldAll ty71 rfl (up0 rfl rfl rfl) rfl rfl rfl (by first | (with_reducible assumption) | omega | (simp only [lens, *]; first | done | omega) | decide | (split <;> simp only [lens, *]) | (with_reducible exact Lt.mono (by assumption) (by decide))) (by decide)) rfl ?_
  refine OpsFrom.v (Y.move (v := (.one (.n .i64 0))) (up0 rfl rfl rfl) rfl rfl) rfl ?_
  refine OpsFrom.nil ?_
  refine Holds.block ?_
  refine Holds.loop (fun (i1_ : Nat) => ⟨[(3, .one (.p 3 0)), (4, .one (.p 4 0)), (5, .one (.p 5 0)), (15, .row (.ints .u64 a)), (16, .one (.n .i64 i1_))], [(3, .own (.ints .u64 r)), (4, .own (.ints .u64 (List.replicate 3 0))), (5, .own (.ints .u64 (ptimes_it1 a r i1_)))]⟩) (fun (i1_ : Nat) => i1_ ≤ 3) (fun (i1_ : Nat) => 3 - i1_) 0 (by first | (with_reducible assumption) | omega | (simp only [lens, ptimes_it1_l, *]; first | done | omega) | decide | (split <;> simp only [lens, ptimes_it1_l, *]) | (with_reducible exact Lt.mono (by assumption) (by decide))) [] ⟨⟨rfl, rfl, rfl, rfl, rfl, trivial⟩, ⟨rfl, rfl, (hEq (congrArg (fun (s : List Nat) => s) (ptimes_it1_z a r)).symm), trivial⟩, rfl, rfl⟩ ?_
  intro i1_ k1_
  refine Holds.seq ?_
  refine Holds.reg ?_
  refine OpsFrom.v (Y.lss (b := 3) (up0 rfl rfl rfl) rfl rfl rfl) rfl ?_
  refine OpsFrom.nil ?_
  refine Holds.seq ?_
  refine Holds.condD rfl (fun h17 => ?_) (fun h17 => ?_)
  · refine Holds.skip ?_
    refine Holds.seq ?_
    refine Holds.block ?_
    refine Holds.seq ?_
    refine Holds.reg ?_
    refine OpsFrom.v (Y.move (up0 rfl rfl rfl) rfl rfl) rfl ?_
    refine OpsFrom.v (Y.idxI ty71 ty42 rfl (up0 rfl rfl rfl) rfl rfl rfl (by first | (with_reducible assumption) | omega | (simp only [lens, ptimes_it1_l, *]; first | done | omega) | decide | (split <;> simp only [lens, ptimes_it1_l, *]) | (with_reducible exact Lt.mono (by assumption) (by decide))) (by first | (with_reducible assumption) | omega | (simp only [lens, ptimes_it1_l, *]; first | done | omega) | decide | (split <;> simp only [lens, ptimes_it1_l, *]) | (with_reducible exact Lt.mono (by assumption) (by decide)))) rfl ?_
    refine OpsFrom.v (Y.assign (up0 rfl rfl rfl) rfl rfl) rfl ?_
    refine OpsFrom.v (Y.assign (up0 rfl rfl rfl) rfl rfl) rfl ?_
    refine OpsFrom.nil ?_
    refine Holds.seq ?_
    refine Holds.reg ?_
    refine OpsFrom.v (Y.assign (v := (.one (.n .u64 0))) (up0 rfl rfl rfl) rfl rfl) rfl ?_
    refine OpsFrom.nil ?_
    refine Holds.seq ?_
    refine Holds.seq ?_
    refine Holds.reg ?_
    refine OpsFrom.v (Y.ldAll ty69 rfl (up0 rfl rfl rfl) rfl rfl rfl (by first | (with_reducible assumption) | omega | (simp only [lens, ptimes_it1_l, *]; first | done | omega) | decide | (split <;> simp only [lens, ptimes_it1_l, *]) | (with_reducible exact Lt.mono (by assumption) (by decide))) (by decide)) rfl ?_
    refine OpsFrom.v (Y.move (v := (.one (.n .i64 0))) (up0 rfl rfl rfl) rfl rfl) rfl ?_
    refine OpsFrom.nil ?_
    refine Holds.block ?_
    refine Holds.loop (fun (i2_ : Nat) => ⟨[(3, .one (.p 3 0)), (4, .one (.p 4 0)), (5, .one (.p 5 0)), (15, .row (.ints .u64 a)), (16, .one (.n .i64 i1_)), (17, .one (.b (decide (i1_ < 3)))), (18, .one (.n .i64 i1_)), (19, .one (.n .u64 (a.getD i1_ 0))), (6, .one (.n .i64 i1_)), (7, .one (.n .u64 (a.getD i1_ 0))), (8, .one (.n .u64 ((ptimes_it2 a r i1_ (ptimes_it1 a r i1_) i2_).1))), (20, .row (.ints .u64 r)), (21, .one (.n .i64 i2_))], [(3, .own (.ints .u64 r)), (4, .own (.ints .u64 (List.replicate 3 0))), (5, .own (.ints .u64 ((ptimes_it2 a r i1_ (ptimes_it1 a r i1_) i2_).2)))]⟩) (fun (i2_ : Nat) => i2_ ≤ 2) (fun (i2_ : Nat) => 2 - i2_) 0 (by first | (with_reducible assumption) | omega | (simp only [lens, ptimes_it1_l, ptimes_it2_l1, *]; first | done | omega) | decide | (split <;> simp only [lens, ptimes_it1_l, ptimes_it2_l1, *]) | (with_reducible exact Lt.mono (by assumption) (by decide))) [] ⟨⟨rfl, rfl, rfl, rfl, rfl, rfl, rfl, rfl, rfl, rfl, (nEq (congrArg (fun (s : Nat × (List Nat)) => s.1) (ptimes_it2_z a r i1_ (ptimes_it1 a r i1_))).symm), rfl, rfl, trivial⟩, ⟨rfl, rfl, (hEq (congrArg (fun (s : Nat × (List Nat)) => s.2) (ptimes_it2_z a r i1_ (ptimes_it1 a r i1_))).symm), trivial⟩, rfl, rfl⟩ ?_
    intro i2_ k2_
    refine Holds.seq ?_
    refine Holds.reg ?_
    refine OpsFrom.v (Y.lss (b := 2) (up0 rfl rfl rfl) rfl rfl rfl) rfl ?_
    refine OpsFrom.nil ?_
    refine Holds.seq ?_
    refine Holds.condD rfl (fun h22 => ?_) (fun h22 => ?_)
    · refine Holds.skip ?_
      refine Holds.seq ?_
      refine Holds.block ?_
      refine Holds.seq ?_
      refine Holds.reg ?_
      refine OpsFrom.v (Y.move (up0 rfl rfl rfl) rfl rfl) rfl ?_
      refine OpsFrom.v (Y.idxI ty69 ty42 rfl (up0 rfl rfl rfl) rfl rfl rfl (by first | (with_reducible assumption) | omega | (simp only [lens, ptimes_it1_l, ptimes_it2_l1, *]; first | done | omega) | decide | (split <;> simp only [lens, ptimes_it1_l, ptimes_it2_l1, *]) | (with_reducible exact Lt.mono (by assumption) (by decide))) (by first | (with_reducible assumption) | omega | (simp only [lens, ptimes_it1_l, ptimes_it2_l1, *]; first | done | omega) | decide | (split <;> simp only [lens, ptimes_it1_l, ptimes_it2_l1, *]) | (with_reducible exact Lt.mono (by assumption) (by decide)))) rfl ?_
      refine OpsFrom.v (Y.assign (up0 rfl rfl rfl) rfl rfl) rfl ?_
      refine OpsFrom.v (Y.assign (up0 rfl rfl rfl) rfl rfl) rfl ?_
      refine OpsFrom.nil ?_
      refine Holds.seq ?_
      refine Holds.reg ?_
      refine OpsFrom.v (Y.move (up0 rfl rfl rfl) rfl rfl) rfl ?_
      refine OpsFrom.v (Y.move (up0 rfl rfl rfl) rfl rfl) rfl ?_
      refine OpsFrom.v (Y.callV (w_mul64 _ _ ) fnok66 (up0 rfl rfl rfl) rfl rfl (.cons _ _ _ _ rfl (.cons _ _ _ _ rfl .nil)) (.cons _ _ _ _ (.same _) (.cons _ _ _ _ (.same _) .nil)) rfl rfl) rfl ?_
      refine OpsFrom.v (Y.move (up0 rfl rfl rfl) rfl rfl) rfl ?_
      refine OpsFrom.v (Y.ext0 (up0 rfl rfl rfl) rfl rfl) rfl ?_
      refine OpsFrom.v (Y.ext1 (up0 rfl rfl rfl) rfl rfl) rfl ?_
      refine OpsFrom.v (Y.assign (up0 rfl rfl rfl) rfl rfl) rfl ?_
      refine OpsFrom.v (Y.assign (up0 rfl rfl rfl) rfl rfl) rfl ?_
      refine OpsFrom.nil ?_
      refine Holds.seq ?_
      refine Holds.reg ?_
      refine OpsFrom.v (Y.assign (v := (.one (.n .u64 0))) (up0 rfl rfl rfl) rfl rfl) rfl ?_
      refine OpsFrom.v (Y.assign (v := (.one (.n .u64 0))) (up0 rfl rfl rfl) rfl rfl) rfl ?_
      refine OpsFrom.nil ?_
      refine Holds.seq ?_
      refine Holds.reg ?_
      refine OpsFrom.v (Y.move (up0 rfl rfl rfl) rfl rfl) rfl ?_
      refine OpsFrom.v (Y.move (up0 rfl rfl rfl) rfl rfl) rfl ?_
      refine OpsFrom.v (Y.add64 (c := 0) ext67 (up0 rfl rfl rfl) rfl rfl rfl rfl rfl (by first | (with_reducible assumption) | omega | (simp only [lens, ptimes_it1_l, ptimes_it2_l1, *]; first | done | omega) | decide | (split <;> simp only [lens, ptimes_it1_l, ptimes_it2_l1, *]) | (with_reducible exact Lt.mono (by assumption) (by decide)))) rfl ?_
      refine OpsFrom.v (Y.move (up0 rfl rfl rfl) rfl rfl) rfl ?_
      refine OpsFrom.v (Y.ext0 (up0 rfl rfl rfl) rfl rfl) rfl ?_
      refine OpsFrom.v (Y.ext1 (up0 rfl rfl rfl) rfl rfl) rfl ?_
      refine OpsFrom.v (Y.assign (up0 rfl rfl rfl) rfl rfl) rfl ?_
      refine OpsFrom.v (Y.assign (up0 rfl rfl rfl) rfl rfl) rfl ?_
      refine OpsFrom.nil ?_
      refine Holds.seq ?_
      refine Holds.reg ?_
      refine OpsFrom.v (Y.move (up0 rfl rfl rfl) rfl rfl) rfl ?_
      refine OpsFrom.v (Y.move (up0 rfl rfl rfl) rfl rfl) rfl ?_
      refine OpsFrom.v (Y.addI (up0 rfl rfl rfl) rfl rfl rfl (by first | (with_reducible assumption) | omega | (simp only [lens, ptimes_it1_l, ptimes_it2_l1, *]; first | done | omega) | decide | (split <;> simp only [lens, ptimes_it1_l, ptimes_it2_l1, *]) | (with_reducible exact Lt.mono (by assumption) (by decide)))) rfl ?_
      refine OpsFrom.v (Y.move (up0 rfl rfl rfl) rfl rfl) rfl ?_
      refine OpsFrom.v (Y.move (up0 rfl rfl rfl) rfl rfl) rfl ?_
      refine OpsFrom.v (Y.addI (up0 rfl rfl rfl) rfl rfl rfl (by first | (with_reducible assumption) | omega | (simp only [lens, ptimes_it1_l, ptimes_it2_l1, *]; first | done | omega) | decide | (split <;> simp only [lens, ptimes_it1_l, ptimes_it2_l1, *]) | (with_reducible exact Lt.mono (by assumption) (by decide)))) rfl ?_
      refine OpsFrom.v (Y.ia0 ty76 ty42 (up0 rfl rfl rfl) rfl rfl rfl (by first | (with_reducible assumption) | omega | (simp only [lens, ptimes_it1_l, ptimes_it2_l1, *]; first | done | omega) | decide | (split <;> simp only [lens, ptimes_it1_l, ptimes_it2_l1, *]) | (with_reducible exact Lt.mono (by assumption) (by decide)))) rfl ?_
      refine OpsFrom.v (Y.ldI ty42 rfl (up0 rfl rfl rfl) rfl rfl rfl (by first | (with_reducible assumption) | omega | (simp only [lens, ptimes_it1_l, ptimes_it2_l1, *]; first | done | omega) | decide | (split <;> simp only [lens, ptimes_it1_l, ptimes_it2_l1, *]) | (with_reducible exact Lt.mono (by assumption) (by decide)))) rfl ?_
      refine OpsFrom.v (Y.move (up0 rfl rfl rfl) rfl rfl) rfl ?_
      refine OpsFrom.v (Y.add64 (c := 0) ext67 (up0 rfl rfl rfl) rfl rfl rfl rfl rfl (by first | (with_reducible assumption) | omega | (simp only [lens, ptimes_it1_l, ptimes_it2_l1, *]; first | done | omega) | decide | (split <;> simp only [lens, ptimes_it1_l, ptimes_it2_l1, *]) | (with_reducible exact Lt.mono (by assumption) (by decide)))) rfl ?_
      refine OpsFrom.v (Y.move (up0 rfl rfl rfl) rfl rfl) rfl ?_
      refine OpsFrom.v (Y.ext0 (up0 rfl rfl rfl) rfl rfl) rfl ?_
      refine OpsFrom.v (Y.ext1 (up0 rfl rfl rfl) rfl rfl) rfl ?_
      refine OpsFrom.v (Y.ia0 ty76 ty42 (up0 rfl rfl rfl) rfl rfl rfl (by first | (with_reducible assumption) | omega | (simp only [lens, ptimes_it1_l, ptimes_it2_l1, *]; first | done | omega) | decide | (split <;> simp only [lens, ptimes_it1_l, ptimes_it2_l1, *]) | (with_reducible exact Lt.mono (by assumption) (by decide)))) rfl ?_
      refine OpsFrom.n (Y.stI ty42 (upN rfl rfl) rfl rfl rfl rfl (by first | (with_reducible assumption) | omega | (simp only [lens, ptimes_it1_l, ptimes_it2_l1, *]; first | done | omega) | decide | (split <;> simp only [lens, ptimes_it1_l, ptimes_it2_l1, *]) | (with_reducible exact Lt.mono (by assumption) (by decide)))) rfl rfl ?_
      refine OpsFrom.v (Y.assign (up0 rfl rfl rfl) rfl rfl) rfl ?_
      refine OpsFrom.nil ?_
      refine Holds.reg ?_
      refine OpsFrom.v (Y.move (up0 rfl rfl rfl) rfl rfl) rfl ?_
      refine OpsFrom.v (Y.move (up0 rfl rfl rfl) rfl rfl) rfl ?_
      refine OpsFrom.v (Y.add u64s u64m (up0 rfl rfl rfl) rfl rfl rfl) rfl ?_
      refine OpsFrom.v (Y.move (up0 rfl rfl rfl) rfl rfl) rfl ?_
      refine OpsFrom.v (Y.add u64s u64m (up0 rfl rfl rfl) rfl rfl rfl) rfl ?_
      refine OpsFrom.v (Y.assign (up0 rfl rfl rfl) rfl rfl) rfl ?_
      refine OpsFrom.nil ?_
      refine Holds.reg ?_
      refine OpsFrom.v (Y.addI (b := 1) (up0 rfl rfl rfl) rfl rfl rfl (by first | (with_reducible assumption) | omega | (simp only [lens, ptimes_it1_l, ptimes_it2_l1, *]; first | done | omega) | decide | (split <;> simp only [lens, ptimes_it1_l, ptimes_it2_l1, *]) | (with_reducible exact Lt.mono (by assumption) (by decide)))) rfl ?_
      refine OpsFrom.v (Y.move (up0 rfl rfl rfl) rfl rfl) rfl ?_
      refine OpsFrom.nil ?_
      exact Holds.again (i2_ + 1) (by omega) (by omega) [] ⟨⟨rfl, rfl, rfl, rfl, rfl, rfl, rfl, rfl, rfl, rfl, (nEq (by rw [ptimes_it2_s]; unfold ptimes_s2; first | (dsimp only; done) | rfl)), rfl, (nEq (by omega)), trivial⟩, ⟨rfl, rfl, (hEq (by rw [ptimes_it2_s]; unfold ptimes_s2; first | (dsimp only; done) | rfl)), trivial⟩, rfl, rfl⟩
    · obtain rfl : i2_ = 2 := by omega
      refine Holds.exit ?_
      refine Holds.reg ?_
      refine OpsFrom.v (Y.move (up0 rfl rfl rfl) rfl rfl) rfl ?_
      refine OpsFrom.v (Y.addI (b := 2) (up0 rfl rfl rfl) rfl rfl rfl (by first | (with_reducible assumption) | omega | (simp only [lens, ptimes_it1_l, ptimes_it2_l1, *]; first | done | omega) | decide | (split <;> simp only [lens, ptimes_it1_l, ptimes_it2_l1, *]) | (with_reducible exact Lt.mono (by assumption) (by decide)))) rfl ?_
      refine OpsFrom.v (Y.ia0 ty76 ty42 (up0 rfl rfl rfl) rfl rfl rfl (by first | (with_reducible assumption) | omega | (simp only [lens, ptimes_it1_l, ptimes_it2_l1, *]; first | done | omega) | decide | (split <;> simp only [lens, ptimes_it1_l, ptimes_it2_l1, *]) | (with_reducible exact Lt.mono (by assumption) (by decide)))) rfl ?_
      refine OpsFrom.v (Y.ldI ty42 rfl (up0 rfl rfl rfl) rfl rfl rfl (by first | (with_reducible assumption) | omega | (simp only [lens, ptimes_it1_l, ptimes_it2_l1, *]; first | done | omega) | decide | (split <;> simp only [lens, ptimes_it1_l, ptimes_it2_l1, *]) | (with_reducible exact Lt.mono (by assumption) (by decide)))) rfl ?_
      refine OpsFrom.v (Y.move (up0 rfl rfl rfl) rfl rfl) rfl ?_
      refine OpsFrom.v (Y.add u64s u64m (up0 rfl rfl rfl) rfl rfl rfl) rfl ?_
      refine OpsFrom.v (Y.ia0 ty76 ty42 (up0 rfl rfl rfl) rfl rfl rfl (by first | (with_reducible assumption) | omega | (simp only [lens, ptimes_it1_l, ptimes_it2_l1, *]; first | done | omega) | decide | (split <;> simp only [lens, ptimes_it1_l, ptimes_it2_l1, *]) | (with_reducible exact Lt.mono (by assumption) (by decide)))) rfl ?_
      refine OpsFrom.n (Y.stI ty42 (upN rfl rfl) rfl rfl rfl rfl (by first | (with_reducible assumption) | omega | (simp only [lens, ptimes_it1_l, ptimes_it2_l1, *]; first | done | omega) | decide | (split <;> simp only [lens, ptimes_it1_l, ptimes_it2_l1, *]) | (with_reducible exact Lt.mono (by assumption) (by decide)))) rfl rfl ?_
      refine OpsFrom.nil ?_
      refine Holds.reg ?_
      refine OpsFrom.v (Y.addI (b := 1) (up0 rfl rfl rfl) rfl rfl rfl (by first | (with_reducible assumption) | omega | (simp only [lens, ptimes_it1_l, ptimes_it2_l1, *]; first | done | omega) | decide | (split <;> simp only [lens, ptimes_it1_l, ptimes_it2_l1, *]) | (with_reducible exact Lt.mono (by assumption) (by decide)))) rfl ?_
      refine OpsFrom.v (Y.move (up0 rfl rfl rfl) rfl rfl) rfl ?_
      refine OpsFrom.nil ?_
      exact Holds.again (i1_ + 1) (by omega) (by omega) [] ⟨⟨rfl, rfl, rfl, rfl, (nEq (by omega)), trivial⟩, ⟨rfl, rfl, (hEq (by rw [ptimes_it1_s]; unfold ptimes_s1; first | (dsimp only; done) | rfl)), trivial⟩, rfl, rfl⟩
  · obtain rfl : i1_ = 3 := by omega
    refine Holds.exit ?_
    refine Holds.seq ?_
    refine Holds.reg ?_
    refine OpsFrom.v (Y.ldAll ty76 rfl (up0 rfl rfl rfl) rfl rfl rfl (by first | (with_reducible assumption) | omega | (simp only [lens, ptimes_it1_l, *]; first | done | omega) | decide | (split <;> simp only [lens, ptimes_it1_l, *]) | (with_reducible exact Lt.mono (by assumption) (by decide))) (by decide)) rfl ?_
    refine OpsFrom.v (Y.callV (w_pfolded _ (by first | (with_reducible assumption) | omega | (simp only [lens, ptimes_it1_l, pfolded_len, *]; first | done | omega) | decide | (split <;> simp only [lens, ptimes_it1_l, pfolded_len, *]) | (with_reducible exact Lt.mono (by assumption) (by decide)))) fnok57 (up0 rfl rfl rfl) rfl rfl (.cons _ _ _ _ rfl .nil) (.cons _ _ _ _ (.same _) .nil) rfl rfl) rfl ?_
    refine OpsFrom.n (Y.stR ty71 (upN rfl rfl) rfl rfl rfl rfl rfl (by first | (with_reducible assumption) | omega | (simp only [lens, ptimes_it1_l, pfolded_len, *]; first | done | omega) | decide | (split <;> simp only [lens, ptimes_it1_l, pfolded_len, *]) | (with_reducible exact Lt.mono (by assumption) (by decide))) (by first | (with_reducible assumption) | omega | (simp only [lens, ptimes_it1_l, pfolded_len, *]; first | done | omega) | decide | (split <;> simp only [lens, ptimes_it1_l, pfolded_len, *]) | (with_reducible exact Lt.mono (by assumption) (by decide))) (by decide)) rfl rfl ?_
    refine OpsFrom.nil ?_
    refine Holds.ret ?_
    exact Holds.ret1 (.inl rfl) rfl (.rowN rfl rfl ty71 rfl (by first | (with_reducible assumption) | omega | (simp only [lens, ptimes_it1_l, pfolded_len, *]; first | done | omega) | decide | (split <;> simp only [lens, ptimes_it1_l, pfolded_len, *]) | (with_reducible exact Lt.mono (by assumption) (by decide))) (by decide)) (.same _) rfl


end Go.Proofs.Ytkpelchcpiafaaa
