/-
  Walks: the words of a block.
-/
import Derived.Test.YtjgcmfedofmkpaaWa
namespace Go.Proofs.Ytjgcmfedofmkpaa
open Go Go.Fx
set_option linter.unusedVariables false
set_option linter.unusedSimpArgs false
def rwords_s1 (b : List Nat) (i1_ : Nat) (m1_ : List Nat) : List Nat :=
  let v5_ : Nat := (m1_.getD (i1_ / 8) 0) * 2 ^ 8 % 18446744073709551616
  let v6_ : Nat := (v5_ + (b.getD i1_ 0)) % 18446744073709551616
  m1_.set (i1_ / 8) v6_
def rwords_it1 (b : List Nat) (i1_ : Nat) : List Nat := iter (rwords_s1 b) i1_ (List.replicate 80 0)
theorem rwords_it1_z (b : List Nat) : rwords_it1 b 0 = List.replicate 80 0 := rfl
theorem rwords_it1_s (b : List Nat) (i1_ : Nat) : rwords_it1 b (i1_ + 1) = rwords_s1 b i1_ (rwords_it1 b i1_) := by unfold rwords_it1; exact iterS _ _ _
theorem rwords_it1_l (b : List Nat) (i1_ : Nat) : ((rwords_it1 b i1_)).length = (List.replicate 80 0 : List Nat).length := iter_inv (fun (s : List Nat) => (s).length = (List.replicate 80 0 : List Nat).length) (by simp) (fun i s h => by
  unfold rwords_s1
  first | (simp [h]; done) | (dsimp only; (repeat' split) <;> simp [h])) i1_
def rwords_s2 (b : List Nat) (i2_ : Nat) (m2_ : List Nat) : List Nat :=
  let v24_ : Nat := (rturn (m2_.getD ((16 + i2_) - 15) 0) 1) ^^^ (rturn (m2_.getD ((16 + i2_) - 15) 0) 8)
  let v25_ : Nat := v24_ ^^^ ((m2_.getD ((16 + i2_) - 15) 0) / 2 ^ 7)
  let v26_ : Nat := (rturn (m2_.getD ((16 + i2_) - 2) 0) 19) ^^^ (rturn (m2_.getD ((16 + i2_) - 2) 0) 61)
  let v27_ : Nat := v26_ ^^^ ((m2_.getD ((16 + i2_) - 2) 0) / 2 ^ 6)
  let v28_ : Nat := ((m2_.getD ((16 + i2_) - 16) 0) + (m2_.getD ((16 + i2_) - 7) 0)) % 18446744073709551616
  let v29_ : Nat := (((v28_ + v25_) % 18446744073709551616) + v27_) % 18446744073709551616
  m2_.set (16 + i2_) v29_
def rwords_it2 (b : List Nat) (i2_ : Nat) : List Nat := iter (rwords_s2 b) i2_ (rwords_it1 b 128)
theorem rwords_it2_z (b : List Nat) : rwords_it2 b 0 = (rwords_it1 b 128) := rfl
theorem rwords_it2_s (b : List Nat) (i2_ : Nat) : rwords_it2 b (i2_ + 1) = rwords_s2 b i2_ (rwords_it2 b i2_) := by unfold rwords_it2; exact iterS _ _ _
theorem rwords_it2_l (b : List Nat) (i2_ : Nat) : ((rwords_it2 b i2_)).length = ((rwords_it1 b 128) : List Nat).length := iter_inv (fun (s : List Nat) => (s).length = ((rwords_it1 b 128) : List Nat).length) (by simp) (fun i s h => by
  unfold rwords_s2
  first | (simp [rwords_it1_l, h]; done) | (dsimp only; (repeat' split) <;> simp [rwords_it1_l, h])) i2_
def rwords (b : List Nat) : List Nat :=
  (rwords_it2 b 64)
theorem rwords_len (b : List Nat) (l_b : b.length = 128) : ((rwords b)).length = 80 := by
  unfold rwords
  first | (simp [rwords_it1_l, rwords_it2_l]; done) | (simp [*, rwords_it1_l, rwords_it2_l]; done) | (dsimp only; (repeat' split) <;> simp [*, rwords_it1_l, rwords_it2_l])
theorem w_rwords (b : List Nat) (l_b : b.length = 128) : VC Try.prog 51 [.one (.bs false .u8 b)] (.row (.ints .u64 (rwords b))) := by
  refine VC.go Try.func51 rfl Try.ntmps51 rfl rfl fun O w => ?_
  refine Holds.seq ?_
  refine Holds.reg ?_
  refine OpsFrom.u (Y.alloc (d := 2) ty35 rfl rfl (up0 rfl rfl rfl) rfl) rfl rfl rfl ?_
  refine OpsFrom.nil ?_
  refine Holds.seq ?_
  refine Holds.reg ?_
  refine OpsFrom.v (Y.buildA ty35 ty27 rfl (up0 rfl rfl rfl) rfl (.nil _)) rfl ?_
  refine OpsFrom.u (Y.alloc (d := 3) ty35 rfl rfl (up0 rfl rfl rfl) rfl) rfl rfl rfl ?_
  refine OpsFrom.n (Y.stR ty35 (upN rfl rfl) rfl rfl rfl rfl rfl (by first | (with_reducible assumption) | omega | (simp only [lens, *]; first | done | omega) | decide | (split <;> simp only [lens, *]) | (with_reducible exact Lt.mono (by assumption) (by decide)) | (simp only [Cs.len]; done) | rfl) (by first | (with_reducible assumption) | omega | (simp only [lens, *]; first | done | omega) | decide | (split <;> simp only [lens, *]) | (with_reducible exact Lt.mono (by assumption) (by decide)) | (simp only [Cs.len]; done) | rfl) (by decide)) rfl rfl ?_
  refine OpsFrom.nil ?_
  refine Holds.seq ?_
  refine Holds.seq ?_
  refine Holds.reg ?_
  refine OpsFrom.v (Y.assign (v := (.one (.n .i64 0))) (up0 rfl rfl rfl) rfl rfl) rfl ?_
  refine OpsFrom.nil ?_
  refine Holds.block ?_
  refine Holds.loop (fun (i1_ : Nat) => ⟨[(0, .one (.bs false .u8 b)), (2, .one (.p 2 0)), (3, .one (.p 3 0)), (4, .one (.n .i64 i1_))], [(2, .own (.ints .u64 (List.replicate 80 0))), (3, .own (.ints .u64 (rwords_it1 b i1_)))]⟩) (fun (i1_ : Nat) => i1_ ≤ 128) (fun (i1_ : Nat) => 128 - i1_) 0 (by first | (with_reducible assumption) | omega | (simp only [lens, rwords_it1_l, *]; first | done | omega) | decide | (split <;> simp only [lens, rwords_it1_l, *]) | (with_reducible exact Lt.mono (by assumption) (by decide)) | (simp only [Cs.len]; done) | rfl) [] ⟨⟨rfl, rfl, rfl, rfl, trivial⟩, ⟨rfl, (hEq (congrArg (fun (s : List Nat) => s) (rwords_it1_z b)).symm), trivial⟩, rfl, rfl⟩ ?_
  intro i1_ k1_
  refine Holds.seq ?_
  refine Holds.seq ?_
  refine Holds.reg ?_
  refine OpsFrom.v (Y.move (up0 rfl rfl rfl) rfl rfl) rfl ?_
  refine OpsFrom.v (Y.lss (b := 128) (up0 rfl rfl rfl) rfl rfl rfl) rfl ?_
  refine OpsFrom.nil ?_
  refine Holds.condD rfl (fun h10 => ?_) (fun h10 => ?_)
  · refine Holds.skip ?_
    refine Holds.seq ?_
    refine Holds.block ?_
    refine Holds.dr mx [([13], [15, 16, 17, 18, 19, 20, 21, 22, 23, 24, 25]), ([14], [15, 16, 17, 18, 19, 20, 21, 22, 23, 24, 25]), ([15], [13, 14, 20, 21, 22, 23, 24]), ([16], [13, 14, 20, 21, 22, 23, 24]), ([17], [13, 14, 20, 21, 22, 23, 24]), ([18], [13, 14, 20, 21, 22, 23, 24]), ([19], [13, 14, 20, 21, 22, 23, 24]), ([20], [13, 14, 15, 16, 17, 18, 19, 21]), ([21], [13, 14, 15, 16, 17, 18, 19, 20]), ([22], [13, 14, 15, 16, 17, 18, 19]), ([23], [13, 14, 15, 16, 17, 18, 19]), ([24], [13, 14, 15, 16, 17, 18, 19]), ([25], [13, 14]), ([26], []), ([3], [])] (by kernel_rfl) ?_
    refine CertK.vd (Y.move (up0 rfl rfl rfl) rfl rfl) rfl rfl ?_
    refine CertK.vd (Y.quoI (b := 8) (up0 rfl rfl rfl) rfl rfl rfl (by first | (with_reducible assumption) | omega | (simp only [lens, rwords_it1_l, *]; first | done | omega) | decide | (split <;> simp only [lens, rwords_it1_l, *]) | (with_reducible exact Lt.mono (by assumption) (by decide)) | (simp only [Cs.len]; done) | rfl) (by decide)) rfl rfl ?_
    refine CertK.vd (Y.move (up0 rfl rfl rfl) rfl rfl) rfl rfl ?_
    refine CertK.vd (Y.quoI (b := 8) (up0 rfl rfl rfl) rfl rfl rfl (by first | (with_reducible assumption) | omega | (simp only [lens, rwords_it1_l, *]; first | done | omega) | decide | (split <;> simp only [lens, rwords_it1_l, *]) | (with_reducible exact Lt.mono (by assumption) (by decide)) | (simp only [Cs.len]; done) | rfl) (by decide)) rfl rfl ?_
    refine CertK.vd (Y.ia0 ty35 ty27 (up0 rfl rfl rfl) rfl rfl rfl (by first | (with_reducible assumption) | omega | (simp only [lens, rwords_it1_l, *]; first | done | omega) | decide | (split <;> simp only [lens, rwords_it1_l, *]) | (with_reducible exact Lt.mono (by assumption) (by decide)) | (simp only [Cs.len]; done) | rfl)) rfl rfl ?_
    refine CertK.vd (Y.ldI ty27 rfl (up0 rfl rfl rfl) rfl rfl rfl (by first | (with_reducible assumption) | omega | (simp only [lens, rwords_it1_l, *]; first | done | omega) | decide | (split <;> simp only [lens, rwords_it1_l, *]) | (with_reducible exact Lt.mono (by assumption) (by decide)) | (simp only [Cs.len]; done) | rfl)) rfl rfl ?_
    refine CertK.vd (Y.shl (b := 8) u64s u64m (up0 rfl rfl rfl) rfl rfl rfl) rfl rfl ?_
    refine CertK.vd (Y.move (up0 rfl rfl rfl) rfl rfl) rfl rfl ?_
    refine CertK.vd (Y.move (up0 rfl rfl rfl) rfl rfl) rfl rfl ?_
    refine CertK.vd (Y.iaBs ty22 ty5 (up0 rfl rfl rfl) rfl rfl rfl (by first | (with_reducible assumption) | omega | (simp only [lens, rwords_it1_l, *]; first | done | omega) | decide | (split <;> simp only [lens, rwords_it1_l, *]) | (with_reducible exact Lt.mono (by assumption) (by decide)) | (simp only [Cs.len]; done) | rfl)) rfl rfl ?_
    refine CertK.vd (Y.ldPc ty5 rfl (up0 rfl rfl rfl) rfl rfl) rfl rfl ?_
    refine CertK.vd (Y.convUp ty5.u ty27.u rfl rfl (by decide) (up0 rfl rfl rfl) rfl rfl) rfl rfl ?_
    refine CertK.vd (Y.add u64s u64m (up0 rfl rfl rfl) rfl rfl rfl) rfl rfl ?_
    refine CertK.v (Y.ia0 ty35 ty27 (up0 rfl rfl rfl) rfl rfl rfl (by first | (with_reducible assumption) | omega | (simp only [lens, rwords_it1_l, *]; first | done | omega) | decide | (split <;> simp only [lens, rwords_it1_l, *]) | (with_reducible exact Lt.mono (by assumption) (by decide)) | (simp only [Cs.len]; done) | rfl)) rfl ?_
    refine CertK.n (Y.stI ty27 (upN rfl rfl) rfl rfl rfl rfl (by first | (with_reducible assumption) | omega | (simp only [lens, rwords_it1_l, *]; first | done | omega) | decide | (split <;> simp only [lens, rwords_it1_l, *]) | (with_reducible exact Lt.mono (by assumption) (by decide)) | (simp only [Cs.len]; done) | rfl)) rfl rfl rfl rfl ?_
    refine CertK.nil ?_
    refine Holds.reg ?_
    refine OpsFrom.v (Y.move (up0 rfl rfl rfl) rfl rfl) rfl ?_
    refine OpsFrom.v (Y.addI (b := 1) (up0 rfl rfl rfl) rfl rfl rfl (by first | (with_reducible assumption) | omega | (simp only [lens, rwords_it1_l, *]; first | done | omega) | decide | (split <;> simp only [lens, rwords_it1_l, *]) | (with_reducible exact Lt.mono (by assumption) (by decide)) | (simp only [Cs.len]; done) | rfl)) rfl ?_
    refine OpsFrom.v (Y.assign (up0 rfl rfl rfl) rfl rfl) rfl ?_
    refine OpsFrom.nil ?_
    exact Holds.again (i1_ + 1) (by omega) (by omega) [] ⟨⟨rfl, rfl, rfl, (nEq (by omega)), trivial⟩, ⟨rfl, (hEq (by rw [rwords_it1_s]; unfold rwords_s1; first | (dsimp only; done) | rfl)), trivial⟩, rfl, rfl⟩
  · obtain rfl : i1_ = 128 := by omega
    refine Holds.exit ?_
    refine Holds.seq ?_
    refine Holds.seq ?_
    refine Holds.reg ?_
    refine OpsFrom.v (Y.assign (v := (.one (.n .i64 16))) (up0 rfl rfl rfl) rfl rfl) rfl ?_
    refine OpsFrom.nil ?_
    refine Holds.block ?_
    refine Holds.loop (fun (i2_ : Nat) => ⟨[(2, .one (.p 2 0)), (3, .one (.p 3 0)), (5, .one (.n .i64 (16 + i2_)))], [(2, .own (.ints .u64 (List.replicate 80 0))), (3, .own (.ints .u64 (rwords_it2 b i2_)))]⟩) (fun (i2_ : Nat) => i2_ ≤ 64) (fun (i2_ : Nat) => 64 - i2_) 0 (by first | (with_reducible assumption) | omega | (simp only [lens, rwords_it1_l, rwords_it2_l, *]; first | done | omega) | decide | (split <;> simp only [lens, rwords_it1_l, rwords_it2_l, *]) | (with_reducible exact Lt.mono (by assumption) (by decide)) | (simp only [Cs.len]; done) | rfl) [] ⟨⟨rfl, rfl, rfl, trivial⟩, ⟨rfl, (hEq (congrArg (fun (s : List Nat) => s) (rwords_it2_z b)).symm), trivial⟩, rfl, rfl⟩ ?_
    intro i2_ k2_
    refine Holds.seq ?_
    refine Holds.seq ?_
    refine Holds.reg ?_
    refine OpsFrom.v (Y.move (up0 rfl rfl rfl) rfl rfl) rfl ?_
    refine OpsFrom.v (Y.lss (b := 80) (up0 rfl rfl rfl) rfl rfl rfl) rfl ?_
    refine OpsFrom.nil ?_
    refine Holds.condD rfl (fun h28 => ?_) (fun h28 => ?_)
    · refine Holds.skip ?_
      refine Holds.seq ?_
      refine Holds.block ?_
      refine Holds.seq ?_
      refine Holds.dr mx [([31], [36, 37, 38, 39, 42, 43, 44, 45, 46]), ([32], [36, 37, 38, 39, 42, 43, 44, 45, 46]), ([33], [36, 37, 38, 39, 42, 43, 44, 45, 46]), ([34], [36, 37, 38, 39, 42, 43, 44, 45, 46]), ([35], [36, 37, 38, 39, 42, 43, 44, 45, 46]), ([36], [31, 32, 33, 34, 35, 42, 43, 44, 45, 46]), ([37], [31, 32, 33, 34, 35, 42, 43, 44, 45, 46]), ([38], [31, 32, 33, 34, 35, 42, 43, 44, 45, 46]), ([39], [31, 32, 33, 34, 35, 42, 43, 44, 45, 46]), ([40], [42, 43, 44, 45, 46]), ([41], [42, 43, 44, 45, 46]), ([42], [31, 32, 33, 34, 35, 36, 37, 38, 39, 40, 41]), ([43], [31, 32, 33, 34, 35, 36, 37, 38, 39, 40, 41]), ([44], [31, 32, 33, 34, 35, 36, 37, 38, 39, 40, 41]), ([45], [31, 32, 33, 34, 35, 36, 37, 38, 39, 40, 41]), ([46], [31, 32, 33, 34, 35, 36, 37, 38, 39, 40, 41]), ([47], []), ([6], [])] (by kernel_rfl) ?_
      refine CertK.vd (Y.move (up0 rfl rfl rfl) rfl rfl) rfl rfl ?_
      refine CertK.vd (Y.subI (b := 15) (up0 rfl rfl rfl) rfl rfl rfl (by first | (with_reducible assumption) | omega | (simp only [lens, rwords_it1_l, rwords_it2_l, *]; first | done | omega) | decide | (split <;> simp only [lens, rwords_it1_l, rwords_it2_l, *]) | (with_reducible exact Lt.mono (by assumption) (by decide)) | (simp only [Cs.len]; done) | rfl) (by first | (with_reducible assumption) | omega | (simp only [lens, rwords_it1_l, rwords_it2_l, *]; first | done | omega) | decide | (split <;> simp only [lens, rwords_it1_l, rwords_it2_l, *]) | (with_reducible exact Lt.mono (by assumption) (by decide)) | (simp only [Cs.len]; done) | rfl)) rfl rfl ?_
      refine CertK.vd (Y.ia0 ty35 ty27 (up0 rfl rfl rfl) rfl rfl rfl (by first | (with_reducible assumption) | omega | (simp only [lens, rwords_it1_l, rwords_it2_l, *]; first | done | omega) | decide | (split <;> simp only [lens, rwords_it1_l, rwords_it2_l, *]) | (with_reducible exact Lt.mono (by assumption) (by decide)) | (simp only [Cs.len]; done) | rfl)) rfl rfl ?_
      refine CertK.vd (Y.ldI ty27 rfl (up0 rfl rfl rfl) rfl rfl rfl (by first | (with_reducible assumption) | omega | (simp only [lens, rwords_it1_l, rwords_it2_l, *]; first | done | omega) | decide | (split <;> simp only [lens, rwords_it1_l, rwords_it2_l, *]) | (with_reducible exact Lt.mono (by assumption) (by decide)) | (simp only [Cs.len]; done) | rfl)) rfl rfl ?_
      refine CertK.vd (Y.callV (w_rturn _ _ (by first | (with_reducible assumption) | omega | (simp only [lens, rwords_it1_l, rwords_it2_l, *]; first | done | omega) | decide | (split <;> simp only [lens, rwords_it1_l, rwords_it2_l, *]) | (with_reducible exact Lt.mono (by assumption) (by decide)) | (simp only [Cs.len]; done) | rfl)) fnok52 (up0 rfl rfl rfl) rfl rfl (.cons _ _ _ _ rfl (.cons _ _ (.one (.n .i64 1)) _ rfl .nil)) (.cons _ _ _ _ (.same _) (.cons _ _ _ _ (.same _) .nil)) rfl rfl) rfl rfl ?_
      refine CertK.vd (Y.move (up0 rfl rfl rfl) rfl rfl) rfl rfl ?_
      refine CertK.vd (Y.subI (b := 15) (up0 rfl rfl rfl) rfl rfl rfl (by first | (with_reducible assumption) | omega | (simp only [lens, rwords_it1_l, rwords_it2_l, *]; first | done | omega) | decide | (split <;> simp only [lens, rwords_it1_l, rwords_it2_l, *]) | (with_reducible exact Lt.mono (by assumption) (by decide)) | (simp only [Cs.len]; done) | rfl) (by first | (with_reducible assumption) | omega | (simp only [lens, rwords_it1_l, rwords_it2_l, *]; first | done | omega) | decide | (split <;> simp only [lens, rwords_it1_l, rwords_it2_l, *]) | (with_reducible exact Lt.mono (by assumption) (by decide)) | (simp only [Cs.len]; done) | rfl)) rfl rfl ?_
      refine CertK.vd (Y.ia0 ty35 ty27 (up0 rfl rfl rfl) rfl rfl rfl (by first | (with_reducible assumption) | omega | (simp only [lens, rwords_it1_l, rwords_it2_l, *]; first | done | omega) | decide | (split <;> simp only [lens, rwords_it1_l, rwords_it2_l, *]) | (with_reducible exact Lt.mono (by assumption) (by decide)) | (simp only [Cs.len]; done) | rfl)) rfl rfl ?_
      refine CertK.vd (Y.ldI ty27 rfl (up0 rfl rfl rfl) rfl rfl rfl (by first | (with_reducible assumption) | omega | (simp only [lens, rwords_it1_l, rwords_it2_l, *]; first | done | omega) | decide | (split <;> simp only [lens, rwords_it1_l, rwords_it2_l, *]) | (with_reducible exact Lt.mono (by assumption) (by decide)) | (simp only [Cs.len]; done) | rfl)) rfl rfl ?_
      refine CertK.vd (Y.callV (w_rturn _ _ (by first | (with_reducible assumption) | omega | (simp only [lens, rwords_it1_l, rwords_it2_l, *]; first | done | omega) | decide | (split <;> simp only [lens, rwords_it1_l, rwords_it2_l, *]) | (with_reducible exact Lt.mono (by assumption) (by decide)) | (simp only [Cs.len]; done) | rfl)) fnok52 (up0 rfl rfl rfl) rfl rfl (.cons _ _ _ _ rfl (.cons _ _ (.one (.n .i64 8)) _ rfl .nil)) (.cons _ _ _ _ (.same _) (.cons _ _ _ _ (.same _) .nil)) rfl rfl) rfl rfl ?_
      refine CertK.vd (Y.xor u64s u64m (up0 rfl rfl rfl) rfl rfl rfl) rfl rfl ?_
      refine CertK.vd (Y.move (up0 rfl rfl rfl) rfl rfl) rfl rfl ?_
      refine CertK.vd (Y.subI (b := 15) (up0 rfl rfl rfl) rfl rfl rfl (by first | (with_reducible assumption) | omega | (simp only [lens, rwords_it1_l, rwords_it2_l, *]; first | done | omega) | decide | (split <;> simp only [lens, rwords_it1_l, rwords_it2_l, *]) | (with_reducible exact Lt.mono (by assumption) (by decide)) | (simp only [Cs.len]; done) | rfl) (by first | (with_reducible assumption) | omega | (simp only [lens, rwords_it1_l, rwords_it2_l, *]; first | done | omega) | decide | (split <;> simp only [lens, rwords_it1_l, rwords_it2_l, *]) | (with_reducible exact Lt.mono (by assumption) (by decide)) | (simp only [Cs.len]; done) | rfl)) rfl rfl ?_
      refine CertK.vd (Y.ia0 ty35 ty27 (up0 rfl rfl rfl) rfl rfl rfl (by first | (with_reducible assumption) | omega | (simp only [lens, rwords_it1_l, rwords_it2_l, *]; first | done | omega) | decide | (split <;> simp only [lens, rwords_it1_l, rwords_it2_l, *]) | (with_reducible exact Lt.mono (by assumption) (by decide)) | (simp only [Cs.len]; done) | rfl)) rfl rfl ?_
      refine CertK.vd (Y.ldI ty27 rfl (up0 rfl rfl rfl) rfl rfl rfl (by first | (with_reducible assumption) | omega | (simp only [lens, rwords_it1_l, rwords_it2_l, *]; first | done | omega) | decide | (split <;> simp only [lens, rwords_it1_l, rwords_it2_l, *]) | (with_reducible exact Lt.mono (by assumption) (by decide)) | (simp only [Cs.len]; done) | rfl)) rfl rfl ?_
      refine CertK.vd (Y.shr (b := 7) u64s u64m (up0 rfl rfl rfl) rfl rfl rfl) rfl rfl ?_
      refine CertK.v (Y.xor u64s u64m (up0 rfl rfl rfl) rfl rfl rfl) rfl ?_
      refine CertK.v (Y.assign (up0 rfl rfl rfl) rfl rfl) rfl ?_
      refine CertK.nil ?_
      refine Holds.seq ?_
      refine Holds.dr mx [([48], [53, 54, 55, 56, 59, 60, 61, 62, 63]), ([49], [53, 54, 55, 56, 59, 60, 61, 62, 63]), ([50], [53, 54, 55, 56, 59, 60, 61, 62, 63]), ([51], [53, 54, 55, 56, 59, 60, 61, 62, 63]), ([52], [53, 54, 55, 56, 59, 60, 61, 62, 63]), ([53], [48, 49, 50, 51, 52, 59, 60, 61, 62, 63]), ([54], [48, 49, 50, 51, 52, 59, 60, 61, 62, 63]), ([55], [48, 49, 50, 51, 52, 59, 60, 61, 62, 63]), ([56], [48, 49, 50, 51, 52, 59, 60, 61, 62, 63]), ([57], [59, 60, 61, 62, 63]), ([58], [59, 60, 61, 62, 63]), ([59], [48, 49, 50, 51, 52, 53, 54, 55, 56, 57, 58]), ([60], [48, 49, 50, 51, 52, 53, 54, 55, 56, 57, 58]), ([61], [48, 49, 50, 51, 52, 53, 54, 55, 56, 57, 58]), ([62], [48, 49, 50, 51, 52, 53, 54, 55, 56, 57, 58]), ([63], [48, 49, 50, 51, 52, 53, 54, 55, 56, 57, 58]), ([64], []), ([7], [])] (by kernel_rfl) ?_
      refine CertK.vd (Y.move (up0 rfl rfl rfl) rfl rfl) rfl rfl ?_
      refine CertK.vd (Y.subI (b := 2) (up0 rfl rfl rfl) rfl rfl rfl (by first | (with_reducible assumption) | omega | (simp only [lens, rwords_it1_l, rwords_it2_l, *]; first | done | omega) | decide | (split <;> simp only [lens, rwords_it1_l, rwords_it2_l, *]) | (with_reducible exact Lt.mono (by assumption) (by decide)) | (simp only [Cs.len]; done) | rfl) (by first | (with_reducible assumption) | omega | (simp only [lens, rwords_it1_l, rwords_it2_l, *]; first | done | omega) | decide | (split <;> simp only [lens, rwords_it1_l, rwords_it2_l, *]) | (with_reducible exact Lt.mono (by assumption) (by decide)) | (simp only [Cs.len]; done) | rfl)) rfl rfl ?_
      refine CertK.vd (Y.ia0 ty35 ty27 (up0 rfl rfl rfl) rfl rfl rfl (by first | (with_reducible assumption) | omega | (simp only [lens, rwords_it1_l, rwords_it2_l, *]; first | done | omega) | decide | (split <;> simp only [lens, rwords_it1_l, rwords_it2_l, *]) | (with_reducible exact Lt.mono (by assumption) (by decide)) | (simp only [Cs.len]; done) | rfl)) rfl rfl ?_
      refine CertK.vd (Y.ldI ty27 rfl (up0 rfl rfl rfl) rfl rfl rfl (by first | (with_reducible assumption) | omega | (simp only [lens, rwords_it1_l, rwords_it2_l, *]; first | done | omega) | decide | (split <;> simp only [lens, rwords_it1_l, rwords_it2_l, *]) | (with_reducible exact Lt.mono (by assumption) (by decide)) | (simp only [Cs.len]; done) | rfl)) rfl rfl ?_
      refine CertK.vd (Y.callV (w_rturn _ _ (by first | (with_reducible assumption) | omega | (simp only [lens, rwords_it1_l, rwords_it2_l, *]; first | done | omega) | decide | (split <;> simp only [lens, rwords_it1_l, rwords_it2_l, *]) | (with_reducible exact Lt.mono (by assumption) (by decide)) | (simp only [Cs.len]; done) | rfl)) fnok52 (up0 rfl rfl rfl) rfl rfl (.cons _ _ _ _ rfl (.cons _ _ (.one (.n .i64 19)) _ rfl .nil)) (.cons _ _ _ _ (.same _) (.cons _ _ _ _ (.same _) .nil)) rfl rfl) rfl rfl ?_
      refine CertK.vd (Y.move (up0 rfl rfl rfl) rfl rfl) rfl rfl ?_
      refine CertK.vd (Y.subI (b := 2) (up0 rfl rfl rfl) rfl rfl rfl (by first | (with_reducible assumption) | omega | (simp only [lens, rwords_it1_l, rwords_it2_l, *]; first | done | omega) | decide | (split <;> simp only [lens, rwords_it1_l, rwords_it2_l, *]) | (with_reducible exact Lt.mono (by assumption) (by decide)) | (simp only [Cs.len]; done) | rfl) (by first | (with_reducible assumption) | omega | (simp only [lens, rwords_it1_l, rwords_it2_l, *]; first | done | omega) | decide | (split <;> simp only [lens, rwords_it1_l, rwords_it2_l, *]) | (with_reducible exact Lt.mono (by assumption) (by decide)) | (simp only [Cs.len]; done) | rfl)) rfl rfl ?_
      refine CertK.vd (Y.ia0 ty35 ty27 (up0 rfl rfl rfl) rfl rfl rfl (by first | (with_reducible assumption) | omega | (simp only [lens, rwords_it1_l, rwords_it2_l, *]; first | done | omega) | decide | (split <;> simp only [lens, rwords_it1_l, rwords_it2_l, *]) | (with_reducible exact Lt.mono (by assumption) (by decide)) | (simp only [Cs.len]; done) | rfl)) rfl rfl ?_
      refine CertK.vd (Y.ldI ty27 rfl (up0 rfl rfl rfl) rfl rfl rfl (by first | (with_reducible assumption) | omega | (simp only [lens, rwords_it1_l, rwords_it2_l, *]; first | done | omega) | decide | (split <;> simp only [lens, rwords_it1_l, rwords_it2_l, *]) | (with_reducible exact Lt.mono (by assumption) (by decide)) | (simp only [Cs.len]; done) | rfl)) rfl rfl ?_
      refine CertK.vd (Y.callV (w_rturn _ _ (by first | (with_reducible assumption) | omega | (simp only [lens, rwords_it1_l, rwords_it2_l, *]; first | done | omega) | decide | (split <;> simp only [lens, rwords_it1_l, rwords_it2_l, *]) | (with_reducible exact Lt.mono (by assumption) (by decide)) | (simp only [Cs.len]; done) | rfl)) fnok52 (up0 rfl rfl rfl) rfl rfl (.cons _ _ _ _ rfl (.cons _ _ (.one (.n .i64 61)) _ rfl .nil)) (.cons _ _ _ _ (.same _) (.cons _ _ _ _ (.same _) .nil)) rfl rfl) rfl rfl ?_
      refine CertK.vd (Y.xor u64s u64m (up0 rfl rfl rfl) rfl rfl rfl) rfl rfl ?_
      refine CertK.vd (Y.move (up0 rfl rfl rfl) rfl rfl) rfl rfl ?_
      refine CertK.vd (Y.subI (b := 2) (up0 rfl rfl rfl) rfl rfl rfl (by first | (with_reducible assumption) | omega | (simp only [lens, rwords_it1_l, rwords_it2_l, *]; first | done | omega) | decide | (split <;> simp only [lens, rwords_it1_l, rwords_it2_l, *]) | (with_reducible exact Lt.mono (by assumption) (by decide)) | (simp only [Cs.len]; done) | rfl) (by first | (with_reducible assumption) | omega | (simp only [lens, rwords_it1_l, rwords_it2_l, *]; first | done | omega) | decide | (split <;> simp only [lens, rwords_it1_l, rwords_it2_l, *]) | (with_reducible exact Lt.mono (by assumption) (by decide)) | (simp only [Cs.len]; done) | rfl)) rfl rfl ?_
      refine CertK.vd (Y.ia0 ty35 ty27 (up0 rfl rfl rfl) rfl rfl rfl (by first | (with_reducible assumption) | omega | (simp only [lens, rwords_it1_l, rwords_it2_l, *]; first | done | omega) | decide | (split <;> simp only [lens, rwords_it1_l, rwords_it2_l, *]) | (with_reducible exact Lt.mono (by assumption) (by decide)) | (simp only [Cs.len]; done) | rfl)) rfl rfl ?_
      refine CertK.vd (Y.ldI ty27 rfl (up0 rfl rfl rfl) rfl rfl rfl (by first | (with_reducible assumption) | omega | (simp only [lens, rwords_it1_l, rwords_it2_l, *]; first | done | omega) | decide | (split <;> simp only [lens, rwords_it1_l, rwords_it2_l, *]) | (with_reducible exact Lt.mono (by assumption) (by decide)) | (simp only [Cs.len]; done) | rfl)) rfl rfl ?_
      refine CertK.vd (Y.shr (b := 6) u64s u64m (up0 rfl rfl rfl) rfl rfl rfl) rfl rfl ?_
      refine CertK.v (Y.xor u64s u64m (up0 rfl rfl rfl) rfl rfl rfl) rfl ?_
      refine CertK.v (Y.assign (up0 rfl rfl rfl) rfl rfl) rfl ?_
      refine CertK.nil ?_
      refine Holds.dr mx [([65], [66, 67, 68, 69, 70, 71, 72, 73, 74, 75, 76, 77, 78]), ([66], [65, 70, 71, 72, 73, 75, 77]), ([67], [65, 70, 71, 72, 73, 75, 77]), ([68], [65, 70, 71, 72, 73, 75, 77]), ([69], [65, 70, 71, 72, 73, 75, 77]), ([70], [65, 66, 67, 68, 69, 75, 77]), ([71], [65, 66, 67, 68, 69, 75, 77]), ([72], [65, 66, 67, 68, 69, 75, 77]), ([73], [65, 66, 67, 68, 69, 75, 77]), ([74], [65, 75, 77]), ([75], [65, 66, 67, 68, 69, 70, 71, 72, 73, 74, 77]), ([76], [65, 77]), ([77], [65, 66, 67, 68, 69, 70, 71, 72, 73, 74, 75, 76]), ([78], [65]), ([79], []), ([3], [])] (by kernel_rfl) ?_
      refine CertK.vd (Y.move (up0 rfl rfl rfl) rfl rfl) rfl rfl ?_
      refine CertK.vd (Y.move (up0 rfl rfl rfl) rfl rfl) rfl rfl ?_
      refine CertK.vd (Y.subI (b := 16) (up0 rfl rfl rfl) rfl rfl rfl (by first | (with_reducible assumption) | omega | (simp only [lens, rwords_it1_l, rwords_it2_l, *]; first | done | omega) | decide | (split <;> simp only [lens, rwords_it1_l, rwords_it2_l, *]) | (with_reducible exact Lt.mono (by assumption) (by decide)) | (simp only [Cs.len]; done) | rfl) (by first | (with_reducible assumption) | omega | (simp only [lens, rwords_it1_l, rwords_it2_l, *]; first | done | omega) | decide | (split <;> simp only [lens, rwords_it1_l, rwords_it2_l, *]) | (with_reducible exact Lt.mono (by assumption) (by decide)) | (simp only [Cs.len]; done) | rfl)) rfl rfl ?_
      refine CertK.vd (Y.ia0 ty35 ty27 (up0 rfl rfl rfl) rfl rfl rfl (by first | (with_reducible assumption) | omega | (simp only [lens, rwords_it1_l, rwords_it2_l, *]; first | done | omega) | decide | (split <;> simp only [lens, rwords_it1_l, rwords_it2_l, *]) | (with_reducible exact Lt.mono (by assumption) (by decide)) | (simp only [Cs.len]; done) | rfl)) rfl rfl ?_
      refine CertK.vd (Y.ldI ty27 rfl (up0 rfl rfl rfl) rfl rfl rfl (by first | (with_reducible assumption) | omega | (simp only [lens, rwords_it1_l, rwords_it2_l, *]; first | done | omega) | decide | (split <;> simp only [lens, rwords_it1_l, rwords_it2_l, *]) | (with_reducible exact Lt.mono (by assumption) (by decide)) | (simp only [Cs.len]; done) | rfl)) rfl rfl ?_
      refine CertK.vd (Y.move (up0 rfl rfl rfl) rfl rfl) rfl rfl ?_
      refine CertK.vd (Y.subI (b := 7) (up0 rfl rfl rfl) rfl rfl rfl (by first | (with_reducible assumption) | omega | (simp only [lens, rwords_it1_l, rwords_it2_l, *]; first | done | omega) | decide | (split <;> simp only [lens, rwords_it1_l, rwords_it2_l, *]) | (with_reducible exact Lt.mono (by assumption) (by decide)) | (simp only [Cs.len]; done) | rfl) (by first | (with_reducible assumption) | omega | (simp only [lens, rwords_it1_l, rwords_it2_l, *]; first | done | omega) | decide | (split <;> simp only [lens, rwords_it1_l, rwords_it2_l, *]) | (with_reducible exact Lt.mono (by assumption) (by decide)) | (simp only [Cs.len]; done) | rfl)) rfl rfl ?_
      refine CertK.vd (Y.ia0 ty35 ty27 (up0 rfl rfl rfl) rfl rfl rfl (by first | (with_reducible assumption) | omega | (simp only [lens, rwords_it1_l, rwords_it2_l, *]; first | done | omega) | decide | (split <;> simp only [lens, rwords_it1_l, rwords_it2_l, *]) | (with_reducible exact Lt.mono (by assumption) (by decide)) | (simp only [Cs.len]; done) | rfl)) rfl rfl ?_
      refine CertK.vd (Y.ldI ty27 rfl (up0 rfl rfl rfl) rfl rfl rfl (by first | (with_reducible assumption) | omega | (simp only [lens, rwords_it1_l, rwords_it2_l, *]; first | done | omega) | decide | (split <;> simp only [lens, rwords_it1_l, rwords_it2_l, *]) | (with_reducible exact Lt.mono (by assumption) (by decide)) | (simp only [Cs.len]; done) | rfl)) rfl rfl ?_
      refine CertK.vd (Y.add u64s u64m (up0 rfl rfl rfl) rfl rfl rfl) rfl rfl ?_
      refine CertK.vd (Y.move (up0 rfl rfl rfl) rfl rfl) rfl rfl ?_
      refine CertK.vd (Y.add u64s u64m (up0 rfl rfl rfl) rfl rfl rfl) rfl rfl ?_
      refine CertK.vd (Y.move (up0 rfl rfl rfl) rfl rfl) rfl rfl ?_
      refine CertK.vd (Y.add u64s u64m (up0 rfl rfl rfl) rfl rfl rfl) rfl rfl ?_
      refine CertK.v (Y.ia0 ty35 ty27 (up0 rfl rfl rfl) rfl rfl rfl (by first | (with_reducible assumption) | omega | (simp only [lens, rwords_it1_l, rwords_it2_l, *]; first | done | omega) | decide | (split <;> simp only [lens, rwords_it1_l, rwords_it2_l, *]) | (with_reducible exact Lt.mono (by assumption) (by decide)) | (simp only [Cs.len]; done) | rfl)) rfl ?_
      refine CertK.n (Y.stI ty27 (upN rfl rfl) rfl rfl rfl rfl (by first | (with_reducible assumption) | omega | (simp only [lens, rwords_it1_l, rwords_it2_l, *]; first | done | omega) | decide | (split <;> simp only [lens, rwords_it1_l, rwords_it2_l, *]) | (with_reducible exact Lt.mono (by assumption) (by decide)) | (simp only [Cs.len]; done) | rfl)) rfl rfl rfl rfl ?_
      refine CertK.nil ?_
      refine Holds.reg ?_
      refine OpsFrom.v (Y.move (up0 rfl rfl rfl) rfl rfl) rfl ?_
      refine OpsFrom.v (Y.addI (b := 1) (up0 rfl rfl rfl) rfl rfl rfl (by first | (with_reducible assumption) | omega | (simp only [lens, rwords_it1_l, rwords_it2_l, *]; first | done | omega) | decide | (split <;> simp only [lens, rwords_it1_l, rwords_it2_l, *]) | (with_reducible exact Lt.mono (by assumption) (by decide)) | (simp only [Cs.len]; done) | rfl)) rfl ?_
      refine OpsFrom.v (Y.assign (up0 rfl rfl rfl) rfl rfl) rfl ?_
      refine OpsFrom.nil ?_
      exact Holds.again (i2_ + 1) (by omega) (by omega) [] ⟨⟨rfl, rfl, (nEq (by omega)), trivial⟩, ⟨rfl, (hEq (by rw [rwords_it2_s]; unfold rwords_s2; first | (dsimp only; done) | rfl)), trivial⟩, rfl, rfl⟩
    · obtain rfl : i2_ = 64 := by omega
      refine Holds.exit ?_
      refine Holds.seq ?_
      refine Holds.reg ?_
      refine OpsFrom.v (Y.ldAll ty35 rfl (up0 rfl rfl rfl) rfl rfl rfl (by first | (with_reducible assumption) | omega | (simp only [lens, rwords_it1_l, rwords_it2_l, *]; first | done | omega) | decide | (split <;> simp only [lens, rwords_it1_l, rwords_it2_l, *]) | (with_reducible exact Lt.mono (by assumption) (by decide)) | (simp only [Cs.len]; done) | rfl) (by decide)) rfl ?_
      refine OpsFrom.n (Y.stR ty35 (upN rfl rfl) rfl rfl rfl rfl rfl (by first | (with_reducible assumption) | omega | (simp only [lens, rwords_it1_l, rwords_it2_l, *]; first | done | omega) | decide | (split <;> simp only [lens, rwords_it1_l, rwords_it2_l, *]) | (with_reducible exact Lt.mono (by assumption) (by decide)) | (simp only [Cs.len]; done) | rfl) (by first | (with_reducible assumption) | omega | (simp only [lens, rwords_it1_l, rwords_it2_l, *]; first | done | omega) | decide | (split <;> simp only [lens, rwords_it1_l, rwords_it2_l, *]) | (with_reducible exact Lt.mono (by assumption) (by decide)) | (simp only [Cs.len]; done) | rfl) (by decide)) rfl rfl ?_
      refine OpsFrom.nil ?_
      refine Holds.ret ?_
      exact Holds.ret1 (.inl rfl) rfl (.rowN rfl rfl ty35 rfl (by first | (with_reducible assumption) | omega | (simp only [lens, rwords_it1_l, rwords_it2_l, *]; first | done | omega) | decide | (split <;> simp only [lens, rwords_it1_l, rwords_it2_l, *]) | (with_reducible exact Lt.mono (by assumption) (by decide)) | (simp only [Cs.len]; done) | rfl) (by decide)) (.same _) rfl

theorem rwords_l (b : List Nat) : (rwords b).length = 80 := by unfold rwords; rw [rwords_it2_l, rwords_it1_l]; rfl
attribute [irreducible] rwords

end Go.Proofs.Ytjgcmfedofmkpaa
