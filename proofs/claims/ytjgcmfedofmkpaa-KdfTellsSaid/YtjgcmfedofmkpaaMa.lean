/-
  Walks: the key of a code.
-/
import Derived.Test.YtjgcmfedofmkpaaLa
import Derived.Test.YtjgcmfedofmkpaaSk
namespace Go.Proofs.Ytjgcmfedofmkpaa
open Go Go.Fx
set_option linter.unusedVariables false
set_option linter.unusedSimpArgs false
def mpad_s1 (v : Nat) (key : List Nat) (i1_ : Nat) (m1_ : List Nat) : List Nat :=
  m1_.set i1_ ((m1_.getD i1_ 0) ^^^ v)
def mpad_it1 (v : Nat) (key : List Nat) (i1_ : Nat) : List Nat := iter (mpad_s1 v key) i1_ ((List.replicate 128 0).take 0 ++ key ++ (List.replicate 128 0).drop (0 + key.length))
theorem mpad_it1_z (v : Nat) (key : List Nat) : mpad_it1 v key 0 = ((List.replicate 128 0).take 0 ++ key ++ (List.replicate 128 0).drop (0 + key.length)) := rfl
theorem mpad_it1_s (v : Nat) (key : List Nat) (i1_ : Nat) : mpad_it1 v key (i1_ + 1) = mpad_s1 v key i1_ (mpad_it1 v key i1_) := by unfold mpad_it1; exact iterS _ _ _
theorem mpad_n (v : Nat) {key : List Nat} (h : key.length ≤ 128) : ∀ i, (mpad_it1 v key i).length = 128
  | 0 => by
    rw [mpad_it1_z]
    simp
    omega
  | i + 1 => by
    rw [mpad_it1_s]
    unfold mpad_s1
    simp [mpad_n v h i]
def mpad (v : Nat) (key : List Nat) : List Nat :=
  (mpad_it1 v key 128)
theorem mpad_l (v : Nat) {key : List Nat} (h : key.length ≤ 128) : (mpad v key).length = 128 := by unfold mpad; exact mpad_n v h 128
theorem w_mpad (v : Nat) (key : List Nat) (h_key : key.length ≤ 128) : VF Try.prog 45 [.one (.n .u8 v), .one (.pcb key)] (.one (.sg 0 0 ((mpad v key)).length)) .u8 ((mpad v key)) := by
  refine VF.go Try.func45 rfl Try.ntmps45 rfl rfl fun O w => ?_
  refine Holds.seq ?_
  refine Holds.reg ?_
  refine OpsFrom.v (Y.assign (up0 rfl rfl rfl) rfl rfl) rfl ?_
  refine OpsFrom.nil ?_
  refine Holds.seq ?_
  refine Holds.reg ?_
  refine OpsFrom.u (Y.alloc (d := 4) ty69 rfl rfl (up0 rfl rfl rfl) rfl) rfl rfl rfl ?_
  refine OpsFrom.nil ?_
  refine Holds.seq ?_
  refine Holds.dr mx [([6], [7]), ([7], [6]), ([8, 4], [])] (by kernel_rfl) ?_
  refine CertK.vd (Y.slArr0 ty69 ty5 (up0 rfl rfl rfl) rfl rfl rfl (by first | (with_reducible assumption) | omega | (simp only [lens, *]; first | done | omega) | decide | (split <;> simp only [lens, *]) | (with_reducible exact Lt.mono (by assumption) (by decide)) | (simp only [Cs.len]; done) | rfl) bnd0 bnd0 (by first | (with_reducible assumption) | omega | (simp only [lens, *]; first | done | omega) | decide | (split <;> simp only [lens, *]) | (with_reducible exact Lt.mono (by assumption) (by decide)) | (simp only [Cs.len]; done) | rfl) (by first | (with_reducible assumption) | omega | (simp only [lens, *]; first | done | omega) | decide | (split <;> simp only [lens, *]) | (with_reducible exact Lt.mono (by assumption) (by decide)) | (simp only [Cs.len]; done) | rfl)) rfl rfl ?_
  refine CertK.vd (Y.ldPcb ty22 rfl (up0 rfl rfl rfl) rfl rfl) rfl rfl ?_
  refine CertK.u (Y.cpy ty22 ty5 (up0 rfl rfl rfl) rfl rfl rfl rfl (by first | (with_reducible assumption) | omega | (simp only [lens, *]; first | done | omega) | decide | (split <;> simp only [lens, *]) | (with_reducible exact Lt.mono (by assumption) (by decide)) | (simp only [Cs.len]; done) | rfl) rfl (.bs _ _ _) (by first | (with_reducible assumption) | omega | (simp only [lens, *]; first | done | omega) | decide | (split <;> simp only [lens, *]) | (with_reducible exact Lt.mono (by assumption) (by decide)) | (simp only [Cs.len]; done) | rfl) (Spl.r (by first | (with_reducible assumption) | omega | (simp only [lens, *]; first | done | omega) | decide | (split <;> simp only [lens, *]) | (with_reducible exact Lt.mono (by assumption) (by decide)) | (simp only [Cs.len]; done) | rfl)) rfl) rfl rfl rfl rfl rfl ?_
  refine CertK.nil ?_
  refine Holds.seq ?_
  refine Holds.seq ?_
  refine Holds.reg ?_
  refine OpsFrom.v (Y.move (v := (.one (.n .i64 0))) (up0 rfl rfl rfl) rfl rfl) rfl ?_
  refine OpsFrom.nil ?_
  refine Holds.block ?_
  refine Holds.loop (fun (i1_ : Nat) => ⟨[(0, .one (.n .u8 v)), (3, .one (.nil)), (4, .one (.p 4 0)), (9, .one (.n .i64 i1_))], [(4, .own (.ints .u8 (mpad_it1 v key i1_)))]⟩) (fun (i1_ : Nat) => i1_ ≤ 128) (fun (i1_ : Nat) => 128 - i1_) 0 (by first | (with_reducible assumption) | omega | (simp only [lens, *]; first | done | omega) | decide | (split <;> simp only [lens, *]) | (with_reducible exact Lt.mono (by assumption) (by decide)) | (simp only [Cs.len]; done) | rfl) [] ⟨⟨rfl, rfl, rfl, rfl, trivial⟩, ⟨(hEq (congrArg (fun (s : List Nat) => s) (mpad_it1_z v key)).symm), trivial⟩, rfl, rfl⟩ ?_
  intro i1_ k1_
  have hn := mpad_n v h_key i1_
  refine Holds.seq ?_
  refine Holds.reg ?_
  refine OpsFrom.v (Y.lss (b := 128) (up0 rfl rfl rfl) rfl rfl rfl) rfl ?_
  refine OpsFrom.nil ?_
  refine Holds.seq ?_
  refine Holds.condD rfl (fun h10 => ?_) (fun h10 => ?_)
  · refine Holds.skip ?_
    refine Holds.seq ?_
    refine Holds.block ?_
    refine Holds.seq ?_
    refine Holds.reg ?_
    refine OpsFrom.v (Y.move (up0 rfl rfl rfl) rfl rfl) rfl ?_
    refine OpsFrom.v (Y.assign (up0 rfl rfl rfl) rfl rfl) rfl ?_
    refine OpsFrom.nil ?_
    refine Holds.reg ?_
    refine OpsFrom.v (Y.move (up0 rfl rfl rfl) rfl rfl) rfl ?_
    refine OpsFrom.v (Y.ia0 ty69 ty5 (up0 rfl rfl rfl) rfl rfl rfl (by first | (with_reducible assumption) | omega | (simp only [lens, *]; first | done | omega) | decide | (split <;> simp only [lens, *]) | (with_reducible exact Lt.mono (by assumption) (by decide)) | (simp only [Cs.len]; done) | rfl)) rfl ?_
    refine OpsFrom.v (Y.ldI ty5 rfl (up0 rfl rfl rfl) rfl rfl rfl (by first | (with_reducible assumption) | omega | (simp only [lens, *]; first | done | omega) | decide | (split <;> simp only [lens, *]) | (with_reducible exact Lt.mono (by assumption) (by decide)) | (simp only [Cs.len]; done) | rfl)) rfl ?_
    refine OpsFrom.v (Y.move (up0 rfl rfl rfl) rfl rfl) rfl ?_
    refine OpsFrom.v (Y.xor u8s u8m (up0 rfl rfl rfl) rfl rfl rfl) rfl ?_
    refine OpsFrom.v (Y.ia0 ty69 ty5 (up0 rfl rfl rfl) rfl rfl rfl (by first | (with_reducible assumption) | omega | (simp only [lens, *]; first | done | omega) | decide | (split <;> simp only [lens, *]) | (with_reducible exact Lt.mono (by assumption) (by decide)) | (simp only [Cs.len]; done) | rfl)) rfl ?_
    refine OpsFrom.n (Y.stI ty5 (upN rfl rfl) rfl rfl rfl rfl (by first | (with_reducible assumption) | omega | (simp only [lens, *]; first | done | omega) | decide | (split <;> simp only [lens, *]) | (with_reducible exact Lt.mono (by assumption) (by decide)) | (simp only [Cs.len]; done) | rfl)) rfl rfl ?_
    refine OpsFrom.nil ?_
    refine Holds.reg ?_
    refine OpsFrom.v (Y.addI (b := 1) (up0 rfl rfl rfl) rfl rfl rfl (by first | (with_reducible assumption) | omega | (simp only [lens, *]; first | done | omega) | decide | (split <;> simp only [lens, *]) | (with_reducible exact Lt.mono (by assumption) (by decide)) | (simp only [Cs.len]; done) | rfl)) rfl ?_
    refine OpsFrom.v (Y.move (up0 rfl rfl rfl) rfl rfl) rfl ?_
    refine OpsFrom.nil ?_
    exact Holds.again (i1_ + 1) (by omega) (by omega) [] ⟨⟨rfl, rfl, rfl, (nEq (by omega)), trivial⟩, ⟨(hEq (by rw [mpad_it1_s]; unfold mpad_s1; first | (dsimp only; done) | rfl)), trivial⟩, rfl, rfl⟩
  · obtain rfl : i1_ = 128 := by omega
    have hn := mpad_n v h_key 128
    refine Holds.exit ?_
    refine Holds.seq ?_
    refine Holds.reg ?_
    refine OpsFrom.v (Y.slArr0 ty69 ty5 (up0 rfl rfl rfl) rfl rfl rfl (by first | (with_reducible assumption) | omega | (simp only [lens, *]; first | done | omega) | decide | (split <;> simp only [lens, *]) | (with_reducible exact Lt.mono (by assumption) (by decide)) | (simp only [Cs.len]; done) | rfl) bnd0 bnd0 (by first | (with_reducible assumption) | omega | (simp only [lens, *]; first | done | omega) | decide | (split <;> simp only [lens, *]) | (with_reducible exact Lt.mono (by assumption) (by decide)) | (simp only [Cs.len]; done) | rfl) (by first | (with_reducible assumption) | omega | (simp only [lens, *]; first | done | omega) | decide | (split <;> simp only [lens, *]) | (with_reducible exact Lt.mono (by assumption) (by decide)) | (simp only [Cs.len]; done) | rfl)) rfl ?_
    refine OpsFrom.v (Y.assign (up0 rfl rfl rfl) rfl rfl) rfl ?_
    refine OpsFrom.nil ?_
    refine Holds.ret ?_
    exact Holds.retF (id := 4) (.inl rfl) rfl (.one _ _ (.tmp _ _ rfl)) (congrArg (fun n => AV.one (SV.sg 4 0 n)) (mpad_l v h_key)) rfl (by first | rfl | (unfold mpad; rfl))

attribute [irreducible] mpad

end Go.Proofs.Ytjgcmfedofmkpaa
