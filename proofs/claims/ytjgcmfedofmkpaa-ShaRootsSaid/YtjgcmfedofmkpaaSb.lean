/-
  Walks: a new state.
-/
import Derived.Test.YtjgcmfedofmkpaaWd
import Derived.Test.YtjgcmfedofmkpaaSa
namespace Go.Proofs.Ytjgcmfedofmkpaa
open Go Go.Fx
set_option linter.unusedVariables false
set_option linter.unusedSimpArgs false
theorem sK_l : sK.length = 80 := by unfold sK; rfl
def snew  : St :=
  let v1_ : List Nat := ((((((((List.replicate 8 0).set 0 7640891576956012808).set 1 13503953896175478587).set 2 4354685564936845355).set 3 11912009170470909681).set 4 5840696475078001361).set 5 11170449401992604703).set 6 2270897969802886507).set 7 6620516959819538809
  (⟨true, v1_, 0, []⟩ : St)
theorem w_snew   : VC Try.prog 22 [] (.row (.mix (St.cells snew))) := by
  refine VC.go Try.func22 rfl Try.ntmps22 rfl rfl fun O w => ?_
  refine Holds.seq ?_
  refine Holds.reg ?_
  refine OpsFrom.u (Y.alloc (d := 0) ty30 rfl rfl (up0 rfl rfl rfl) rfl) rfl rfl rfl ?_
  refine OpsFrom.nil ?_
  refine Holds.seq ?_
  refine Holds.reg ?_
  refine OpsFrom.v (Y.buildA ty28 ty27 rfl (up0 rfl rfl rfl) rfl (.cons _ _ _ _ _ _ (.one (.n .u64 7640891576956012808)) _ _ rfl rfl rfl rfl (Spl.n (by first | decide | (simp; done))) (.cons _ _ _ _ _ _ (.one (.n .u64 13503953896175478587)) _ _ rfl rfl rfl rfl (Spl.n (by first | decide | (simp; done))) (.cons _ _ _ _ _ _ (.one (.n .u64 4354685564936845355)) _ _ rfl rfl rfl rfl (Spl.n (by first | decide | (simp; done))) (.cons _ _ _ _ _ _ (.one (.n .u64 11912009170470909681)) _ _ rfl rfl rfl rfl (Spl.n (by first | decide | (simp; done))) (.cons _ _ _ _ _ _ (.one (.n .u64 5840696475078001361)) _ _ rfl rfl rfl rfl (Spl.n (by first | decide | (simp; done))) (.cons _ _ _ _ _ _ (.one (.n .u64 11170449401992604703)) _ _ rfl rfl rfl rfl (Spl.n (by first | decide | (simp; done))) (.cons _ _ _ _ _ _ (.one (.n .u64 2270897969802886507)) _ _ rfl rfl rfl rfl (Spl.n (by first | decide | (simp; done))) (.cons _ _ _ _ _ _ (.one (.n .u64 6620516959819538809)) _ _ rfl rfl rfl rfl (Spl.n (by first | decide | (simp; done))) (.nil _)))))))))) rfl ?_
  refine OpsFrom.v (Y.buildSt [(0, 1), (1, 8), (9, 1), (10, 1)] ⟨true, (((((((((List.replicate 8 0).set 0 7640891576956012808).set 1 13503953896175478587).set 2 4354685564936845355).set 3 11912009170470909681).set 4 5840696475078001361).set 5 11170449401992604703).set 6 2270897969802886507).set 7 6620516959819538809), 0, []⟩ rfl ty30 rfl (by kernel_rfl) (up0 rfl rfl rfl) rfl (.cons _ _ _ _ _ _ (.one (.b true)) _ _ rfl rfl rfl rfl (Spl.m (by first | decide | (simp; done))) (.cons _ _ _ _ _ _ _ _ _ rfl rfl rfl rfl (St.splRow (by first | (with_reducible assumption) | omega | (simp only [lens, *]; first | done | omega) | decide | (split <;> simp only [lens, *]) | (with_reducible exact Lt.mono (by assumption) (by decide)) | (simp only [Cs.len]; done) | rfl)) (.nil _)))) rfl ?_
  refine OpsFrom.n (Y.stR ty30 (upN rfl rfl) rfl rfl rfl rfl rfl rfl rfl (by decide)) rfl rfl ?_
  refine OpsFrom.nil ?_
  refine Holds.ret ?_
  exact Holds.ret1 (.inl rfl) rfl (.rowN rfl rfl ty30 rfl (by first | (with_reducible assumption) | omega | (simp only [lens, *]; first | done | omega) | decide | (split <;> simp only [lens, *]) | (with_reducible exact Lt.mono (by assumption) (by decide)) | (simp only [Cs.len]; done) | rfl) (by decide)) (.same _) rfl

theorem snew_l : snew.h.length = 8 := by unfold snew; rfl
theorem snew_r : snew.r = [] := by unfold snew; rfl
theorem snew_b : snew.b = true := by unfold snew; rfl
theorem snew_n : snew.n = 0 := by unfold snew; rfl
attribute [irreducible] snew

end Go.Proofs.Ytjgcmfedofmkpaa
