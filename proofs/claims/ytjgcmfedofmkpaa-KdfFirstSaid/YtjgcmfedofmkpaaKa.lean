/-
  Walks: Extract.
-/
import Derived.Test.YtjgcmfedofmkpaaMe
namespace Go.Proofs.Ytjgcmfedofmkpaa
open Go Go.Fx
set_option linter.unusedVariables false
set_option linter.unusedSimpArgs false
def kext (salt : List Nat) (key : List Nat) : List Nat :=
  (mac salt [key])
theorem kext_len (salt : List Nat) (key : List Nat)  : ((kext salt key)).length = 64 := by
  unfold kext
  first | (simp [mac_l]; done) | (simp [*, mac_l]; done) | (dsimp only; (repeat' split) <;> simp [*, mac_l])
theorem w_kext (salt : List Nat) (key : List Nat) (h_salt : salt.length ≤ 524288) (h_key : key.length ≤ 524288) : VC Try.prog 37 [.one (.bs false .u8 salt), .one (.bs false .u8 key)] (.row (.ints .u8 (kext salt key))) := by
  refine VC.go Try.func37 rfl Try.ntmps37 rfl rfl fun O w => ?_
  refine Holds.seq ?_
  refine Holds.reg ?_
  refine OpsFrom.u (Y.alloc (d := 4) ty24 rfl rfl (up0 rfl rfl rfl) rfl) rfl rfl rfl ?_
  refine OpsFrom.nil ?_
  refine Holds.seq ?_
  refine Holds.reg ?_
  refine OpsFrom.v (Y.move (up0 rfl rfl rfl) rfl rfl) rfl ?_
  refine OpsFrom.v (Y.move (up0 rfl rfl rfl) rfl rfl) rfl ?_
  refine OpsFrom.u (Y.bldS (d := 7) ty43 ty22 rfl (up0 rfl rfl rfl) rfl (.mix (List.replicate 1 (.nil))) rfl rfl rfl rfl (by decide) (by decide) (.cons _ _ _ _ _ _ _ _ _ rfl rfl rfl rfl (Spl.m (by first | decide | (simp; done))) (.nil _))) rfl rfl rfl ?_
  refine OpsFrom.v (Y.callV (w_mac _ _ (by first | (with_reducible assumption) | omega | (simp only [lens, mac_l, List.flatten_cons, List.flatten_nil, List.append_nil, List.length_cons, List.length_nil, Cs.len, List.length_map, List.length_set, List.length_replicate, *]; first | done | omega) | decide | (split <;> simp only [lens, mac_l, List.flatten_cons, List.flatten_nil, List.append_nil, List.length_cons, List.length_nil, Cs.len, List.length_map, List.length_set, List.length_replicate, *]) | (with_reducible exact Lt.mono (by assumption) (by decide)) | (simp only [Cs.len]; done) | rfl) (by first | (with_reducible assumption) | omega | (simp only [lens, mac_l, List.flatten_cons, List.flatten_nil, List.append_nil, List.length_cons, List.length_nil, Cs.len, List.length_map, List.length_set, List.length_replicate, *]; first | done | omega) | decide | (split <;> simp only [lens, mac_l, List.flatten_cons, List.flatten_nil, List.append_nil, List.length_cons, List.length_nil, Cs.len, List.length_map, List.length_set, List.length_replicate, *]) | (with_reducible exact Lt.mono (by assumption) (by decide)) | (simp only [Cs.len]; done) | rfl) (by first | (with_reducible assumption) | omega | (simp only [lens, mac_l, List.flatten_cons, List.flatten_nil, List.append_nil, List.length_cons, List.length_nil, Cs.len, List.length_map, List.length_set, List.length_replicate, *]; first | done | omega) | decide | (split <;> simp only [lens, mac_l, List.flatten_cons, List.flatten_nil, List.append_nil, List.length_cons, List.length_nil, Cs.len, List.length_map, List.length_set, List.length_replicate, *]) | (with_reducible exact Lt.mono (by assumption) (by decide)) | (simp only [Cs.len]; done) | rfl)) fnok31 (up0 rfl rfl rfl) rfl rfl (.cons _ _ _ _ rfl (.cons _ _ _ _ rfl .nil)) (.cons _ _ _ _ (.same _) (.cons _ _ _ _ (.sgsL rfl (.cons _ _ _ _ (.same _) .nil) rfl) .nil)) rfl rfl) rfl ?_
  refine OpsFrom.n (Y.stR ty24 (upN rfl rfl) rfl rfl rfl rfl rfl (by first | (with_reducible assumption) | omega | (simp only [lens, mac_l, List.flatten_cons, List.flatten_nil, List.append_nil, List.length_cons, List.length_nil, Cs.len, List.length_map, List.length_set, List.length_replicate, *]; first | done | omega) | decide | (split <;> simp only [lens, mac_l, List.flatten_cons, List.flatten_nil, List.append_nil, List.length_cons, List.length_nil, Cs.len, List.length_map, List.length_set, List.length_replicate, *]) | (with_reducible exact Lt.mono (by assumption) (by decide)) | (simp only [Cs.len]; done) | rfl) (by first | (with_reducible assumption) | omega | (simp only [lens, mac_l, List.flatten_cons, List.flatten_nil, List.append_nil, List.length_cons, List.length_nil, Cs.len, List.length_map, List.length_set, List.length_replicate, *]; first | done | omega) | decide | (split <;> simp only [lens, mac_l, List.flatten_cons, List.flatten_nil, List.append_nil, List.length_cons, List.length_nil, Cs.len, List.length_map, List.length_set, List.length_replicate, *]) | (with_reducible exact Lt.mono (by assumption) (by decide)) | (simp only [Cs.len]; done) | rfl) (by decide)) rfl rfl ?_
  refine OpsFrom.nil ?_
  refine Holds.ret ?_
  exact Holds.ret1 (.inl rfl) rfl (.rowN rfl rfl ty24 rfl (by first | (with_reducible assumption) | omega | (simp only [lens, mac_l, List.flatten_cons, List.flatten_nil, List.append_nil, List.length_cons, List.length_nil, Cs.len, List.length_map, List.length_set, List.length_replicate, *]; first | done | omega) | decide | (split <;> simp only [lens, mac_l, List.flatten_cons, List.flatten_nil, List.append_nil, List.length_cons, List.length_nil, Cs.len, List.length_map, List.length_set, List.length_replicate, *]) | (with_reducible exact Lt.mono (by assumption) (by decide)) | (simp only [Cs.len]; done) | rfl) (by decide)) (.same _) rfl

attribute [irreducible] kext

end Go.Proofs.Ytjgcmfedofmkpaa
