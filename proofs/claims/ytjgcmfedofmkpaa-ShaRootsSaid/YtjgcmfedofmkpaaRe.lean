/-
  Walks: ShaRoots.
-/
import Derived.Test.YtjgcmfedofmkpaaRd
import Derived.Test.YtjgcmfedofmkpaaLb
namespace Go.Proofs.Ytjgcmfedofmkpaa
open Go Go.Fx
set_option linter.unusedVariables false
set_option linter.unusedSimpArgs false
theorem roots_sum {b : List Nat} (bb : Lt 256 b) : rsumby b rheads rK = sha [b] := by
  rw [rheads_eq, sha_one bb]
  unfold rsha
  rfl
theorem w_hroots (n : Nat) (b : List Nat)  : VC Try.prog 4 [.one (.n .u8 n), .one (.bs false .u8 b)] (.one (.b true)) := by
  refine VC.go Try.func4 rfl Try.ntmps4 rfl rfl fun O w => ?_
  refine Holds.ltBs 1 rfl u8s u8m (fun bb => ?_)
  refine Holds.seq ?_
  refine Holds.reg ?_
  refine OpsFrom.v (Y.assign (up0 rfl rfl rfl) rfl rfl) rfl ?_
  refine OpsFrom.nil ?_
  refine Holds.seq ?_
  refine Holds.reg ?_
  refine OpsFrom.v (Y.callV w_hawake fnok19 (up0 rfl rfl rfl) rfl rfl .nil .nil rfl rfl) rfl ?_
  refine OpsFrom.v (Y.assign (up0 rfl rfl rfl) rfl rfl) rfl ?_
  refine OpsFrom.nil ?_
  refine Holds.seq ?_
  refine Holds.seq ?_
  refine Holds.reg ?_
  refine OpsFrom.v (Y.move (up0 rfl rfl rfl) rfl rfl) rfl ?_
  refine OpsFrom.v (Y.len ty22 (up0 rfl rfl rfl) rfl rfl rfl rfl) rfl ?_
  refine OpsFrom.v (Y.gtr (b := 300) (up0 rfl rfl rfl) rfl rfl rfl) rfl ?_
  refine OpsFrom.nil ?_
  refine Holds.condD rfl (fun h12 => ?_) (fun h12 => ?_)
  · refine Holds.seq ?_
    refine Holds.reg ?_
    refine OpsFrom.v (Y.move (up0 rfl rfl rfl) rfl rfl) rfl ?_
    refine OpsFrom.v (Y.assign (up0 rfl rfl rfl) rfl rfl) rfl ?_
    refine OpsFrom.nil ?_
    refine Holds.ret ?_
    exact Holds.ret1 (.inl rfl) rfl (.tmp _ _ rfl) (.same _) rfl
  · refine Holds.skip ?_
    refine Holds.seq ?_
    refine Holds.reg ?_
    refine OpsFrom.v (Y.callV w_rK fnok25 (up0 rfl rfl rfl) rfl rfl .nil .nil rfl rfl) rfl ?_
    refine OpsFrom.u (Y.alloc (d := 6) ty35 rfl rfl (up0 rfl rfl rfl) rfl) rfl rfl rfl ?_
    refine OpsFrom.n (Y.stR ty35 (upN rfl rfl) rfl rfl rfl rfl rfl (by first | (with_reducible assumption) | omega | (simp only [lens, rK_l, List.flatten_cons, List.flatten_nil, List.append_nil, List.length_cons, List.length_nil, Cs.len, List.length_map, List.length_set, List.length_replicate, *]; first | done | omega) | decide | (split <;> simp only [lens, rK_l, List.flatten_cons, List.flatten_nil, List.append_nil, List.length_cons, List.length_nil, Cs.len, List.length_map, List.length_set, List.length_replicate, *]) | (with_reducible exact Lt.mono (by assumption) (by decide)) | (simp only [Cs.len]; done) | rfl) (by first | (with_reducible assumption) | omega | (simp only [lens, rK_l, List.flatten_cons, List.flatten_nil, List.append_nil, List.length_cons, List.length_nil, Cs.len, List.length_map, List.length_set, List.length_replicate, *]; first | done | omega) | decide | (split <;> simp only [lens, rK_l, List.flatten_cons, List.flatten_nil, List.append_nil, List.length_cons, List.length_nil, Cs.len, List.length_map, List.length_set, List.length_replicate, *]) | (with_reducible exact Lt.mono (by assumption) (by decide)) | (simp only [Cs.len]; done) | rfl) (by decide)) rfl rfl ?_
    refine OpsFrom.nil ?_
    refine Holds.seq ?_
    refine Holds.reg ?_
    refine OpsFrom.v (Y.move (up0 rfl rfl rfl) rfl rfl) rfl ?_
    refine OpsFrom.v (Y.convUpI ty5.u ty3.u rfl (by decide) (up0 rfl rfl rfl) rfl rfl) rfl ?_
    refine OpsFrom.v (Y.rem (b := 80) (up0 rfl rfl rfl) rfl rfl rfl (by decide)) rfl ?_
    refine OpsFrom.v (Y.assign (up0 rfl rfl rfl) rfl rfl) rfl ?_
    refine OpsFrom.nil ?_
    refine Holds.seq ?_
    refine Holds.reg ?_
    refine OpsFrom.v (Y.callV w_rheads fnok26 (up0 rfl rfl rfl) rfl rfl .nil .nil rfl rfl) rfl ?_
    refine OpsFrom.u (Y.alloc (d := 8) ty28 rfl rfl (up0 rfl rfl rfl) rfl) rfl rfl rfl ?_
    refine OpsFrom.n (Y.stR ty28 (upN rfl rfl) rfl rfl rfl rfl rfl (by first | (with_reducible assumption) | omega | (simp only [lens, rK_l, rheads_len, List.flatten_cons, List.flatten_nil, List.append_nil, List.length_cons, List.length_nil, Cs.len, List.length_map, List.length_set, List.length_replicate, *]; first | done | omega) | decide | (split <;> simp only [lens, rK_l, rheads_len, List.flatten_cons, List.flatten_nil, List.append_nil, List.length_cons, List.length_nil, Cs.len, List.length_map, List.length_set, List.length_replicate, *]) | (with_reducible exact Lt.mono (by assumption) (by decide)) | (simp only [Cs.len]; done) | rfl) (by first | (with_reducible assumption) | omega | (simp only [lens, rK_l, rheads_len, List.flatten_cons, List.flatten_nil, List.append_nil, List.length_cons, List.length_nil, Cs.len, List.length_map, List.length_set, List.length_replicate, *]; first | done | omega) | decide | (split <;> simp only [lens, rK_l, rheads_len, List.flatten_cons, List.flatten_nil, List.append_nil, List.length_cons, List.length_nil, Cs.len, List.length_map, List.length_set, List.length_replicate, *]) | (with_reducible exact Lt.mono (by assumption) (by decide)) | (simp only [Cs.len]; done) | rfl) (by decide)) rfl rfl ?_
    refine OpsFrom.nil ?_
    refine Holds.seq ?_
    refine Holds.dr mx [([19], []), ([20], []), ([21], [24, 25, 26]), ([22], [24, 25, 26]), ([23], [24, 25, 26]), ([24], [21, 22, 23]), ([25], [21, 22, 23]), ([26], [21, 22, 23]), ([27], []), ([28], []), ([29], []), ([30], [31, 32, 34, 35]), ([31], [30, 32, 34, 35]), ([32], [30, 31, 34, 35]), ([33], [34, 35]), ([34], [30, 31, 32, 33]), ([35], [30, 31, 32, 33]), ([36], []), ([37], []), ([38], []), ([4], [])] (by kernel_rfl) ?_
    refine CertK.v (Y.move (up0 rfl rfl rfl) rfl rfl) rfl ?_
    refine CertK.v (Y.move (up0 rfl rfl rfl) rfl rfl) rfl ?_
    refine CertK.vd (Y.move (up1 rfl rfl rfl rfl rfl rfl) rfl rfl) rfl rfl ?_
    refine CertK.vd (Y.ia0 ty35 ty27 (up1 rfl rfl rfl rfl rfl rfl) rfl rfl rfl (by first | (with_reducible assumption) | omega | (simp only [lens, rK_l, rheads_len, rsumby_l, sha_l, List.flatten_cons, List.flatten_nil, List.append_nil, List.length_cons, List.length_nil, Cs.len, List.length_map, List.length_set, List.length_replicate, *]; first | done | omega) | decide | (split <;> simp only [lens, rK_l, rheads_len, rsumby_l, sha_l, List.flatten_cons, List.flatten_nil, List.append_nil, List.length_cons, List.length_nil, Cs.len, List.length_map, List.length_set, List.length_replicate, *]) | (with_reducible exact Lt.mono (by assumption) (by decide)) | (simp only [Cs.len]; done) | rfl)) rfl rfl ?_
    refine CertK.vd (Y.ldI ty27 rfl (up1 rfl rfl rfl rfl rfl rfl) rfl rfl rfl (by first | (with_reducible assumption) | omega | (simp only [lens, rK_l, rheads_len, rsumby_l, sha_l, List.flatten_cons, List.flatten_nil, List.append_nil, List.length_cons, List.length_nil, Cs.len, List.length_map, List.length_set, List.length_replicate, *]; first | done | omega) | decide | (split <;> simp only [lens, rK_l, rheads_len, rsumby_l, sha_l, List.flatten_cons, List.flatten_nil, List.append_nil, List.length_cons, List.length_nil, Cs.len, List.length_map, List.length_set, List.length_replicate, *]) | (with_reducible exact Lt.mono (by assumption) (by decide)) | (simp only [Cs.len]; done) | rfl)) rfl rfl ?_
    refine CertK.vd (Y.move (up1 rfl rfl rfl rfl rfl rfl) rfl rfl) rfl rfl ?_
    refine CertK.vd (Y.callV (w_rprime _ (by first | (with_reducible assumption) | omega | (simp only [lens, rK_l, rheads_len, rsumby_l, sha_l, List.flatten_cons, List.flatten_nil, List.append_nil, List.length_cons, List.length_nil, Cs.len, List.length_map, List.length_set, List.length_replicate, *]; first | done | omega) | decide | (split <;> simp only [lens, rK_l, rheads_len, rsumby_l, sha_l, List.flatten_cons, List.flatten_nil, List.append_nil, List.length_cons, List.length_nil, Cs.len, List.length_map, List.length_set, List.length_replicate, *]) | (with_reducible exact Lt.mono (by assumption) (by decide)) | (simp only [Cs.len]; done) | rfl)) fnok28 (up1 rfl rfl rfl rfl rfl rfl) rfl rfl (.cons _ _ _ _ rfl .nil) (.cons _ _ _ _ (.same _) .nil) rfl rfl) rfl rfl ?_
    refine CertK.vd (Y.callV (w_root3 _ (rprime_lt (by first | (with_reducible assumption) | omega | (simp only [lens, rK_l, rheads_len, rsumby_l, sha_l, List.flatten_cons, List.flatten_nil, List.append_nil, List.length_cons, List.length_nil, Cs.len, List.length_map, List.length_set, List.length_replicate, *]; first | done | omega) | decide | (split <;> simp only [lens, rK_l, rheads_len, rsumby_l, sha_l, List.flatten_cons, List.flatten_nil, List.append_nil, List.length_cons, List.length_nil, Cs.len, List.length_map, List.length_set, List.length_replicate, *]) | (with_reducible exact Lt.mono (by assumption) (by decide)) | (simp only [Cs.len]; done) | rfl))) fnok27 (up1 rfl rfl rfl rfl rfl rfl) rfl rfl (.cons _ _ _ _ rfl (.cons _ _ _ _ rfl .nil)) (.cons _ _ _ _ (.same _) (.cons _ _ _ _ (.same _) .nil)) rfl rfl) rfl rfl ?_
    refine CertK.v (Doing.isB (c := true) (decide_eq_true ((root_K (by first | (with_reducible assumption) | omega | (simp only [lens, rK_l, rheads_len, rsumby_l, sha_l, List.flatten_cons, List.flatten_nil, List.append_nil, List.length_cons, List.length_nil, Cs.len, List.length_map, List.length_set, List.length_replicate, *]; first | done | omega) | decide | (split <;> simp only [lens, rK_l, rheads_len, rsumby_l, sha_l, List.flatten_cons, List.flatten_nil, List.append_nil, List.length_cons, List.length_nil, Cs.len, List.length_map, List.length_set, List.length_replicate, *]) | (with_reducible exact Lt.mono (by assumption) (by decide)) | (simp only [Cs.len]; done) | rfl)))) (Y.eql (up1 rfl rfl rfl rfl rfl rfl) rfl rfl rfl)) rfl ?_
    refine CertK.v (Y.pickT (up0 rfl rfl rfl) rfl rfl rfl) rfl ?_
    refine CertK.v (Y.move (up0 rfl rfl rfl) rfl rfl) rfl ?_
    refine CertK.vd (Y.move (up1 rfl rfl rfl rfl rfl rfl) rfl rfl) rfl rfl ?_
    refine CertK.vd (Y.ldAll ty28 rfl (up1 rfl rfl rfl rfl rfl rfl) rfl rfl rfl (by first | (with_reducible assumption) | omega | (simp only [lens, rK_l, rheads_len, rsumby_l, sha_l, List.flatten_cons, List.flatten_nil, List.append_nil, List.length_cons, List.length_nil, Cs.len, List.length_map, List.length_set, List.length_replicate, *]; first | done | omega) | decide | (split <;> simp only [lens, rK_l, rheads_len, rsumby_l, sha_l, List.flatten_cons, List.flatten_nil, List.append_nil, List.length_cons, List.length_nil, Cs.len, List.length_map, List.length_set, List.length_replicate, *]) | (with_reducible exact Lt.mono (by assumption) (by decide)) | (simp only [Cs.len]; done) | rfl) (by decide)) rfl rfl ?_
    refine CertK.vd (Y.ldAll ty35 rfl (up1 rfl rfl rfl rfl rfl rfl) rfl rfl rfl (by first | (with_reducible assumption) | omega | (simp only [lens, rK_l, rheads_len, rsumby_l, sha_l, List.flatten_cons, List.flatten_nil, List.append_nil, List.length_cons, List.length_nil, Cs.len, List.length_map, List.length_set, List.length_replicate, *]; first | done | omega) | decide | (split <;> simp only [lens, rK_l, rheads_len, rsumby_l, sha_l, List.flatten_cons, List.flatten_nil, List.append_nil, List.length_cons, List.length_nil, Cs.len, List.length_map, List.length_set, List.length_replicate, *]) | (with_reducible exact Lt.mono (by assumption) (by decide)) | (simp only [Cs.len]; done) | rfl) (by decide)) rfl rfl ?_
    refine CertK.vd (Y.callV (w_rsumby _ _ _ (by first | (with_reducible assumption) | omega | (simp only [lens, rK_l, rheads_len, rsumby_l, sha_l, List.flatten_cons, List.flatten_nil, List.append_nil, List.length_cons, List.length_nil, Cs.len, List.length_map, List.length_set, List.length_replicate, *]; first | done | omega) | decide | (split <;> simp only [lens, rK_l, rheads_len, rsumby_l, sha_l, List.flatten_cons, List.flatten_nil, List.append_nil, List.length_cons, List.length_nil, Cs.len, List.length_map, List.length_set, List.length_replicate, *]) | (with_reducible exact Lt.mono (by assumption) (by decide)) | (simp only [Cs.len]; done) | rfl) (by first | (with_reducible assumption) | omega | (simp only [lens, rK_l, rheads_len, rsumby_l, sha_l, List.flatten_cons, List.flatten_nil, List.append_nil, List.length_cons, List.length_nil, Cs.len, List.length_map, List.length_set, List.length_replicate, *]; first | done | omega) | decide | (split <;> simp only [lens, rK_l, rheads_len, rsumby_l, sha_l, List.flatten_cons, List.flatten_nil, List.append_nil, List.length_cons, List.length_nil, Cs.len, List.length_map, List.length_set, List.length_replicate, *]) | (with_reducible exact Lt.mono (by assumption) (by decide)) | (simp only [Cs.len]; done) | rfl) (by first | (with_reducible assumption) | omega | (simp only [lens, rK_l, rheads_len, rsumby_l, sha_l, List.flatten_cons, List.flatten_nil, List.append_nil, List.length_cons, List.length_nil, Cs.len, List.length_map, List.length_set, List.length_replicate, *]; first | done | omega) | decide | (split <;> simp only [lens, rK_l, rheads_len, rsumby_l, sha_l, List.flatten_cons, List.flatten_nil, List.append_nil, List.length_cons, List.length_nil, Cs.len, List.length_map, List.length_set, List.length_replicate, *]) | (with_reducible exact Lt.mono (by assumption) (by decide)) | (simp only [Cs.len]; done) | rfl)) fnok29 (up1 rfl rfl rfl rfl rfl rfl) rfl rfl (.cons _ _ _ _ rfl (.cons _ _ _ _ rfl (.cons _ _ _ _ rfl .nil))) (.cons _ _ _ _ (.same _) (.cons _ _ _ _ (.same _) (.cons _ _ _ _ (.same _) .nil))) rfl rfl) rfl rfl ?_
    refine CertK.vd (Y.move (up1 rfl rfl rfl rfl rfl rfl) rfl rfl) rfl rfl ?_
    refine CertK.u (Y.bldS (d := 35) ty43 ty22 rfl (up1 rfl rfl rfl rfl rfl rfl) rfl (.mix (List.replicate 1 (.nil))) rfl rfl rfl rfl (by decide) (by decide) (.cons _ _ _ _ _ _ _ _ _ rfl rfl rfl rfl (Spl.m (by first | decide | (simp; done))) (.nil _))) rfl rfl rfl rfl rfl ?_
    refine CertK.v (Y.callV (w_sha _ (by first | (with_reducible assumption) | omega | (simp only [lens, rK_l, rheads_len, rsumby_l, sha_l, List.flatten_cons, List.flatten_nil, List.append_nil, List.length_cons, List.length_nil, Cs.len, List.length_map, List.length_set, List.length_replicate, *]; first | done | omega) | decide | (split <;> simp only [lens, rK_l, rheads_len, rsumby_l, sha_l, List.flatten_cons, List.flatten_nil, List.append_nil, List.length_cons, List.length_nil, Cs.len, List.length_map, List.length_set, List.length_replicate, *]) | (with_reducible exact Lt.mono (by assumption) (by decide)) | (simp only [Cs.len]; done) | rfl) (by first | (with_reducible assumption) | omega | (simp only [lens, rK_l, rheads_len, rsumby_l, sha_l, List.flatten_cons, List.flatten_nil, List.append_nil, List.length_cons, List.length_nil, Cs.len, List.length_map, List.length_set, List.length_replicate, *]; first | done | omega) | decide | (split <;> simp only [lens, rK_l, rheads_len, rsumby_l, sha_l, List.flatten_cons, List.flatten_nil, List.append_nil, List.length_cons, List.length_nil, Cs.len, List.length_map, List.length_set, List.length_replicate, *]) | (with_reducible exact Lt.mono (by assumption) (by decide)) | (simp only [Cs.len]; done) | rfl)) fnok20 (up1 rfl rfl rfl rfl rfl rfl) rfl rfl (.cons _ _ _ _ rfl .nil) (.cons _ _ _ _ (.sgsL rfl (.cons _ _ _ _ (.same _) .nil) rfl) .nil) rfl rfl) rfl ?_
    refine CertK.v (Doing.isB (c := true) (decide_eq_true ((roots_sum bb))) (Y.eqR ty24 ty5 (by kernel_rfl) (up1 rfl rfl rfl rfl rfl rfl) rfl rfl rfl (by first | (with_reducible assumption) | omega | (simp only [lens, rK_l, rheads_len, rsumby_l, sha_l, List.flatten_cons, List.flatten_nil, List.append_nil, List.length_cons, List.length_nil, Cs.len, List.length_map, List.length_set, List.length_replicate, *]; first | done | omega) | decide | (split <;> simp only [lens, rK_l, rheads_len, rsumby_l, sha_l, List.flatten_cons, List.flatten_nil, List.append_nil, List.length_cons, List.length_nil, Cs.len, List.length_map, List.length_set, List.length_replicate, *]) | (with_reducible exact Lt.mono (by assumption) (by decide)) | (simp only [Cs.len]; done) | rfl) (by first | (with_reducible assumption) | omega | (simp only [lens, rK_l, rheads_len, rsumby_l, sha_l, List.flatten_cons, List.flatten_nil, List.append_nil, List.length_cons, List.length_nil, Cs.len, List.length_map, List.length_set, List.length_replicate, *]; first | done | omega) | decide | (split <;> simp only [lens, rK_l, rheads_len, rsumby_l, sha_l, List.flatten_cons, List.flatten_nil, List.append_nil, List.length_cons, List.length_nil, Cs.len, List.length_map, List.length_set, List.length_replicate, *]) | (with_reducible exact Lt.mono (by assumption) (by decide)) | (simp only [Cs.len]; done) | rfl))) rfl ?_
    refine CertK.v (Y.pickT (up0 rfl rfl rfl) rfl rfl rfl) rfl ?_
    refine CertK.v (Y.assign (up0 rfl rfl rfl) rfl rfl) rfl ?_
    refine CertK.nil ?_
    refine Holds.ret ?_
    exact Holds.ret1 (.inl rfl) rfl (.tmp _ _ rfl) (.same _) rfl


end Go.Proofs.Ytjgcmfedofmkpaa
