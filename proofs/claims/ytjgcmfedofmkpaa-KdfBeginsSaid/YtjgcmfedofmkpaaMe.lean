/-
  Walks: MacTells.
-/
import Derived.Test.YtjgcmfedofmkpaaMd
namespace Go.Proofs.Ytjgcmfedofmkpaa
open Go Go.Fx
set_option linter.unusedVariables false
set_option linter.unusedSimpArgs false
theorem mac_long {key : List Nat} (hk : Lt 256 key) (h : 128 < key.length) (ts : List (List Nat)) : mac key ts = mac (sha [key]) ts := by
  have e1 : mk key = rsha key := if_pos h
  have e2 : mk (rsha key) = rsha key := if_neg (by rw [rsha_l]; decide)
  rw [sha_one hk, mac_mk hk, mac_mk (rsha_lt _), e1, e2]
theorem mac_l (key : List Nat) (ts : List (List Nat)) : (mac key ts).length = 64 := mac_len key ts
theorem w_mtells (key : List Nat) (a : List Nat)  : VC Try.prog 8 [.one (.bs false .u8 key), .one (.bs false .u8 a)] (.one (.b true)) := by
  refine VC.go Try.func8 rfl Try.ntmps8 rfl rfl fun O w => ?_
  refine Holds.ltBs 0 rfl u8s u8m (fun bk => ?_)
  refine Holds.ltBs 1 rfl u8s u8m (fun bm => ?_)
  refine Holds.seq ?_
  refine Holds.reg ?_
  refine OpsFrom.v (Y.assign (up0 rfl rfl rfl) rfl rfl) rfl ?_
  refine OpsFrom.nil ?_
  refine Holds.seq ?_
  refine Holds.reg ?_
  refine OpsFrom.v (Y.callV w_mawake fnok30 (up0 rfl rfl rfl) rfl rfl .nil .nil rfl rfl) rfl ?_
  refine OpsFrom.v (Y.assign (up0 rfl rfl rfl) rfl rfl) rfl ?_
  refine OpsFrom.nil ?_
  refine Holds.seq ?_
  refine Holds.seqJoin ⟨[(0, .one (.bs false .u8 key)), (1, .one (.bs false .u8 a)), (4, .one (.b false)), (5, .one (.b true)), (14, .one (.b (decide ((1000 < key.length) ∨ (1000 < a.length)))))], []⟩ ?_ (fun join => ?_)
  · refine Holds.condD rfl (fun h14 => ?_) (fun h14 => ?_)
    · refine Holds.seq ?_
      refine Holds.reg ?_
      refine OpsFrom.v (Y.move (up0 rfl rfl rfl) rfl rfl) rfl ?_
      refine OpsFrom.v (Y.assign (up0 rfl rfl rfl) rfl rfl) rfl ?_
      refine OpsFrom.nil ?_
      refine Holds.ret ?_
      exact Holds.ret1 (.inl rfl) rfl (.tmp _ _ rfl) (.same _) rfl
    · refine Holds.skip ?_
      refine Holds.seq ?_
      refine Holds.reg ?_
      refine OpsFrom.v (Y.move (up0 rfl rfl rfl) rfl rfl) rfl ?_
      refine OpsFrom.v (Y.move (up0 rfl rfl rfl) rfl rfl) rfl ?_
      refine OpsFrom.v (Y.move (up1 rfl rfl rfl rfl rfl rfl) rfl rfl) rfl ?_
      refine OpsFrom.v (Y.move (up1 rfl rfl rfl rfl rfl rfl) rfl rfl) rfl ?_
      refine OpsFrom.u (Y.bldS (d := 20) ty43 ty22 rfl (up1 rfl rfl rfl rfl rfl rfl) rfl (.mix (List.replicate 1 (.nil))) rfl rfl rfl rfl (by decide) (by decide) (.cons _ _ _ _ _ _ _ _ _ rfl rfl rfl rfl (Spl.m (by first | decide | (simp; done))) (.nil _))) rfl rfl rfl ?_
      refine OpsFrom.v (Y.callV (w_mac _ _ (by first | (with_reducible assumption) | omega | (simp only [lens, mac_l, List.flatten_cons, List.flatten_nil, List.append_nil, List.length_cons, List.length_nil, Cs.len, List.length_map, List.length_set, List.length_replicate, *]; first | done | omega) | decide | (split <;> simp only [lens, mac_l, List.flatten_cons, List.flatten_nil, List.append_nil, List.length_cons, List.length_nil, Cs.len, List.length_map, List.length_set, List.length_replicate, *]) | (with_reducible exact Lt.mono (by assumption) (by decide)) | (simp only [Cs.len]; done) | rfl) (by first | (with_reducible assumption) | omega | (simp only [lens, mac_l, List.flatten_cons, List.flatten_nil, List.append_nil, List.length_cons, List.length_nil, Cs.len, List.length_map, List.length_set, List.length_replicate, *]; first | done | omega) | decide | (split <;> simp only [lens, mac_l, List.flatten_cons, List.flatten_nil, List.append_nil, List.length_cons, List.length_nil, Cs.len, List.length_map, List.length_set, List.length_replicate, *]) | (with_reducible exact Lt.mono (by assumption) (by decide)) | (simp only [Cs.len]; done) | rfl) (by first | (with_reducible assumption) | omega | (simp only [lens, mac_l, List.flatten_cons, List.flatten_nil, List.append_nil, List.length_cons, List.length_nil, Cs.len, List.length_map, List.length_set, List.length_replicate, *]; first | done | omega) | decide | (split <;> simp only [lens, mac_l, List.flatten_cons, List.flatten_nil, List.append_nil, List.length_cons, List.length_nil, Cs.len, List.length_map, List.length_set, List.length_replicate, *]) | (with_reducible exact Lt.mono (by assumption) (by decide)) | (simp only [Cs.len]; done) | rfl)) fnok31 (up1 rfl rfl rfl rfl rfl rfl) rfl rfl (.cons _ _ _ _ rfl (.cons _ _ _ _ rfl .nil)) (.cons _ _ _ _ (.same _) (.cons _ _ _ _ (.sgsL rfl (.cons _ _ _ _ (.same _) .nil) rfl) .nil)) rfl rfl) rfl ?_
      refine OpsFrom.v (Y.move (up1 rfl rfl rfl rfl rfl rfl) rfl rfl) rfl ?_
      refine OpsFrom.v (Y.move (up1 rfl rfl rfl rfl rfl rfl) rfl rfl) rfl ?_
      refine OpsFrom.v (Y.callV (w_rmac _ _ (by first | (with_reducible assumption) | omega | (simp only [lens, mac_l, rmac_len, List.flatten_cons, List.flatten_nil, List.append_nil, List.length_cons, List.length_nil, Cs.len, List.length_map, List.length_set, List.length_replicate, *]; first | done | omega) | decide | (split <;> simp only [lens, mac_l, rmac_len, List.flatten_cons, List.flatten_nil, List.append_nil, List.length_cons, List.length_nil, Cs.len, List.length_map, List.length_set, List.length_replicate, *]) | (with_reducible exact Lt.mono (by assumption) (by decide)) | (simp only [Cs.len]; done) | rfl) (by first | (with_reducible assumption) | omega | (simp only [lens, mac_l, rmac_len, List.flatten_cons, List.flatten_nil, List.append_nil, List.length_cons, List.length_nil, Cs.len, List.length_map, List.length_set, List.length_replicate, *]; first | done | omega) | decide | (split <;> simp only [lens, mac_l, rmac_len, List.flatten_cons, List.flatten_nil, List.append_nil, List.length_cons, List.length_nil, Cs.len, List.length_map, List.length_set, List.length_replicate, *]) | (with_reducible exact Lt.mono (by assumption) (by decide)) | (simp only [Cs.len]; done) | rfl)) fnok32 (up1 rfl rfl rfl rfl rfl rfl) rfl rfl (.cons _ _ _ _ rfl (.cons _ _ _ _ rfl .nil)) (.cons _ _ _ _ (.same _) (.cons _ _ _ _ (.same _) .nil)) rfl rfl) rfl ?_
      refine OpsFrom.v (Doing.isB (c := true) (decide_eq_true (mac_one bk bm)) (Y.eqR ty24 ty5 (by kernel_rfl) (up1 rfl rfl rfl rfl rfl rfl) rfl rfl rfl (by first | (with_reducible assumption) | omega | (simp only [lens, mac_l, rmac_len, List.flatten_cons, List.flatten_nil, List.append_nil, List.length_cons, List.length_nil, Cs.len, List.length_map, List.length_set, List.length_replicate, *]; first | done | omega) | decide | (split <;> simp only [lens, mac_l, rmac_len, List.flatten_cons, List.flatten_nil, List.append_nil, List.length_cons, List.length_nil, Cs.len, List.length_map, List.length_set, List.length_replicate, *]) | (with_reducible exact Lt.mono (by assumption) (by decide)) | (simp only [Cs.len]; done) | rfl) (by first | (with_reducible assumption) | omega | (simp only [lens, mac_l, rmac_len, List.flatten_cons, List.flatten_nil, List.append_nil, List.length_cons, List.length_nil, Cs.len, List.length_map, List.length_set, List.length_replicate, *]; first | done | omega) | decide | (split <;> simp only [lens, mac_l, rmac_len, List.flatten_cons, List.flatten_nil, List.append_nil, List.length_cons, List.length_nil, Cs.len, List.length_map, List.length_set, List.length_replicate, *]) | (with_reducible exact Lt.mono (by assumption) (by decide)) | (simp only [Cs.len]; done) | rfl))) rfl ?_
      refine OpsFrom.v (Y.pickT (up0 rfl rfl rfl) rfl rfl rfl) rfl ?_
      refine OpsFrom.v (Y.assign (up0 rfl rfl rfl) rfl rfl) rfl ?_
      refine OpsFrom.nil ?_
      refine Holds.ret ?_
      exact Holds.ret1 (.inl rfl) rfl (.tmp _ _ rfl) (.same _) rfl
  · by_cases a2_3 : (1000 < key.length)
    · refine Holds.reg ?_
      refine OpsFrom.v (Y.move (up0 rfl rfl rfl) rfl rfl) rfl ?_
      refine OpsFrom.v (Y.len ty22 (up0 rfl rfl rfl) rfl rfl rfl rfl) rfl ?_
      refine OpsFrom.v (Y.gtr (b := 1000) (up0 rfl rfl rfl) rfl rfl rfl) rfl ?_
      refine OpsFrom.v (Doing.isB (c := true) (decide_eq_true a2_3) (Y.move (up0 rfl rfl rfl) rfl rfl)) rfl ?_
      refine OpsFrom.v (Doing.skip _ _ _ _ rfl rfl rfl rfl (dlt rfl (Nat.le_of_ble_eq_true rfl))) rfl ?_
      refine OpsFrom.v (Doing.skip _ _ _ _ rfl rfl rfl rfl (dlt rfl (Nat.le_of_ble_eq_true rfl))) rfl ?_
      refine OpsFrom.v (Doing.skip _ _ _ _ rfl rfl rfl rfl (dlt rfl (Nat.le_of_ble_eq_true rfl))) rfl ?_
      refine OpsFrom.v (Y.pickT (up0 rfl rfl rfl) rfl rfl rfl) rfl ?_
      refine OpsFrom.nil ?_
      exact join _ [] ⟨⟨rfl, rfl, rfl, rfl, (bEq ((dT (.inl a2_3)))), trivial⟩, trivial, rfl, rfl⟩
    · refine Holds.reg ?_
      refine OpsFrom.v (Y.move (up0 rfl rfl rfl) rfl rfl) rfl ?_
      refine OpsFrom.v (Y.len ty22 (up0 rfl rfl rfl) rfl rfl rfl rfl) rfl ?_
      refine OpsFrom.v (Y.gtr (b := 1000) (up0 rfl rfl rfl) rfl rfl rfl) rfl ?_
      refine OpsFrom.v (Doing.isB (c := false) (decide_eq_false a2_3) (Y.move (up0 rfl rfl rfl) rfl rfl)) rfl ?_
      refine OpsFrom.v (Y.move (up1 rfl rfl rfl rfl rfl rfl) rfl rfl) rfl ?_
      refine OpsFrom.v (Y.len ty22 (up1 rfl rfl rfl rfl rfl rfl) rfl rfl rfl rfl) rfl ?_
      refine OpsFrom.v (Y.gtr (b := 1000) (up1 rfl rfl rfl rfl rfl rfl) rfl rfl rfl) rfl ?_
      refine OpsFrom.v (Y.pickF (up0 rfl rfl rfl) rfl rfl rfl) rfl ?_
      refine OpsFrom.nil ?_
      exact join _ [] ⟨⟨rfl, rfl, rfl, rfl, (bEq ((dOr a2_3))), trivial⟩, trivial, rfl, rfl⟩


end Go.Proofs.Ytjgcmfedofmkpaa
