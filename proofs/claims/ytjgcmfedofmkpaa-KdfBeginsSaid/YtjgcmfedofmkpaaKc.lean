/-
  Walks: the document: Expand.
-/
import Derived.Test.YtjgcmfedofmkpaaKb
import Derived.Test.YtjgcmfedofmkpaaSl
namespace Go.Proofs.Ytjgcmfedofmkpaa
open Go Go.Fx
set_option linter.unusedVariables false
set_option linter.unusedSimpArgs false
def rexp_s1 (secret : List Nat) (info : List Nat) (i1_ : Nat) (m1_ : (List Nat) × (List Nat)) : (List Nat) × (List Nat) :=
  let v3_ : List Nat := (([] ++ m1_.1) ++ info) ++ [(1 + i1_) % 256]
  ((rmac secret v3_), m1_.2 ++ (rmac secret v3_))
def rexp_it1 (secret : List Nat) (info : List Nat) (i1_ : Nat) : (List Nat) × (List Nat) := iter (rexp_s1 secret info) i1_ ([], [])
theorem rexp_it1_z (secret : List Nat) (info : List Nat) : rexp_it1 secret info 0 = ([], []) := rfl
theorem rexp_it1_s (secret : List Nat) (info : List Nat) (i1_ : Nat) : rexp_it1 secret info (i1_ + 1) = rexp_s1 secret info i1_ (rexp_it1 secret info i1_) := by unfold rexp_it1; exact iterS _ _ _
theorem rexp_n (secret info : List Nat) : ∀ i, (rexp_it1 secret info i).1.length ≤ 64 ∧ (rexp_it1 secret info i).2.length = 64 * i
  | 0 => ⟨Nat.zero_le _, rfl⟩
  | i + 1 => by
    rw [rexp_it1_s]
    unfold rexp_s1
    dsimp only
    rw [List.length_append, rmac_len, (rexp_n secret info i).2]
    exact ⟨Nat.le_refl _, by omega⟩
theorem rexp_iff (secret info : List Nat) {n : Int} {i : Nat} (hi : i ≤ ((n.toNat + 63) / 64)) : ((rexp_it1 secret info i).2.length < n.toNat) ↔ i < ((n.toNat + 63) / 64) := by
  rw [(rexp_n secret info i).2]
  omega
def rexp (secret : List Nat) (info : List Nat) (n : Int) : (List Nat) × Nat :=
  if n < ((0 : Nat) : Int) then
    ([], 1)
  else
    if ((16320 : Nat) : Int) < n then
      ([], 50)
    else
      ((((rexp_it1 secret info ((n.toNat + 63) / 64)).2).drop 0).take (n.toNat - 0), 0)
theorem w_rexp (secret : List Nat) (info : List Nat) (n : Int) (h_secret : secret.length ≤ 524288) (h_info : info.length ≤ 262144) : VC Try.prog 36 [.one (.bs false .u8 secret), .one (.bs false .u8 info), .one (.z n)] (.two (.one (.bs false .u8 ((rexp secret info n).1))) (.one (.n .i64 ((rexp secret info n).2)))) := by
  refine VC.go Try.func36 rfl Try.ntmps36 rfl rfl fun O w => ?_
  refine Holds.seq ?_
  refine Holds.reg ?_
  refine OpsFrom.v (Y.assign (up0 rfl rfl rfl) rfl rfl) rfl ?_
  refine OpsFrom.v (Y.assign (v := (.one (.n .i64 0))) (up0 rfl rfl rfl) rfl rfl) rfl ?_
  refine OpsFrom.nil ?_
  refine Holds.seq ?_
  refine Holds.seq ?_
  refine Holds.reg ?_
  refine OpsFrom.v (Y.move (up0 rfl rfl rfl) rfl rfl) rfl ?_
  refine OpsFrom.v (Y.lssZ (b := 0) (up0 rfl rfl rfl) rfl rfl rfl rfl rfl) rfl ?_
  refine OpsFrom.nil ?_
  refine Holds.condD rfl (fun h14 => ?_) (fun h14 => ?_)
  · refine Holds.seq ?_
    refine Holds.reg ?_
    refine OpsFrom.v (Y.assign (up0 rfl rfl rfl) rfl rfl) rfl ?_
    refine OpsFrom.v (Y.assign (v := (.one (.n .i64 1))) (up0 rfl rfl rfl) rfl rfl) rfl ?_
    refine OpsFrom.nil ?_
    refine Holds.ret ?_
    exact Holds.ret2 (.inl rfl) rfl (.tmp _ _ rfl) (.tmp _ _ rfl) (View.cg (congrArg (fun z => (.two (.one (.bs false .u8 z.1)) (.one (.n .i64 z.2)) : AV)) (show (rexp secret info n) = _ from (by unfold rexp; exact (if_pos h14)))) (.two _ _ _ _ (.nilB _ _) (.same _))) rfl
  · refine Holds.skip ?_
    refine Holds.seq ?_
    refine Holds.seq ?_
    refine Holds.reg ?_
    refine OpsFrom.v (Y.move (up0 rfl rfl rfl) rfl rfl) rfl ?_
    refine OpsFrom.v (Y.gtrZ (b := 16320) (up0 rfl rfl rfl) rfl rfl rfl rfl rfl) rfl ?_
    refine OpsFrom.nil ?_
    refine Holds.condD rfl (fun h16 => ?_) (fun h16 => ?_)
    · refine Holds.seq ?_
      refine Holds.reg ?_
      refine OpsFrom.v (Y.assign (up0 rfl rfl rfl) rfl rfl) rfl ?_
      refine OpsFrom.v (Y.assign (v := (.one (.n .i64 50))) (up0 rfl rfl rfl) rfl rfl) rfl ?_
      refine OpsFrom.nil ?_
      refine Holds.ret ?_
      exact Holds.ret2 (.inl rfl) rfl (.tmp _ _ rfl) (.tmp _ _ rfl) (View.cg (congrArg (fun z => (.two (.one (.bs false .u8 z.1)) (.one (.n .i64 z.2)) : AV)) (show (rexp secret info n) = _ from (by unfold rexp; exact (if_neg h14).trans (if_pos h16)))) (.two _ _ _ _ (.nilB _ _) (.same _))) rfl
    · refine Holds.skip ?_
      refine Holds.seq ?_
      refine Holds.nat 2 rfl (n).toNat (by first | (with_reducible assumption) | omega | (simp only [lens, List.flatten_cons, List.flatten_nil, List.append_nil, List.length_cons, List.length_nil, Cs.len, List.length_map, List.length_set, List.length_replicate, *]; first | done | omega) | decide | (split <;> simp only [lens, List.flatten_cons, List.flatten_nil, List.append_nil, List.length_cons, List.length_nil, Cs.len, List.length_map, List.length_set, List.length_replicate, *]) | (with_reducible exact Lt.mono (by assumption) (by decide)) | (simp only [Cs.len]; done) | rfl) ?_
      refine Holds.reg ?_
      refine OpsFrom.v (Y.assign (up0 rfl rfl rfl) rfl rfl) rfl ?_
      refine OpsFrom.nil ?_
      refine Holds.seq ?_
      refine Holds.reg ?_
      refine OpsFrom.v (Y.assign (up0 rfl rfl rfl) rfl rfl) rfl ?_
      refine OpsFrom.nil ?_
      refine Holds.seq ?_
      refine Holds.seq ?_
      refine Holds.nilV 9 rfl ?_
      refine Holds.reg ?_
      refine OpsFrom.v (Y.assign (v := (.one (.n .i64 1))) (up0 rfl rfl rfl) rfl rfl) rfl ?_
      refine OpsFrom.nil ?_
      refine Holds.block ?_
      refine Holds.grow 8 8 (.ints .u8 []) rfl rfl rfl ?_
      refine Holds.loop (fun (i1_ : Nat) => ⟨[(0, .one (.bs false .u8 secret)), (1, .one (.bs false .u8 info)), (2, .one (.n .i64 n.toNat)), (6, .one (.nil)), (7, .one (.n .i64 0)), (8, .one (.sg 8 0 (((rexp_it1 secret info i1_).2).length))), (9, .one (.bs false .u8 ((rexp_it1 secret info i1_).1))), (10, .one (.n .i64 (1 + i1_)))], [(8, .own (.ints .u8 ((rexp_it1 secret info i1_).2)))]⟩) (fun (i1_ : Nat) => i1_ ≤ ((n.toNat + 63) / 64)) (fun (i1_ : Nat) => ((n.toNat + 63) / 64) - i1_) 0 (by first | (with_reducible assumption) | omega | (simp only [lens, List.flatten_cons, List.flatten_nil, List.append_nil, List.length_cons, List.length_nil, Cs.len, List.length_map, List.length_set, List.length_replicate, *]; first | done | omega) | decide | (split <;> simp only [lens, List.flatten_cons, List.flatten_nil, List.append_nil, List.length_cons, List.length_nil, Cs.len, List.length_map, List.length_set, List.length_replicate, *]) | (with_reducible exact Lt.mono (by assumption) (by decide)) | (simp only [Cs.len]; done) | rfl) [] ⟨⟨rfl, rfl, rfl, rfl, rfl, rfl, (bsEq (congrArg (fun (s : (List Nat) × (List Nat)) => s.1) (rexp_it1_z secret info)).symm), rfl, trivial⟩, ⟨(hEq (congrArg (fun (s : (List Nat) × (List Nat)) => s.2) (rexp_it1_z secret info)).symm), trivial⟩, rfl, rfl⟩ ?_
      intro i1_ k1_
      have hn := rexp_n secret info i1_
      refine Holds.seq ?_
      refine Holds.seq ?_
      refine Holds.reg ?_
      refine OpsFrom.v (Y.move (up0 rfl rfl rfl) rfl rfl) rfl ?_
      refine OpsFrom.v (Y.len ty22 (up0 rfl rfl rfl) rfl rfl rfl rfl) rfl ?_
      refine OpsFrom.v (Y.move (up0 rfl rfl rfl) rfl rfl) rfl ?_
      refine OpsFrom.v (Y.lss (up0 rfl rfl rfl) rfl rfl rfl) rfl ?_
      refine OpsFrom.nil ?_
      refine Holds.condD rfl (fun h20 => ?_) (fun h20 => ?_)
      · have h1c := (rexp_iff secret info k1_).1 h20
        refine Holds.skip ?_
        refine Holds.seq ?_
        refine Holds.block ?_
        refine Holds.seq ?_
        refine Holds.reg ?_
        refine OpsFrom.v (Y.bldS0 ty22 ty5 (up0 rfl rfl rfl) rfl) rfl ?_
        refine OpsFrom.v (Y.move (up0 rfl rfl rfl) rfl rfl) rfl ?_
        refine OpsFrom.u (Y.app (d := 25) ty22 ty5 rfl ty22 (by decide) (up0 rfl rfl rfl) rfl rfl rfl (.nilI _) rfl (.bs _ _ _) App.i (by first | (with_reducible assumption) | omega | (simp only [lens, List.flatten_cons, List.flatten_nil, List.append_nil, List.length_cons, List.length_nil, Cs.len, List.length_map, List.length_set, List.length_replicate, *]; first | done | omega) | decide | (split <;> simp only [lens, List.flatten_cons, List.flatten_nil, List.append_nil, List.length_cons, List.length_nil, Cs.len, List.length_map, List.length_set, List.length_replicate, *]) | (with_reducible exact Lt.mono (by assumption) (by decide)) | (simp only [Cs.len]; done) | rfl) rfl (by first | (simp; done) | (rintro ⟨_, _, _, h⟩; cases h))) rfl rfl rfl ?_
        refine OpsFrom.v (Y.move (up0 rfl rfl rfl) rfl rfl) rfl ?_
        refine OpsFrom.u (Y.app (d := 27) ty22 ty5 rfl ty22 (by decide) (up0 rfl rfl rfl) rfl rfl rfl (.all rfl (by first | (with_reducible assumption) | omega | (simp only [lens, List.flatten_cons, List.flatten_nil, List.append_nil, List.length_cons, List.length_nil, Cs.len, List.length_map, List.length_set, List.length_replicate, *]; first | done | omega) | decide | (split <;> simp only [lens, List.flatten_cons, List.flatten_nil, List.append_nil, List.length_cons, List.length_nil, Cs.len, List.length_map, List.length_set, List.length_replicate, *]) | (with_reducible exact Lt.mono (by assumption) (by decide)) | (simp only [Cs.len]; done) | rfl)) rfl (.bs _ _ _) App.i (by first | (with_reducible assumption) | omega | (simp only [lens, List.flatten_cons, List.flatten_nil, List.append_nil, List.length_cons, List.length_nil, Cs.len, List.length_map, List.length_set, List.length_replicate, *]; first | done | omega) | decide | (split <;> simp only [lens, List.flatten_cons, List.flatten_nil, List.append_nil, List.length_cons, List.length_nil, Cs.len, List.length_map, List.length_set, List.length_replicate, *]) | (with_reducible exact Lt.mono (by assumption) (by decide)) | (simp only [Cs.len]; done) | rfl) rfl (by first | (simp; done) | (rintro ⟨_, _, _, h⟩; cases h))) rfl rfl rfl ?_
        refine OpsFrom.v (Y.move (up0 rfl rfl rfl) rfl rfl) rfl ?_
        refine OpsFrom.v (Y.conv ty3.u ty5.u u8s u8m (up0 rfl rfl rfl) rfl rfl) rfl ?_
        refine OpsFrom.u (Y.bldS (d := 30) ty22 ty5 rfl (up0 rfl rfl rfl) rfl (.ints .u8 (List.replicate 1 0)) rfl rfl rfl rfl (by decide) (by decide) (.cons _ _ _ _ _ _ _ _ _ rfl rfl rfl rfl (Spl.n (by first | decide | (simp; done))) (.nil _))) rfl rfl rfl ?_
        refine OpsFrom.u (Y.app (d := 31) ty22 ty5 rfl ty22 (by decide) (up0 rfl rfl rfl) rfl rfl rfl (.all rfl (by first | (with_reducible assumption) | omega | (simp only [lens, List.flatten_cons, List.flatten_nil, List.append_nil, List.length_cons, List.length_nil, Cs.len, List.length_map, List.length_set, List.length_replicate, *]; first | done | omega) | decide | (split <;> simp only [lens, List.flatten_cons, List.flatten_nil, List.append_nil, List.length_cons, List.length_nil, Cs.len, List.length_map, List.length_set, List.length_replicate, *]) | (with_reducible exact Lt.mono (by assumption) (by decide)) | (simp only [Cs.len]; done) | rfl)) rfl (.all rfl (by first | (with_reducible assumption) | omega | (simp only [lens, List.flatten_cons, List.flatten_nil, List.append_nil, List.length_cons, List.length_nil, Cs.len, List.length_map, List.length_set, List.length_replicate, *]; first | done | omega) | decide | (split <;> simp only [lens, List.flatten_cons, List.flatten_nil, List.append_nil, List.length_cons, List.length_nil, Cs.len, List.length_map, List.length_set, List.length_replicate, *]) | (with_reducible exact Lt.mono (by assumption) (by decide)) | (simp only [Cs.len]; done) | rfl)) App.i (by first | (with_reducible assumption) | omega | (simp only [lens, List.flatten_cons, List.flatten_nil, List.append_nil, List.length_cons, List.length_nil, Cs.len, List.length_map, List.length_set, List.length_replicate, *]; first | done | omega) | decide | (split <;> simp only [lens, List.flatten_cons, List.flatten_nil, List.append_nil, List.length_cons, List.length_nil, Cs.len, List.length_map, List.length_set, List.length_replicate, *]) | (with_reducible exact Lt.mono (by assumption) (by decide)) | (simp only [Cs.len]; done) | rfl) rfl (by first | (simp; done) | (rintro ⟨_, _, _, h⟩; cases h))) rfl rfl rfl ?_
        refine OpsFrom.v (Y.assign (up0 rfl rfl rfl) rfl rfl) rfl ?_
        refine OpsFrom.nil ?_
        refine Holds.seq ?_
        refine Holds.reg ?_
        refine OpsFrom.v (Y.move (up0 rfl rfl rfl) rfl rfl) rfl ?_
        refine OpsFrom.v (Y.move (up0 rfl rfl rfl) rfl rfl) rfl ?_
        refine OpsFrom.v (Y.callV (w_rmac _ _ (by first | (with_reducible assumption) | omega | (simp only [lens, rmac_len, List.flatten_cons, List.flatten_nil, List.append_nil, List.length_cons, List.length_nil, Cs.len, List.length_map, List.length_set, List.length_replicate, *]; first | done | omega) | decide | (split <;> simp only [lens, rmac_len, List.flatten_cons, List.flatten_nil, List.append_nil, List.length_cons, List.length_nil, Cs.len, List.length_map, List.length_set, List.length_replicate, *]) | (with_reducible exact Lt.mono (by assumption) (by decide)) | (simp only [Cs.len]; done) | rfl) (by first | (with_reducible assumption) | omega | (simp only [lens, rmac_len, List.flatten_cons, List.flatten_nil, List.append_nil, List.length_cons, List.length_nil, Cs.len, List.length_map, List.length_set, List.length_replicate, *]; first | done | omega) | decide | (split <;> simp only [lens, rmac_len, List.flatten_cons, List.flatten_nil, List.append_nil, List.length_cons, List.length_nil, Cs.len, List.length_map, List.length_set, List.length_replicate, *]) | (with_reducible exact Lt.mono (by assumption) (by decide)) | (simp only [Cs.len]; done) | rfl)) fnok32 (up0 rfl rfl rfl) rfl rfl (.cons _ _ _ _ rfl (.cons _ _ _ _ rfl .nil)) (.cons _ _ _ _ (.same _) (.cons _ _ _ _ (.all rfl (by first | (with_reducible assumption) | omega | (simp only [lens, rmac_len, List.flatten_cons, List.flatten_nil, List.append_nil, List.length_cons, List.length_nil, Cs.len, List.length_map, List.length_set, List.length_replicate, *]; first | done | omega) | decide | (split <;> simp only [lens, rmac_len, List.flatten_cons, List.flatten_nil, List.append_nil, List.length_cons, List.length_nil, Cs.len, List.length_map, List.length_set, List.length_replicate, *]) | (with_reducible exact Lt.mono (by assumption) (by decide)) | (simp only [Cs.len]; done) | rfl)) .nil)) rfl rfl) rfl ?_
        refine OpsFrom.u (Y.alloc (d := 12) ty24 rfl rfl (up0 rfl rfl rfl) rfl) rfl rfl rfl ?_
        refine OpsFrom.n (Y.stR ty24 (upN rfl rfl) rfl rfl rfl rfl rfl (by first | (with_reducible assumption) | omega | (simp only [lens, rmac_len, List.flatten_cons, List.flatten_nil, List.append_nil, List.length_cons, List.length_nil, Cs.len, List.length_map, List.length_set, List.length_replicate, *]; first | done | omega) | decide | (split <;> simp only [lens, rmac_len, List.flatten_cons, List.flatten_nil, List.append_nil, List.length_cons, List.length_nil, Cs.len, List.length_map, List.length_set, List.length_replicate, *]) | (with_reducible exact Lt.mono (by assumption) (by decide)) | (simp only [Cs.len]; done) | rfl) (by first | (with_reducible assumption) | omega | (simp only [lens, rmac_len, List.flatten_cons, List.flatten_nil, List.append_nil, List.length_cons, List.length_nil, Cs.len, List.length_map, List.length_set, List.length_replicate, *]; first | done | omega) | decide | (split <;> simp only [lens, rmac_len, List.flatten_cons, List.flatten_nil, List.append_nil, List.length_cons, List.length_nil, Cs.len, List.length_map, List.length_set, List.length_replicate, *]) | (with_reducible exact Lt.mono (by assumption) (by decide)) | (simp only [Cs.len]; done) | rfl) (by decide)) rfl rfl ?_
        refine OpsFrom.nil ?_
        refine Holds.seq ?_
        refine Holds.reg ?_
        refine OpsFrom.v (Y.slArr0 ty24 ty5 (up0 rfl rfl rfl) rfl rfl rfl (by first | (with_reducible assumption) | omega | (simp only [lens, rmac_len, List.flatten_cons, List.flatten_nil, List.append_nil, List.length_cons, List.length_nil, Cs.len, List.length_map, List.length_set, List.length_replicate, *]; first | done | omega) | decide | (split <;> simp only [lens, rmac_len, List.flatten_cons, List.flatten_nil, List.append_nil, List.length_cons, List.length_nil, Cs.len, List.length_map, List.length_set, List.length_replicate, *]) | (with_reducible exact Lt.mono (by assumption) (by decide)) | (simp only [Cs.len]; done) | rfl) bnd0 bnd0 (by first | (with_reducible assumption) | omega | (simp only [lens, rmac_len, List.flatten_cons, List.flatten_nil, List.append_nil, List.length_cons, List.length_nil, Cs.len, List.length_map, List.length_set, List.length_replicate, *]; first | done | omega) | decide | (split <;> simp only [lens, rmac_len, List.flatten_cons, List.flatten_nil, List.append_nil, List.length_cons, List.length_nil, Cs.len, List.length_map, List.length_set, List.length_replicate, *]) | (with_reducible exact Lt.mono (by assumption) (by decide)) | (simp only [Cs.len]; done) | rfl) (by first | (with_reducible assumption) | omega | (simp only [lens, rmac_len, List.flatten_cons, List.flatten_nil, List.append_nil, List.length_cons, List.length_nil, Cs.len, List.length_map, List.length_set, List.length_replicate, *]; first | done | omega) | decide | (split <;> simp only [lens, rmac_len, List.flatten_cons, List.flatten_nil, List.append_nil, List.length_cons, List.length_nil, Cs.len, List.length_map, List.length_set, List.length_replicate, *]) | (with_reducible exact Lt.mono (by assumption) (by decide)) | (simp only [Cs.len]; done) | rfl)) rfl ?_
        refine OpsFrom.v (Y.assign (up0 rfl rfl rfl) rfl rfl) rfl ?_
        refine OpsFrom.nil ?_
        refine Holds.freezeV 9 12 rfl rfl (.all rfl (by first | (with_reducible assumption) | omega | (simp only [lens, rmac_len, List.flatten_cons, List.flatten_nil, List.append_nil, List.length_cons, List.length_nil, Cs.len, List.length_map, List.length_set, List.length_replicate, *]; first | done | omega) | decide | (split <;> simp only [lens, rmac_len, List.flatten_cons, List.flatten_nil, List.append_nil, List.length_cons, List.length_nil, Cs.len, List.length_map, List.length_set, List.length_replicate, *]) | (with_reducible exact Lt.mono (by assumption) (by decide)) | (simp only [Cs.len]; done) | rfl)) ?_
        refine Holds.reg ?_
        refine OpsFrom.v (Y.move (up0 rfl rfl rfl) rfl rfl) rfl ?_
        refine OpsFrom.v (Y.move (up0 rfl rfl rfl) rfl rfl) rfl ?_
        refine OpsFrom.u (Y.app (d := 38) ty22 ty5 rfl ty22 (by decide) (up0 rfl rfl rfl) rfl rfl rfl (.all rfl (by first | (with_reducible assumption) | omega | (simp only [lens, rmac_len, List.flatten_cons, List.flatten_nil, List.append_nil, List.length_cons, List.length_nil, Cs.len, List.length_map, List.length_set, List.length_replicate, *]; first | done | omega) | decide | (split <;> simp only [lens, rmac_len, List.flatten_cons, List.flatten_nil, List.append_nil, List.length_cons, List.length_nil, Cs.len, List.length_map, List.length_set, List.length_replicate, *]) | (with_reducible exact Lt.mono (by assumption) (by decide)) | (simp only [Cs.len]; done) | rfl)) rfl (.bs _ _ _) App.i (by first | (with_reducible assumption) | omega | (simp only [lens, rmac_len, List.flatten_cons, List.flatten_nil, List.append_nil, List.length_cons, List.length_nil, Cs.len, List.length_map, List.length_set, List.length_replicate, *]; first | done | omega) | decide | (split <;> simp only [lens, rmac_len, List.flatten_cons, List.flatten_nil, List.append_nil, List.length_cons, List.length_nil, Cs.len, List.length_map, List.length_set, List.length_replicate, *]) | (with_reducible exact Lt.mono (by assumption) (by decide)) | (simp only [Cs.len]; done) | rfl) rfl (by first | (simp; done) | (rintro ⟨_, _, _, h⟩; cases h))) rfl rfl rfl ?_
        refine OpsFrom.v (Y.assign (up0 rfl rfl rfl) rfl rfl) rfl ?_
        refine OpsFrom.nil ?_
        refine Holds.reg ?_
        refine OpsFrom.v (Y.move (up0 rfl rfl rfl) rfl rfl) rfl ?_
        refine OpsFrom.v (Y.addI (b := 1) (up0 rfl rfl rfl) rfl rfl rfl (by first | (with_reducible assumption) | omega | (simp only [lens, rmac_len, List.flatten_cons, List.flatten_nil, List.append_nil, List.length_cons, List.length_nil, Cs.len, List.length_map, List.length_set, List.length_replicate, *]; first | done | omega) | decide | (split <;> simp only [lens, rmac_len, List.flatten_cons, List.flatten_nil, List.append_nil, List.length_cons, List.length_nil, Cs.len, List.length_map, List.length_set, List.length_replicate, *]) | (with_reducible exact Lt.mono (by assumption) (by decide)) | (simp only [Cs.len]; done) | rfl)) rfl ?_
        refine OpsFrom.v (Y.assign (up0 rfl rfl rfl) rfl rfl) rfl ?_
        refine OpsFrom.nil ?_
        exact Holds.again (i1_ + 1) (by omega) (by omega) [(8, 38)] ⟨⟨rfl, rfl, rfl, rfl, rfl, (sgEq (congrArg List.length (by rw [rexp_it1_s]; unfold rexp_s1; first | (dsimp only; done) | rfl)) rfl), (bsEq (by rw [rexp_it1_s]; unfold rexp_s1; first | (dsimp only; done) | rfl)), (nEq (by omega)), trivial⟩, ⟨(hEq (by rw [rexp_it1_s]; unfold rexp_s1; first | (dsimp only; done) | rfl)), trivial⟩, rfl, rfl⟩
      · have h1c : ¬ (i1_ < ((n.toNat + 63) / 64)) := fun q => h20 ((rexp_iff secret info k1_).2 q)
        obtain rfl : i1_ = ((n.toNat + 63) / 64) := by omega
        have hn := rexp_n secret info ((n.toNat + 63) / 64)
        refine Holds.exit ?_
        refine Holds.seq ?_
        refine Holds.reg ?_
        refine OpsFrom.v (Y.move (up0 rfl rfl rfl) rfl rfl) rfl ?_
        refine OpsFrom.v (Y.move (up0 rfl rfl rfl) rfl rfl) rfl ?_
        refine OpsFrom.v (Y.slSg0 ty22 ty5 (up0 rfl rfl rfl) rfl rfl bnd0 (bnd1 rfl) (by first | (with_reducible assumption) | omega | (simp only [lens, List.flatten_cons, List.flatten_nil, List.append_nil, List.length_cons, List.length_nil, Cs.len, List.length_map, List.length_set, List.length_replicate, *]; first | done | omega) | decide | (split <;> simp only [lens, List.flatten_cons, List.flatten_nil, List.append_nil, List.length_cons, List.length_nil, Cs.len, List.length_map, List.length_set, List.length_replicate, *]) | (with_reducible exact Lt.mono (by assumption) (by decide)) | (simp only [Cs.len]; done) | rfl) (by first | (with_reducible assumption) | omega | (simp only [lens, List.flatten_cons, List.flatten_nil, List.append_nil, List.length_cons, List.length_nil, Cs.len, List.length_map, List.length_set, List.length_replicate, *]; first | done | omega) | decide | (split <;> simp only [lens, List.flatten_cons, List.flatten_nil, List.append_nil, List.length_cons, List.length_nil, Cs.len, List.length_map, List.length_set, List.length_replicate, *]) | (with_reducible exact Lt.mono (by assumption) (by decide)) | (simp only [Cs.len]; done) | rfl)) rfl ?_
        refine OpsFrom.v (Y.assign (up0 rfl rfl rfl) rfl rfl) rfl ?_
        refine OpsFrom.v (Y.assign (v := (.one (.n .i64 0))) (up0 rfl rfl rfl) rfl rfl) rfl ?_
        refine OpsFrom.nil ?_
        refine Holds.ret ?_
        exact Holds.ret2 (.inl rfl) rfl (.tmp _ _ rfl) (.tmp _ _ rfl) (View.cg (congrArg (fun z => (.two (.one (.bs false .u8 z.1)) (.one (.n .i64 z.2)) : AV)) (show (rexp secret info n) = _ from (by unfold rexp; exact (if_neg h14).trans (if_neg h16)))) (.two _ _ _ _ (.sg _ _ _ _ _ _ rfl rfl (by first | (with_reducible assumption) | omega | (simp only [lens, List.flatten_cons, List.flatten_nil, List.append_nil, List.length_cons, List.length_nil, Cs.len, List.length_map, List.length_set, List.length_replicate, *]; first | done | omega) | decide | (split <;> simp only [lens, List.flatten_cons, List.flatten_nil, List.append_nil, List.length_cons, List.length_nil, Cs.len, List.length_map, List.length_set, List.length_replicate, *]) | (with_reducible exact Lt.mono (by assumption) (by decide)) | (simp only [Cs.len]; done) | rfl)) (.same _))) rfl


end Go.Proofs.Ytjgcmfedofmkpaa
