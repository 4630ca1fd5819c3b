/-
  Walks: Expand.
-/
import Derived.Test.YtjgcmfedofmkpaaKd
import Derived.Test.YtjgcmfedofmkpaaKc
import Derived.Test.YtjgcmfedofmkpaaSm
namespace Go.Proofs.Ytjgcmfedofmkpaa
open Go Go.Fx
set_option linter.unusedVariables false
set_option linter.unusedSimpArgs false
def kexp_s1 (key : List Nat) (use_ : List Nat) (i1_ : Nat) (m1_ : (List Nat) × (List Nat) × (List Nat)) : (List Nat) × (List Nat) × (List Nat) :=
  let v3_ : List Nat := m1_.1 ++ ((knext m1_.2.2 key m1_.2.1 use_).1)
  (v3_, (knext m1_.2.2 key m1_.2.1 use_).1, (knext m1_.2.2 key m1_.2.1 use_).2)
def kexp_it1 (key : List Nat) (use_ : List Nat) (i1_ : Nat) : (List Nat) × (List Nat) × (List Nat) := iter (kexp_s1 key use_) i1_ ([], [], [0].set 0 0)
theorem kexp_it1_z (key : List Nat) (use_ : List Nat) : kexp_it1 key use_ 0 = ([], [], [0].set 0 0) := rfl
theorem kexp_it1_s (key : List Nat) (use_ : List Nat) (i1_ : Nat) : kexp_it1 key use_ (i1_ + 1) = kexp_s1 key use_ i1_ (kexp_it1 key use_ i1_) := by unfold kexp_it1; exact iterS _ _ _
theorem kexp_n (key use_ : List Nat) : ∀ i, (kexp_it1 key use_ i).1.length = 64 * i ∧ (kexp_it1 key use_ i).2.1.length ≤ 64 ∧ (kexp_it1 key use_ i).2.2.length = 1
  | 0 => ⟨rfl, Nat.zero_le _, rfl⟩
  | i + 1 => by
    obtain ⟨h1, h2, h3⟩ := kexp_n key use_ i
    rw [kexp_it1_s]
    unfold kexp_s1
    dsimp only
    rw [List.length_append, knext_l, knext_l2, h1, h3]
    exact ⟨by omega, Nat.le_refl _, rfl⟩
theorem kexp_iff (key use_ : List Nat) {n : Int} {i : Nat} (hi : i ≤ ((n.toNat + 63) / 64)) : ((kexp_it1 key use_ i).1.length < n.toNat) ↔ i < ((n.toNat + 63) / 64) := by
  rw [(kexp_n key use_ i).1]
  omega
def kexp (key : List Nat) (use_ : List Nat) (n : Int) : (List Nat) × Nat :=
  if n < ((0 : Nat) : Int) then
    ([], 1)
  else
    if ((16320 : Nat) : Int) < n then
      ([], 50)
    else
      (((kexp_it1 key use_ ((n.toNat + 63) / 64)).1).take n.toNat, 0)
theorem w_kexp (key : List Nat) (use_ : List Nat) (n : Int) (h_key : key.length ≤ 524288) (h_use : use_.length ≤ 262144) : VF Try.prog 35 [.one (.bs false .u8 key), .one (.bs false .u8 use_), .one (.z n)] (.two (.one (.sg 0 0 ((kexp key use_ n).1).length)) (.one (.n .i64 ((kexp key use_ n).2)))) .u8 ((kexp key use_ n).1) := by
  refine VF.go Try.func35 rfl Try.ntmps35 rfl rfl fun O w => ?_
  refine Holds.seq ?_
  refine Holds.reg ?_
  refine OpsFrom.u (Y.boxS (d := 3) (up0 rfl rfl rfl) rfl rfl rfl) rfl rfl rfl ?_
  refine OpsFrom.u (Y.boxS (d := 4) (up0 rfl rfl rfl) rfl rfl rfl) rfl rfl rfl ?_
  refine OpsFrom.v (Y.assign (up0 rfl rfl rfl) rfl rfl) rfl ?_
  refine OpsFrom.v (Y.assign (v := (.one (.n .i64 0))) (up0 rfl rfl rfl) rfl rfl) rfl ?_
  refine OpsFrom.nil ?_
  refine Holds.scopeL 0 (fun (i1_ : Nat) => ⟨[(2, .one (.n .i64 n.toNat)), (6, .one (.nil)), (7, .one (.n .i64 0)), (8, .one (.sg 8 0 (((kexp_it1 key use_ i1_).1).length))), (9, .one (.p 9 0)), (11, .one (.fn 47 [10, 3, 9, 4]))], [(8, .own (.ints .u8 ((kexp_it1 key use_ i1_).1))), (9, .own (.mix [.bs false .u8 ((kexp_it1 key use_ i1_).2.1)])), (10, .own (.ints .u8 ((kexp_it1 key use_ i1_).2.2))), (3, .own (.mix [.bs false .u8 key])), (4, .own (.mix [.bs false .u8 use_]))]⟩) (fun (i1_ : Nat) => i1_ ≤ ((n.toNat + 63) / 64) ∧ 0 ≤ n ∧ n ≤ 16320) (fun (i1_ : Nat) => ((n.toNat + 63) / 64) - i1_) rfl (fun i1_ k1_ => ?_) (fun again => ?_)
  · obtain ⟨k1_, hq0, hq1⟩ := k1_
    have h12 : ¬ (n < ((0 : Nat) : Int)) := by omega
    have h15 : ¬ (((16320 : Nat) : Int) < n) := by omega
    obtain ⟨hn1, hn2, hn3⟩ := kexp_n key use_ i1_
    refine Holds.seq ?_
    refine Holds.seq ?_
    refine Holds.reg ?_
    refine OpsFrom.v (Y.move (up0 rfl rfl rfl) rfl rfl) rfl ?_
    refine OpsFrom.v (Y.len ty22 (up0 rfl rfl rfl) rfl rfl rfl rfl) rfl ?_
    refine OpsFrom.v (Y.move (up0 rfl rfl rfl) rfl rfl) rfl ?_
    refine OpsFrom.v (Y.lss (up0 rfl rfl rfl) rfl rfl rfl) rfl ?_
    refine OpsFrom.nil ?_
    refine Holds.condD rfl (fun h22 => ?_) (fun h22 => ?_)
    · have h1c := (kexp_iff key use_ k1_).1 h22
      refine Holds.seq ?_
      refine Holds.reg ?_
      refine OpsFrom.v (Y.move (up0 rfl rfl rfl) rfl rfl) rfl ?_
      refine OpsFrom.u (Y.callUI (vs := []) (ids := [10, 3, 9, 4]) (w_knext _ _ _ _ (by decide) _ _ _ _ (by first | (with_reducible assumption) | omega | (simp only [lens, knext_l, knext_l2, List.flatten_cons, List.flatten_nil, List.append_nil, List.length_cons, List.length_nil, Cs.len, List.length_map, List.length_set, List.length_replicate, *]; first | done | omega) | decide | (split <;> simp only [lens, knext_l, knext_l2, List.flatten_cons, List.flatten_nil, List.append_nil, List.length_cons, List.length_nil, Cs.len, List.length_map, List.length_set, List.length_replicate, *]) | (with_reducible exact Lt.mono (by assumption) (by decide)) | (simp only [Cs.len]; done) | rfl) (by first | (with_reducible assumption) | omega | (simp only [lens, knext_l, knext_l2, List.flatten_cons, List.flatten_nil, List.append_nil, List.length_cons, List.length_nil, Cs.len, List.length_map, List.length_set, List.length_replicate, *]; first | done | omega) | decide | (split <;> simp only [lens, knext_l, knext_l2, List.flatten_cons, List.flatten_nil, List.append_nil, List.length_cons, List.length_nil, Cs.len, List.length_map, List.length_set, List.length_replicate, *]) | (with_reducible exact Lt.mono (by assumption) (by decide)) | (simp only [Cs.len]; done) | rfl) (by first | (with_reducible assumption) | omega | (simp only [lens, knext_l, knext_l2, List.flatten_cons, List.flatten_nil, List.append_nil, List.length_cons, List.length_nil, Cs.len, List.length_map, List.length_set, List.length_replicate, *]; first | done | omega) | decide | (split <;> simp only [lens, knext_l, knext_l2, List.flatten_cons, List.flatten_nil, List.append_nil, List.length_cons, List.length_nil, Cs.len, List.length_map, List.length_set, List.length_replicate, *]) | (with_reducible exact Lt.mono (by assumption) (by decide)) | (simp only [Cs.len]; done) | rfl) (by first | (with_reducible assumption) | omega | (simp only [lens, knext_l, knext_l2, List.flatten_cons, List.flatten_nil, List.append_nil, List.length_cons, List.length_nil, Cs.len, List.length_map, List.length_set, List.length_replicate, *]; first | done | omega) | decide | (split <;> simp only [lens, knext_l, knext_l2, List.flatten_cons, List.flatten_nil, List.append_nil, List.length_cons, List.length_nil, Cs.len, List.length_map, List.length_set, List.length_replicate, *]) | (with_reducible exact Lt.mono (by assumption) (by decide)) | (simp only [Cs.len]; done) | rfl)) fnok47 (up0 rfl rfl rfl) rfl rfl .nil (ownLc (n := 1) rfl (by first | (with_reducible assumption) | omega | (simp only [lens, knext_l, knext_l2, List.flatten_cons, List.flatten_nil, List.append_nil, List.length_cons, List.length_nil, Cs.len, List.length_map, List.length_set, List.length_replicate, *]; first | done | omega) | decide | (split <;> simp only [lens, knext_l, knext_l2, List.flatten_cons, List.flatten_nil, List.append_nil, List.length_cons, List.length_nil, Cs.len, List.length_map, List.length_set, List.length_replicate, *]) | (with_reducible exact Lt.mono (by assumption) (by decide)) | (simp only [Cs.len]; done) | rfl) (by decide) (ownLc (n := 1) rfl (by first | (with_reducible assumption) | omega | (simp only [lens, knext_l, knext_l2, List.flatten_cons, List.flatten_nil, List.append_nil, List.length_cons, List.length_nil, Cs.len, List.length_map, List.length_set, List.length_replicate, *]; first | done | omega) | decide | (split <;> simp only [lens, knext_l, knext_l2, List.flatten_cons, List.flatten_nil, List.append_nil, List.length_cons, List.length_nil, Cs.len, List.length_map, List.length_set, List.length_replicate, *]) | (with_reducible exact Lt.mono (by assumption) (by decide)) | (simp only [Cs.len]; done) | rfl) (by decide) (ownLc (n := 1) rfl (by first | (with_reducible assumption) | omega | (simp only [lens, knext_l, knext_l2, List.flatten_cons, List.flatten_nil, List.append_nil, List.length_cons, List.length_nil, Cs.len, List.length_map, List.length_set, List.length_replicate, *]; first | done | omega) | decide | (split <;> simp only [lens, knext_l, knext_l2, List.flatten_cons, List.flatten_nil, List.append_nil, List.length_cons, List.length_nil, Cs.len, List.length_map, List.length_set, List.length_replicate, *]) | (with_reducible exact Lt.mono (by assumption) (by decide)) | (simp only [Cs.len]; done) | rfl) (by decide) (ownLc (n := 1) rfl (by first | (with_reducible assumption) | omega | (simp only [lens, knext_l, knext_l2, List.flatten_cons, List.flatten_nil, List.append_nil, List.length_cons, List.length_nil, Cs.len, List.length_map, List.length_set, List.length_replicate, *]; first | done | omega) | decide | (split <;> simp only [lens, knext_l, knext_l2, List.flatten_cons, List.flatten_nil, List.append_nil, List.length_cons, List.length_nil, Cs.len, List.length_map, List.length_set, List.length_replicate, *]) | (with_reducible exact Lt.mono (by assumption) (by decide)) | (simp only [Cs.len]; done) | rfl) (by decide) (ownLn _))))) rfl (by simp) rfl) rfl rfl rfl ?_
      refine OpsFrom.n (Y.stM (_n := 1) ty22 (upN rfl rfl) rfl rfl rfl rfl rfl (by first | decide | exact Nat.lt_of_sub_eq_succ rfl)) rfl rfl ?_
      refine OpsFrom.nil ?_
      refine Holds.seq ?_
      refine Holds.reg ?_
      refine OpsFrom.v (Y.move (up0 rfl rfl rfl) rfl rfl) rfl ?_
      refine OpsFrom.v (Y.ld ty22 rfl (up0 rfl rfl rfl) rfl rfl rfl (by first | decide | exact Nat.lt_of_sub_eq_succ rfl)) rfl ?_
      refine OpsFrom.u (Y.app (d := 27) ty22 ty5 rfl ty22 (by decide) (up0 rfl rfl rfl) rfl rfl rfl (.all rfl (by first | (with_reducible assumption) | omega | (simp only [lens, knext_l, knext_l2, List.flatten_cons, List.flatten_nil, List.append_nil, List.length_cons, List.length_nil, Cs.len, List.length_map, List.length_set, List.length_replicate, *]; first | done | omega) | decide | (split <;> simp only [lens, knext_l, knext_l2, List.flatten_cons, List.flatten_nil, List.append_nil, List.length_cons, List.length_nil, Cs.len, List.length_map, List.length_set, List.length_replicate, *]) | (with_reducible exact Lt.mono (by assumption) (by decide)) | (simp only [Cs.len]; done) | rfl)) rfl (.bs _ _ _) App.i (by first | (with_reducible assumption) | omega | (simp only [lens, knext_l, knext_l2, List.flatten_cons, List.flatten_nil, List.append_nil, List.length_cons, List.length_nil, Cs.len, List.length_map, List.length_set, List.length_replicate, *]; first | done | omega) | decide | (split <;> simp only [lens, knext_l, knext_l2, List.flatten_cons, List.flatten_nil, List.append_nil, List.length_cons, List.length_nil, Cs.len, List.length_map, List.length_set, List.length_replicate, *]) | (with_reducible exact Lt.mono (by assumption) (by decide)) | (simp only [Cs.len]; done) | rfl) rfl (by first | (simp; done) | (rintro ⟨_, _, _, h⟩; cases h))) rfl rfl rfl ?_
      refine OpsFrom.v (Y.assign (up0 rfl rfl rfl) rfl rfl) rfl ?_
      refine OpsFrom.nil ?_
      refine Holds.goto ?_
      exact Holds.jump (Q := fun _ _ _ => True) (i1_ + 1) ⟨by omega, hq0, hq1⟩ (by omega) [(8, 27)] ⟨⟨rfl, rfl, rfl, (sgEq (congrArg List.length (by rw [kexp_it1_s]; unfold kexp_s1; first | (dsimp only; done) | rfl)) rfl), rfl, rfl, trivial⟩, ⟨(hEq (by rw [kexp_it1_s]; unfold kexp_s1; first | (dsimp only; done) | rfl)), (mbEq (by rw [kexp_it1_s]; unfold kexp_s1; first | (dsimp only; done) | rfl)), (hEq (by rw [kexp_it1_s]; unfold kexp_s1; first | (dsimp only; done) | rfl)), rfl, rfl, trivial⟩, rfl, rfl⟩
    · have h1c : ¬ (i1_ < ((n.toNat + 63) / 64)) := fun q => h22 ((kexp_iff key use_ k1_).2 q)
      obtain rfl : i1_ = ((n.toNat + 63) / 64) := by omega
      refine Holds.skip ?_
      refine Holds.seq ?_
      refine Holds.reg ?_
      refine OpsFrom.v (Y.move (up0 rfl rfl rfl) rfl rfl) rfl ?_
      refine OpsFrom.v (Y.move (up0 rfl rfl rfl) rfl rfl) rfl ?_
      refine OpsFrom.v (Y.move (up0 rfl rfl rfl) rfl rfl) rfl ?_
      refine OpsFrom.v (Y.slSg3 ty22 ty5 (up0 rfl rfl rfl) rfl rfl bnd0 rfl rfl (by first | (with_reducible assumption) | omega | (simp only [lens, List.flatten_cons, List.flatten_nil, List.append_nil, List.length_cons, List.length_nil, Cs.len, List.length_map, List.length_set, List.length_replicate, *]; first | done | omega) | decide | (split <;> simp only [lens, List.flatten_cons, List.flatten_nil, List.append_nil, List.length_cons, List.length_nil, Cs.len, List.length_map, List.length_set, List.length_replicate, *]) | (with_reducible exact Lt.mono (by assumption) (by decide)) | (simp only [Cs.len]; done) | rfl) (by first | (with_reducible assumption) | omega | (simp only [lens, List.flatten_cons, List.flatten_nil, List.append_nil, List.length_cons, List.length_nil, Cs.len, List.length_map, List.length_set, List.length_replicate, *]; first | done | omega) | decide | (split <;> simp only [lens, List.flatten_cons, List.flatten_nil, List.append_nil, List.length_cons, List.length_nil, Cs.len, List.length_map, List.length_set, List.length_replicate, *]) | (with_reducible exact Lt.mono (by assumption) (by decide)) | (simp only [Cs.len]; done) | rfl)) rfl ?_
      refine OpsFrom.v (Y.assign (up0 rfl rfl rfl) rfl rfl) rfl ?_
      refine OpsFrom.v (Y.assign (v := (.one (.n .i64 0))) (up0 rfl rfl rfl) rfl rfl) rfl ?_
      refine OpsFrom.nil ?_
      refine Holds.takeB 8 n.toNat rfl ?_
      refine Holds.castV 6 rfl (show _ = AV.one (.sg 8 0 (((kexp_it1 key use_ ((n.toNat + 63) / 64)).1).take n.toNat).length) from congrArg (fun l => AV.one (.sg 8 0 l)) (by rw [List.length_take]; omega)) ?_
      refine Holds.ret ?_
      exact Holds.retF (id := 8) (.inl rfl) rfl (.two _ _ _ _ (.tmp _ _ rfl) (.tmp _ _ rfl)) (by rw [show (kexp key use_ n) = _ from (by unfold kexp; exact (if_neg h12).trans (if_neg h15))]; first | rfl | (dsimp only; rfl)) rfl (by rw [show (kexp key use_ n) = _ from (by unfold kexp; exact (if_neg h12).trans (if_neg h15))]; first | rfl | (dsimp only; rfl))
  · refine Holds.seq ?_
    refine Holds.block ?_
    refine Holds.seq ?_
    refine Holds.reg ?_
    refine OpsFrom.v (Y.move (up0 rfl rfl rfl) rfl rfl) rfl ?_
    refine OpsFrom.v (Y.lssZ (b := 0) (up0 rfl rfl rfl) rfl rfl rfl rfl rfl) rfl ?_
    refine OpsFrom.v (Y.assign (up0 rfl rfl rfl) rfl rfl) rfl ?_
    refine OpsFrom.nil ?_
    refine Holds.condD rfl (fun h12 => ?_) (fun h12 => ?_)
    · refine Holds.seq ?_
      refine Holds.reg ?_
      refine OpsFrom.v (Y.assign (up0 rfl rfl rfl) rfl rfl) rfl ?_
      refine OpsFrom.v (Y.assign (v := (.one (.n .i64 1))) (up0 rfl rfl rfl) rfl rfl) rfl ?_
      refine OpsFrom.nil ?_
      refine Holds.grow 6 99 (.ints .u8 []) rfl rfl rfl ?_
      refine Holds.ret ?_
      exact Holds.retF (id := 99) (.inl rfl) rfl (.two _ _ _ _ (.tmp _ _ rfl) (.tmp _ _ rfl)) (by rw [show (kexp key use_ n) = _ from (by unfold kexp; exact (if_pos h12))]; first | rfl | (dsimp only; rfl)) rfl (by rw [show (kexp key use_ n) = _ from (by unfold kexp; exact (if_pos h12))]; first | rfl | (dsimp only; rfl))
    · refine Holds.seq ?_
      refine Holds.reg ?_
      refine OpsFrom.v (Y.move (up0 rfl rfl rfl) rfl rfl) rfl ?_
      refine OpsFrom.v (Y.gtrZ (b := 16320) (up0 rfl rfl rfl) rfl rfl rfl rfl rfl) rfl ?_
      refine OpsFrom.v (Y.assign (up0 rfl rfl rfl) rfl rfl) rfl ?_
      refine OpsFrom.nil ?_
      refine Holds.condD rfl (fun h15 => ?_) (fun h15 => ?_)
      · refine Holds.seq ?_
        refine Holds.reg ?_
        refine OpsFrom.v (Y.assign (up0 rfl rfl rfl) rfl rfl) rfl ?_
        refine OpsFrom.v (Y.assign (v := (.one (.n .i64 50))) (up0 rfl rfl rfl) rfl rfl) rfl ?_
        refine OpsFrom.nil ?_
        refine Holds.grow 6 99 (.ints .u8 []) rfl rfl rfl ?_
        refine Holds.ret ?_
        exact Holds.retF (id := 99) (.inl rfl) rfl (.two _ _ _ _ (.tmp _ _ rfl) (.tmp _ _ rfl)) (by rw [show (kexp key use_ n) = _ from (by unfold kexp; exact (if_neg h12).trans (if_pos h15))]; first | rfl | (dsimp only; rfl)) rfl (by rw [show (kexp key use_ n) = _ from (by unfold kexp; exact (if_neg h12).trans (if_pos h15))]; first | rfl | (dsimp only; rfl))
      · refine Holds.skip ?_
        refine Holds.seq ?_
        refine Holds.nat 2 rfl (n).toNat (by first | (with_reducible assumption) | omega | (simp only [lens, List.flatten_cons, List.flatten_nil, List.append_nil, List.length_cons, List.length_nil, Cs.len, List.length_map, List.length_set, List.length_replicate, *]; first | done | omega) | decide | (split <;> simp only [lens, List.flatten_cons, List.flatten_nil, List.append_nil, List.length_cons, List.length_nil, Cs.len, List.length_map, List.length_set, List.length_replicate, *]) | (with_reducible exact Lt.mono (by assumption) (by decide)) | (simp only [Cs.len]; done) | rfl) ?_
        refine Holds.reg ?_
        refine OpsFrom.v (Y.assign (up0 rfl rfl rfl) rfl rfl) rfl ?_
        refine OpsFrom.u (Y.alloc (d := 9) ty22 rfl rfl (up0 rfl rfl rfl) rfl) rfl rfl rfl ?_
        refine OpsFrom.nil ?_
        refine Holds.seq ?_
        refine Holds.reg ?_
        refine OpsFrom.u (Y.alloc (d := 10) ty5 rfl rfl (up0 rfl rfl rfl) rfl) rfl rfl rfl ?_
        refine OpsFrom.n (Y.stI ty5 (upN rfl rfl) rfl rfl rfl rfl (by first | (with_reducible assumption) | omega | (simp only [lens, List.flatten_cons, List.flatten_nil, List.append_nil, List.length_cons, List.length_nil, Cs.len, List.length_map, List.length_set, List.length_replicate, *]; first | done | omega) | decide | (split <;> simp only [lens, List.flatten_cons, List.flatten_nil, List.append_nil, List.length_cons, List.length_nil, Cs.len, List.length_map, List.length_set, List.length_replicate, *]) | (with_reducible exact Lt.mono (by assumption) (by decide)) | (simp only [Cs.len]; done) | rfl)) rfl rfl ?_
        refine OpsFrom.nil ?_
        refine Holds.seq ?_
        refine Holds.cellNil 9 rfl ?_
        refine Holds.reg ?_
        refine OpsFrom.v (Y.mkF (up0 rfl rfl rfl) rfl (.cons _ _ _ _ rfl (.cons _ _ _ _ rfl (.cons _ _ _ _ rfl (.cons _ _ _ _ rfl Caps.nil))))) rfl ?_
        refine OpsFrom.v (Y.assign (up0 rfl rfl rfl) rfl rfl) rfl ?_
        refine OpsFrom.nil ?_
        refine Holds.seq ?_
        refine Holds.label ?_
        refine Holds.grow 8 8 (.ints .u8 []) rfl rfl rfl ?_
        refine again _ 0 [] ⟨by omega, by omega, by omega⟩ ?_
        exact ⟨⟨rfl, rfl, rfl, rfl, rfl, rfl, trivial⟩, ⟨(hEq (congrArg (fun (s : (List Nat) × (List Nat) × (List Nat)) => s.1) (kexp_it1_z key use_)).symm), (mbEq (congrArg (fun (s : (List Nat) × (List Nat) × (List Nat)) => s.2.1) (kexp_it1_z key use_)).symm), (hEq (congrArg (fun (s : (List Nat) × (List Nat) × (List Nat)) => s.2.2) (kexp_it1_z key use_)).symm), rfl, rfl, trivial⟩, rfl, rfl⟩

attribute [irreducible] kexp
theorem w_kexpn (key : List Nat) (use_ : List Nat) (n : Nat) (h_key : key.length ≤ 524288) (h_use : use_.length ≤ 262144) : VF Try.prog 35 [.one (.bs false .u8 key), .one (.bs false .u8 use_), .one (.n .i64 n)] (.two (.one (.sg 0 0 ((kexp key use_ ((n : Nat) : Int)).1).length)) (.one (.n .i64 ((kexp key use_ ((n : Nat) : Int)).2)))) .u8 ((kexp key use_ ((n : Nat) : Int)).1) :=
  VF.n3 (w_kexp key use_ n h_key h_use)

end Go.Proofs.Ytjgcmfedofmkpaa
