/-
  Walks: MacParts.
-/
import Derived.Test.YtjgcmfedofmkpaaMe
import Derived.Test.YtjgcmfedofmkpaaLe
namespace Go.Proofs.Ytjgcmfedofmkpaa
open Go Go.Fx
set_option linter.unusedVariables false
set_option linter.unusedSimpArgs false
def mparts_s1 (a : List Nat) (cuts : List Nat) (i1_ : Nat) (m1_ : (List Nat) × (List (List Nat))) : (List Nat) × (List (List Nat)) :=
  let v5_ : Nat := Min.min ((cuts.getD i1_ 0) % 200) m1_.1.length
  let v6_ : List Nat := (m1_.1.drop v5_).take (m1_.1.length - v5_)
  (v6_, m1_.2 ++ [(m1_.1.drop 0).take (v5_ - 0)])
def mparts_it1 (a : List Nat) (cuts : List Nat) (i1_ : Nat) : (List Nat) × (List (List Nat)) := iter (mparts_s1 a cuts) i1_ (a, [])
theorem mparts_it1_z (a : List Nat) (cuts : List Nat) : mparts_it1 a cuts 0 = (a, []) := rfl
theorem mparts_it1_s (a : List Nat) (cuts : List Nat) (i1_ : Nat) : mparts_it1 a cuts (i1_ + 1) = mparts_s1 a cuts i1_ (mparts_it1 a cuts i1_) := by unfold mparts_it1; exact iterS _ _ _
theorem mparts_f (a cuts : List Nat) : ∀ i, (mparts_it1 a cuts i).2.flatten ++ (mparts_it1 a cuts i).1 = a ∧ (mparts_it1 a cuts i).2.length = i
  | 0 => ⟨rfl, rfl⟩
  | i + 1 => by
    obtain ⟨h1, h2⟩ := mparts_f a cuts i
    rw [mparts_it1_s]
    simp only [mparts_s1, List.flatten_append, List.flatten_cons, List.flatten_nil, List.append_nil, List.length_append, List.length_cons, List.length_nil]
    refine ⟨?_, by omega⟩
    conv => rhs; rw [← h1]
    rw [List.append_assoc, List.drop_zero, Nat.sub_zero, List.take_of_length_le (l := List.drop _ _) (by simp), List.take_append_drop]
theorem mparts_i {a : List Nat} (ba : Lt 256 a) (cuts : List Nat) (i : Nat) : ∀ t ∈ (mparts_it1 a cuts i).2 ++ [(mparts_it1 a cuts i).1], Lt 256 t := by
  have hl := lt_of_app (mparts_f a cuts i).1 ba
  have hm : ∀ t ∈ (mparts_it1 a cuts i).2, Lt 256 t := fun t ht => Lt.of_mem (by decide) (fun x hx => hl.1.mem x (List.mem_flatten.2 ⟨t, ht, hx⟩))
  intro t ht
  rcases List.mem_append.1 ht with k | k
  · exact hm t k
  · simp only [List.mem_singleton] at k
    exact k ▸ hl.2
theorem mparts_e (a cuts : List Nat) (i : Nat) : ((mparts_it1 a cuts i).2 ++ [(mparts_it1 a cuts i).1]).flatten = a := by
  rw [List.flatten_append, List.flatten_cons, List.flatten_nil, List.append_nil]
  exact (mparts_f a cuts i).1
theorem mparts_h {a cuts : List Nat} {i : Nat} (h : i ≤ 20) (ht : a.length ≤ 1000) : ((mparts_it1 a cuts i).2 ++ [(mparts_it1 a cuts i).1]).flatten.length ≤ 524288 ∧ ((mparts_it1 a cuts i).2 ++ [(mparts_it1 a cuts i).1]).length ≤ 1000000 := by
  refine ⟨by rw [mparts_e]; omega, ?_⟩
  rw [List.length_append, (mparts_f a cuts i).2]
  simp
  omega
theorem mparts_1 {key a : List Nat} (bk : Lt 256 key) (ba : Lt 256 a) (cuts : List Nat) (i : Nat) : mac key ((mparts_it1 a cuts i).2 ++ [(mparts_it1 a cuts i).1]) = mac key [a] := by
  rw [mac_eq bk (mparts_i ba cuts i), mparts_e, mac_one bk ba]
theorem w_mparts (key : List Nat) (a : List Nat) (cuts : List Nat)  : VC Try.prog 9 [.one (.bs false .u8 key), .one (.bs false .u8 a), .one (.bs false .u16 cuts)] (.one (.b true)) := by
  refine VC.go Try.func9 rfl Try.ntmps9 rfl rfl fun O w => ?_
  refine Holds.ltBs 0 rfl u8s u8m (fun bk => ?_)
  refine Holds.ltBs 1 rfl u8s u8m (fun ba => ?_)
  refine Holds.seq ?_
  refine Holds.reg ?_
  refine OpsFrom.v (Y.assign (up0 rfl rfl rfl) rfl rfl) rfl ?_
  refine OpsFrom.nil ?_
  refine Holds.seq ?_
  refine Holds.reg ?_
  refine OpsFrom.v (Y.callV w_mawake fnok30 (up0 rfl rfl rfl) rfl rfl .nil .nil rfl rfl) rfl ?_
  refine OpsFrom.v (Y.assign (up0 rfl rfl rfl) rfl rfl) rfl ?_
  refine OpsFrom.nil ?_
  refine Holds.seq ?_
  refine Holds.seqJoin ⟨[(0, .one (.bs false .u8 key)), (1, .one (.bs false .u8 a)), (2, .one (.bs false .u16 cuts)), (6, .one (.b false)), (7, .one (.b true)), (20, .one (.b (decide ((1000 < key.length) ∨ (1000 < a.length)))))], []⟩ ?_ (fun join => ?_)
  · refine Holds.condD rfl (fun h20 => ?_) (fun h20 => ?_)
    · refine Holds.seq ?_
      refine Holds.reg ?_
      refine OpsFrom.v (Y.move (up0 rfl rfl rfl) rfl rfl) rfl ?_
      refine OpsFrom.v (Y.assign (up0 rfl rfl rfl) rfl rfl) rfl ?_
      refine OpsFrom.nil ?_
      refine Holds.ret ?_
      exact Holds.ret1 (.inl rfl) rfl (.tmp _ _ rfl) (.same _) rfl
    · refine Holds.skip ?_
      refine Holds.seq ?_
      refine Holds.reg ?_
      refine OpsFrom.v (Y.assign (up0 rfl rfl rfl) rfl rfl) rfl ?_
      refine OpsFrom.nil ?_
      refine Holds.seq ?_
      refine Holds.reg ?_
      refine OpsFrom.v (Y.move (up0 rfl rfl rfl) rfl rfl) rfl ?_
      refine OpsFrom.v (Y.assign (up0 rfl rfl rfl) rfl rfl) rfl ?_
      refine OpsFrom.nil ?_
      refine Holds.seq ?_
      refine Holds.seq ?_
      refine Holds.reg ?_
      refine OpsFrom.v (Y.assign (v := (.one (.n .i64 0))) (up0 rfl rfl rfl) rfl rfl) rfl ?_
      refine OpsFrom.nil ?_
      refine Holds.block ?_
      refine Holds.grow 8 8 (.mix []) rfl rfl rfl ?_
      refine Holds.loop (fun (i1_ : Nat) => ⟨[(0, .one (.bs false .u8 key)), (1, .one (.bs false .u8 a)), (2, .one (.bs false .u16 cuts)), (6, .one (.b false)), (7, .one (.b true)), (8, .one (.sg 8 0 ((((mparts_it1 a cuts i1_).2).map fun xs => SV.bs false .u8 xs).length))), (9, .one (.bs false .u8 ((mparts_it1 a cuts i1_).1))), (10, .one (.n .i64 i1_))], [(8, .own (.mix (((mparts_it1 a cuts i1_).2).map fun xs => .bs false .u8 xs)))]⟩) (fun (i1_ : Nat) => i1_ ≤ (Min.min cuts.length 20)) (fun (i1_ : Nat) => (Min.min cuts.length 20) - i1_) 0 (by first | (with_reducible assumption) | omega | (simp only [lens, List.flatten_cons, List.flatten_nil, List.append_nil, List.length_cons, List.length_nil, Cs.len, List.length_map, List.length_set, List.length_replicate, *]; first | done | omega) | decide | (split <;> simp only [lens, List.flatten_cons, List.flatten_nil, List.append_nil, List.length_cons, List.length_nil, Cs.len, List.length_map, List.length_set, List.length_replicate, *]) | (with_reducible exact Lt.mono (by assumption) (by decide)) | (simp only [Cs.len]; done) | rfl) [] ⟨⟨rfl, rfl, rfl, rfl, rfl, rfl, (bsEq (congrArg (fun (s : (List Nat) × (List (List Nat))) => s.1) (mparts_it1_z a cuts)).symm), rfl, trivial⟩, ⟨(mlEq (congrArg (fun (s : (List Nat) × (List (List Nat))) => s.2) (mparts_it1_z a cuts)).symm), trivial⟩, rfl, rfl⟩ ?_
      intro i1_ k1_
      have hp1 := (mparts_f a cuts i1_).2
      refine Holds.seq ?_
      refine Holds.seqJoin ⟨[(0, .one (.bs false .u8 key)), (1, .one (.bs false .u8 a)), (2, .one (.bs false .u16 cuts)), (6, .one (.b false)), (7, .one (.b true)), (8, .one (.sg 8 0 (((mparts_it1 a cuts i1_).2.map fun xs => SV.bs false .u8 xs).length))), (9, .one (.bs false .u8 ((mparts_it1 a cuts i1_).1))), (10, .one (.n .i64 i1_)), (23, .one (.n .i64 i1_)), (24, .one (.bs false .u16 cuts)), (25, .one (.n .i64 cuts.length)), (26, .one (.b (decide (i1_ < cuts.length)))), (27, .one (.b (decide (i1_ < cuts.length)))), (30, .one (.b (decide ((i1_ < cuts.length) ∧ (i1_ < 20)))))], [(8, .own (.mix (((mparts_it1 a cuts i1_).2).map fun xs => .bs false .u8 xs)))]⟩ ?_ (fun join => ?_)
      · refine Holds.condD rfl (fun h30 => ?_) (fun h30 => ?_)
        · refine Holds.skip ?_
          refine Holds.seq ?_
          refine Holds.block ?_
          refine Holds.seq ?_
          refine Holds.reg ?_
          refine OpsFrom.v (Y.move (up0 rfl rfl rfl) rfl rfl) rfl ?_
          refine OpsFrom.v (Y.move (up0 rfl rfl rfl) rfl rfl) rfl ?_
          refine OpsFrom.v (Y.iaBs ty42 ty44 (up0 rfl rfl rfl) rfl rfl rfl (by first | (with_reducible assumption) | omega | (simp only [lens, List.flatten_cons, List.flatten_nil, List.append_nil, List.length_cons, List.length_nil, Cs.len, List.length_map, List.length_set, List.length_replicate, *]; first | done | omega) | decide | (split <;> simp only [lens, List.flatten_cons, List.flatten_nil, List.append_nil, List.length_cons, List.length_nil, Cs.len, List.length_map, List.length_set, List.length_replicate, *]) | (with_reducible exact Lt.mono (by assumption) (by decide)) | (simp only [Cs.len]; done) | rfl)) rfl ?_
          refine OpsFrom.v (Y.ldPc ty44 rfl (up0 rfl rfl rfl) rfl rfl) rfl ?_
          refine OpsFrom.v (Y.convUpI ty44.u ty3.u rfl (by decide) (up0 rfl rfl rfl) rfl rfl) rfl ?_
          refine OpsFrom.v (Y.rem (b := 200) (up0 rfl rfl rfl) rfl rfl rfl (by decide)) rfl ?_
          refine OpsFrom.v (Y.move (up0 rfl rfl rfl) rfl rfl) rfl ?_
          refine OpsFrom.v (Y.len ty22 (up0 rfl rfl rfl) rfl rfl rfl rfl) rfl ?_
          refine OpsFrom.v (Y.min (up0 rfl rfl rfl) rfl rfl rfl) rfl ?_
          refine OpsFrom.v (Y.assign (up0 rfl rfl rfl) rfl rfl) rfl ?_
          refine OpsFrom.nil ?_
          refine Holds.seq ?_
          refine Holds.reg ?_
          refine OpsFrom.v (Y.move (up0 rfl rfl rfl) rfl rfl) rfl ?_
          refine OpsFrom.v (Y.move (up0 rfl rfl rfl) rfl rfl) rfl ?_
          refine OpsFrom.v (Y.move (up0 rfl rfl rfl) rfl rfl) rfl ?_
          refine OpsFrom.v (Y.slBs ty22 ty5 (up0 rfl rfl rfl) rfl rfl bnd0 (bnd1 rfl) (by first | (with_reducible assumption) | omega | (simp only [lens, List.flatten_cons, List.flatten_nil, List.append_nil, List.length_cons, List.length_nil, Cs.len, List.length_map, List.length_set, List.length_replicate, *]; first | done | omega) | decide | (split <;> simp only [lens, List.flatten_cons, List.flatten_nil, List.append_nil, List.length_cons, List.length_nil, Cs.len, List.length_map, List.length_set, List.length_replicate, *]) | (with_reducible exact Lt.mono (by assumption) (by decide)) | (simp only [Cs.len]; done) | rfl) (by first | (with_reducible assumption) | omega | (simp only [lens, List.flatten_cons, List.flatten_nil, List.append_nil, List.length_cons, List.length_nil, Cs.len, List.length_map, List.length_set, List.length_replicate, *]; first | done | omega) | decide | (split <;> simp only [lens, List.flatten_cons, List.flatten_nil, List.append_nil, List.length_cons, List.length_nil, Cs.len, List.length_map, List.length_set, List.length_replicate, *]) | (with_reducible exact Lt.mono (by assumption) (by decide)) | (simp only [Cs.len]; done) | rfl)) rfl ?_
          refine OpsFrom.u (Y.bldS (d := 46) ty43 ty22 rfl (up0 rfl rfl rfl) rfl (.mix (List.replicate 1 (.nil))) rfl rfl rfl rfl (by decide) (by decide) (.cons _ _ _ _ _ _ _ _ _ rfl rfl rfl rfl (Spl.m (by first | decide | (simp; done))) (.nil _))) rfl (by simp [Ls.nomB, AV.ids, SV.ids, Bk.ids, Cs.ids, ids_mixl, argsFr, cxV, cxU, lk, killL, AV.ren, SV.ren, rn, Cs.at]) rfl ?_
          refine OpsFrom.u (Y.app (d := 47) ty43 ty22 rfl ty43 (by decide) (up0 rfl rfl rfl) rfl rfl rfl (.all rfl rfl) rfl (.all rfl (by first | (with_reducible assumption) | omega | (simp only [lens, List.flatten_cons, List.flatten_nil, List.append_nil, List.length_cons, List.length_nil, Cs.len, List.length_map, List.length_set, List.length_replicate, *]; first | done | omega) | decide | (split <;> simp only [lens, List.flatten_cons, List.flatten_nil, List.append_nil, List.length_cons, List.length_nil, Cs.len, List.length_map, List.length_set, List.length_replicate, *]) | (with_reducible exact Lt.mono (by assumption) (by decide)) | (simp only [Cs.len]; done) | rfl)) App.mL (by first | (with_reducible assumption) | omega | (simp only [lens, List.flatten_cons, List.flatten_nil, List.append_nil, List.length_cons, List.length_nil, Cs.len, List.length_map, List.length_set, List.length_replicate, *]; first | done | omega) | decide | (split <;> simp only [lens, List.flatten_cons, List.flatten_nil, List.append_nil, List.length_cons, List.length_nil, Cs.len, List.length_map, List.length_set, List.length_replicate, *]) | (with_reducible exact Lt.mono (by assumption) (by decide)) | (simp only [Cs.len]; done) | rfl) rfl (by first | (simp; done) | (rintro ⟨_, _, _, h⟩; cases h))) rfl (by simp [Ls.nomB, AV.ids, SV.ids, Bk.ids, Cs.ids, ids_mixl, argsFr, cxV, cxU, lk, killL, AV.ren, SV.ren, rn, Cs.at]) rfl ?_
          refine OpsFrom.v (Y.assign (up0 rfl rfl rfl) rfl rfl) rfl ?_
          refine OpsFrom.nil ?_
          refine Holds.reg ?_
          refine OpsFrom.v (Y.move (up0 rfl rfl rfl) rfl rfl) rfl ?_
          refine OpsFrom.v (Y.move (up0 rfl rfl rfl) rfl rfl) rfl ?_
          refine OpsFrom.v (Y.slBs ty22 ty5 (up0 rfl rfl rfl) rfl rfl (bnd1 rfl) bnd0 (by first | (with_reducible assumption) | omega | (simp only [lens, List.flatten_cons, List.flatten_nil, List.append_nil, List.length_cons, List.length_nil, Cs.len, List.length_map, List.length_set, List.length_replicate, *]; first | done | omega) | decide | (split <;> simp only [lens, List.flatten_cons, List.flatten_nil, List.append_nil, List.length_cons, List.length_nil, Cs.len, List.length_map, List.length_set, List.length_replicate, *]) | (with_reducible exact Lt.mono (by assumption) (by decide)) | (simp only [Cs.len]; done) | rfl) (by first | (with_reducible assumption) | omega | (simp only [lens, List.flatten_cons, List.flatten_nil, List.append_nil, List.length_cons, List.length_nil, Cs.len, List.length_map, List.length_set, List.length_replicate, *]; first | done | omega) | decide | (split <;> simp only [lens, List.flatten_cons, List.flatten_nil, List.append_nil, List.length_cons, List.length_nil, Cs.len, List.length_map, List.length_set, List.length_replicate, *]) | (with_reducible exact Lt.mono (by assumption) (by decide)) | (simp only [Cs.len]; done) | rfl)) rfl ?_
          refine OpsFrom.v (Y.assign (up0 rfl rfl rfl) rfl rfl) rfl ?_
          refine OpsFrom.nil ?_
          refine Holds.reg ?_
          refine OpsFrom.v (Y.move (up0 rfl rfl rfl) rfl rfl) rfl ?_
          refine OpsFrom.v (Y.addI (b := 1) (up0 rfl rfl rfl) rfl rfl rfl (by first | (with_reducible assumption) | omega | (simp only [lens, List.flatten_cons, List.flatten_nil, List.append_nil, List.length_cons, List.length_nil, Cs.len, List.length_map, List.length_set, List.length_replicate, *]; first | done | omega) | decide | (split <;> simp only [lens, List.flatten_cons, List.flatten_nil, List.append_nil, List.length_cons, List.length_nil, Cs.len, List.length_map, List.length_set, List.length_replicate, *]) | (with_reducible exact Lt.mono (by assumption) (by decide)) | (simp only [Cs.len]; done) | rfl)) rfl ?_
          refine OpsFrom.v (Y.assign (up0 rfl rfl rfl) rfl rfl) rfl ?_
          refine OpsFrom.nil ?_
          exact Holds.again (i1_ + 1) (by omega) (by omega) [(8, 47)] ⟨⟨rfl, rfl, rfl, rfl, rfl, (sgEq (congrArg (fun l => (List.map (fun xs => SV.bs false .u8 xs) l).length) (by rw [mparts_it1_s]; unfold mparts_s1; first | (dsimp only; done) | rfl)) rfl), (bsEq (by rw [mparts_it1_s]; unfold mparts_s1; first | (dsimp only; done) | rfl)), (nEq (by omega)), trivial⟩, ⟨(mlEq (by rw [mparts_it1_s]; unfold mparts_s1; first | (dsimp only; done) | rfl)), trivial⟩, rfl, rfl⟩
        · obtain rfl : i1_ = Min.min cuts.length 20 := by omega
          have hp2 := mparts_h (a := a) (cuts := cuts) (i := Min.min cuts.length 20) (by omega) (by omega)
          have hp1 := (mparts_f a cuts (Min.min cuts.length 20)).2
          refine Holds.exit ?_
          refine Holds.seq ?_
          refine Holds.reg ?_
          refine OpsFrom.v (Y.move (up0 rfl rfl rfl) rfl rfl) rfl ?_
          refine OpsFrom.v (Y.move (up0 rfl rfl rfl) rfl rfl) rfl ?_
          refine OpsFrom.u (Y.bldS (d := 53) ty43 ty22 rfl (up0 rfl rfl rfl) rfl (.mix (List.replicate 1 (.nil))) rfl rfl rfl rfl (by decide) (by decide) (.cons _ _ _ _ _ _ _ _ _ rfl rfl rfl rfl (Spl.m (by first | decide | (simp; done))) (.nil _))) rfl (by simp [Ls.nomB, AV.ids, SV.ids, Bk.ids, Cs.ids, ids_mixl, argsFr, cxV, cxU, lk, killL, AV.ren, SV.ren, rn, Cs.at]) rfl ?_
          refine OpsFrom.u (Y.app (d := 54) ty43 ty22 rfl ty43 (by decide) (up0 rfl rfl rfl) rfl rfl rfl (.all rfl rfl) rfl (.all rfl (by first | (with_reducible assumption) | omega | (simp only [lens, List.flatten_cons, List.flatten_nil, List.append_nil, List.length_cons, List.length_nil, Cs.len, List.length_map, List.length_set, List.length_replicate, *]; first | done | omega) | decide | (split <;> simp only [lens, List.flatten_cons, List.flatten_nil, List.append_nil, List.length_cons, List.length_nil, Cs.len, List.length_map, List.length_set, List.length_replicate, *]) | (with_reducible exact Lt.mono (by assumption) (by decide)) | (simp only [Cs.len]; done) | rfl)) App.mL (by first | (with_reducible assumption) | omega | (simp only [lens, List.flatten_cons, List.flatten_nil, List.append_nil, List.length_cons, List.length_nil, Cs.len, List.length_map, List.length_set, List.length_replicate, *]; first | done | omega) | decide | (split <;> simp only [lens, List.flatten_cons, List.flatten_nil, List.append_nil, List.length_cons, List.length_nil, Cs.len, List.length_map, List.length_set, List.length_replicate, *]) | (with_reducible exact Lt.mono (by assumption) (by decide)) | (simp only [Cs.len]; done) | rfl) rfl (by first | (simp; done) | (rintro ⟨_, _, _, h⟩; cases h))) rfl (by simp [Ls.nomB, AV.ids, SV.ids, Bk.ids, Cs.ids, ids_mixl, argsFr, cxV, cxU, lk, killL, AV.ren, SV.ren, rn, Cs.at]) rfl ?_
          refine OpsFrom.v (Y.assign (up0 rfl rfl rfl) rfl rfl) rfl ?_
          refine OpsFrom.nil ?_
          refine Holds.seq ?_
          refine Holds.reg ?_
          refine OpsFrom.v (Y.move (up0 rfl rfl rfl) rfl rfl) rfl ?_
          refine OpsFrom.v (Y.move (up0 rfl rfl rfl) rfl rfl) rfl ?_
          refine OpsFrom.v (Y.move (up1 rfl rfl rfl rfl rfl rfl) rfl rfl) rfl ?_
          refine OpsFrom.v (Y.move (up1 rfl rfl rfl rfl rfl rfl) rfl rfl) rfl ?_
          refine OpsFrom.v (Y.callV (w_mac _ _ (by first | (with_reducible assumption) | omega | (simp only [lens, mac_l, List.flatten_cons, List.flatten_nil, List.append_nil, List.length_cons, List.length_nil, Cs.len, List.length_map, List.length_set, List.length_replicate, *]; first | done | omega) | decide | (split <;> simp only [lens, mac_l, List.flatten_cons, List.flatten_nil, List.append_nil, List.length_cons, List.length_nil, Cs.len, List.length_map, List.length_set, List.length_replicate, *]) | (with_reducible exact Lt.mono (by assumption) (by decide)) | (simp only [Cs.len]; done) | rfl) hp2.1 hp2.2) fnok31 (up1 rfl rfl rfl rfl rfl rfl) rfl rfl (.cons _ _ _ _ rfl (.cons _ _ _ _ rfl .nil)) (.cons _ _ _ _ (.same _) (.cons _ _ _ _ (.mixl rfl (by first | (simp only [Cs.len, List.length_map]; done) | (simp only [Cs.len, List.length_map]; rfl))) .nil)) rfl rfl) rfl ?_
          refine OpsFrom.v (Y.move (up1 rfl rfl rfl rfl rfl rfl) rfl rfl) rfl ?_
          refine OpsFrom.v (Y.move (up1 rfl rfl rfl rfl rfl rfl) rfl rfl) rfl ?_
          refine OpsFrom.u (Y.bldS (d := 62) ty43 ty22 rfl (up1 rfl rfl rfl rfl rfl rfl) rfl (.mix (List.replicate 1 (.nil))) rfl rfl rfl rfl (by decide) (by decide) (.cons _ _ _ _ _ _ _ _ _ rfl rfl rfl rfl (Spl.m (by first | decide | (simp; done))) (.nil _))) rfl (by simp [Ls.nomB, AV.ids, SV.ids, Bk.ids, Cs.ids, ids_mixl, argsFr, cxV, cxU, lk, killL, AV.ren, SV.ren, rn, Cs.at]) rfl ?_
          refine OpsFrom.v (Y.callV (w_mac _ _ (by first | (with_reducible assumption) | omega | (simp only [lens, mac_l, List.flatten_cons, List.flatten_nil, List.append_nil, List.length_cons, List.length_nil, Cs.len, List.length_map, List.length_set, List.length_replicate, *]; first | done | omega) | decide | (split <;> simp only [lens, mac_l, List.flatten_cons, List.flatten_nil, List.append_nil, List.length_cons, List.length_nil, Cs.len, List.length_map, List.length_set, List.length_replicate, *]) | (with_reducible exact Lt.mono (by assumption) (by decide)) | (simp only [Cs.len]; done) | rfl) (by first | (with_reducible assumption) | omega | (simp only [lens, mac_l, List.flatten_cons, List.flatten_nil, List.append_nil, List.length_cons, List.length_nil, Cs.len, List.length_map, List.length_set, List.length_replicate, *]; first | done | omega) | decide | (split <;> simp only [lens, mac_l, List.flatten_cons, List.flatten_nil, List.append_nil, List.length_cons, List.length_nil, Cs.len, List.length_map, List.length_set, List.length_replicate, *]) | (with_reducible exact Lt.mono (by assumption) (by decide)) | (simp only [Cs.len]; done) | rfl) (by first | (with_reducible assumption) | omega | (simp only [lens, mac_l, List.flatten_cons, List.flatten_nil, List.append_nil, List.length_cons, List.length_nil, Cs.len, List.length_map, List.length_set, List.length_replicate, *]; first | done | omega) | decide | (split <;> simp only [lens, mac_l, List.flatten_cons, List.flatten_nil, List.append_nil, List.length_cons, List.length_nil, Cs.len, List.length_map, List.length_set, List.length_replicate, *]) | (with_reducible exact Lt.mono (by assumption) (by decide)) | (simp only [Cs.len]; done) | rfl)) fnok31 (up1 rfl rfl rfl rfl rfl rfl) rfl rfl (.cons _ _ _ _ rfl (.cons _ _ _ _ rfl .nil)) (.cons _ _ _ _ (.same _) (.cons _ _ _ _ (.sgsL rfl (.cons _ _ _ _ (.same _) .nil) rfl) .nil)) rfl rfl) rfl ?_
          refine OpsFrom.v (Doing.isB (c := true) (decide_eq_true (mparts_1 bk ba cuts _)) (Y.eqR ty24 ty5 (by kernel_rfl) (up1 rfl rfl rfl rfl rfl rfl) rfl rfl rfl (by first | (with_reducible assumption) | omega | (simp only [lens, mac_l, List.flatten_cons, List.flatten_nil, List.append_nil, List.length_cons, List.length_nil, Cs.len, List.length_map, List.length_set, List.length_replicate, *]; first | done | omega) | decide | (split <;> simp only [lens, mac_l, List.flatten_cons, List.flatten_nil, List.append_nil, List.length_cons, List.length_nil, Cs.len, List.length_map, List.length_set, List.length_replicate, *]) | (with_reducible exact Lt.mono (by assumption) (by decide)) | (simp only [Cs.len]; done) | rfl) (by first | (with_reducible assumption) | omega | (simp only [lens, mac_l, List.flatten_cons, List.flatten_nil, List.append_nil, List.length_cons, List.length_nil, Cs.len, List.length_map, List.length_set, List.length_replicate, *]; first | done | omega) | decide | (split <;> simp only [lens, mac_l, List.flatten_cons, List.flatten_nil, List.append_nil, List.length_cons, List.length_nil, Cs.len, List.length_map, List.length_set, List.length_replicate, *]) | (with_reducible exact Lt.mono (by assumption) (by decide)) | (simp only [Cs.len]; done) | rfl))) rfl ?_
          refine OpsFrom.v (Y.pickT (up0 rfl rfl rfl) rfl rfl rfl) rfl ?_
          refine OpsFrom.v (Y.assign (up0 rfl rfl rfl) rfl rfl) rfl ?_
          refine OpsFrom.nil ?_
          refine Holds.ret ?_
          exact Holds.ret1 (.inl rfl) rfl (.tmp _ _ rfl) (.same _) rfl
      · by_cases a7_4 : (i1_ < cuts.length)
        · refine Holds.reg ?_
          refine OpsFrom.v (Y.move (up0 rfl rfl rfl) rfl rfl) rfl ?_
          refine OpsFrom.v (Y.move (up0 rfl rfl rfl) rfl rfl) rfl ?_
          refine OpsFrom.v (Y.len ty42 (up0 rfl rfl rfl) rfl rfl rfl rfl) rfl ?_
          refine OpsFrom.v (Y.lss (up0 rfl rfl rfl) rfl rfl rfl) rfl ?_
          refine OpsFrom.v (Doing.isB (c := true) (decide_eq_true a7_4) (Y.move (up0 rfl rfl rfl) rfl rfl)) rfl ?_
          refine OpsFrom.v (Y.move (up1 rfl rfl rfl rfl rfl rfl) rfl rfl) rfl ?_
          refine OpsFrom.v (Y.lss (b := 20) (up1 rfl rfl rfl rfl rfl rfl) rfl rfl rfl) rfl ?_
          refine OpsFrom.v (Y.pickT (up0 rfl rfl rfl) rfl rfl rfl) rfl ?_
          refine OpsFrom.nil ?_
          exact join _ [] ⟨⟨rfl, rfl, rfl, rfl, rfl, rfl, rfl, rfl, rfl, rfl, rfl, rfl, (bEq ((dT a7_4))), (bEq ((dAnd a7_4))), trivial⟩, ⟨(mlEq rfl), trivial⟩, rfl, rfl⟩
        · refine Holds.reg ?_
          refine OpsFrom.v (Y.move (up0 rfl rfl rfl) rfl rfl) rfl ?_
          refine OpsFrom.v (Y.move (up0 rfl rfl rfl) rfl rfl) rfl ?_
          refine OpsFrom.v (Y.len ty42 (up0 rfl rfl rfl) rfl rfl rfl rfl) rfl ?_
          refine OpsFrom.v (Y.lss (up0 rfl rfl rfl) rfl rfl rfl) rfl ?_
          refine OpsFrom.v (Doing.isB (c := false) (decide_eq_false a7_4) (Y.move (up0 rfl rfl rfl) rfl rfl)) rfl ?_
          refine OpsFrom.v (Doing.skip _ _ _ _ rfl rfl rfl rfl (dlt rfl (Nat.le_of_ble_eq_true rfl))) rfl ?_
          refine OpsFrom.v (Doing.skip _ _ _ _ rfl rfl rfl rfl (dlt rfl (Nat.le_of_ble_eq_true rfl))) rfl ?_
          refine OpsFrom.v (Y.pickF (up0 rfl rfl rfl) rfl rfl rfl) rfl ?_
          refine OpsFrom.nil ?_
          exact join _ [] ⟨⟨rfl, rfl, rfl, rfl, rfl, rfl, rfl, rfl, rfl, rfl, rfl, rfl, (bEq ((dF a7_4))), (bEq ((dF (fun k => a7_4 k.1)))), trivial⟩, ⟨(mlEq rfl), trivial⟩, rfl, rfl⟩
  · by_cases a2_3 : (1000 < key.length)
    · refine Holds.reg ?_
      refine OpsFrom.v (Y.move (up0 rfl rfl rfl) rfl rfl) rfl ?_
      refine OpsFrom.v (Y.len ty22 (up0 rfl rfl rfl) rfl rfl rfl rfl) rfl ?_
      refine OpsFrom.v (Y.gtr (b := 1000) (up0 rfl rfl rfl) rfl rfl rfl) rfl ?_
      refine OpsFrom.v (Doing.isB (c := true) (decide_eq_true a2_3) (Y.move (up0 rfl rfl rfl) rfl rfl)) rfl ?_
      refine OpsFrom.v (Doing.skip _ _ _ _ rfl rfl rfl rfl (dlt rfl (Nat.le_of_ble_eq_true rfl))) rfl ?_
      refine OpsFrom.v (Doing.skip _ _ _ _ rfl rfl rfl rfl (dlt rfl (Nat.le_of_ble_eq_true rfl))) rfl ?_
      refine OpsFrom.v (Doing.skip _ _ _ _ rfl rfl rfl rfl (dlt rfl (Nat.le_of_ble_eq_true rfl))) rfl ?_
      refine OpsFrom.v (Y.pickT (up0 rfl rfl rfl) rfl rfl rfl) rfl ?_
      refine OpsFrom.nil ?_
      exact join _ [] ⟨⟨rfl, rfl, rfl, rfl, rfl, (bEq ((dT (.inl a2_3)))), trivial⟩, trivial, rfl, rfl⟩
    · refine Holds.reg ?_
      refine OpsFrom.v (Y.move (up0 rfl rfl rfl) rfl rfl) rfl ?_
      refine OpsFrom.v (Y.len ty22 (up0 rfl rfl rfl) rfl rfl rfl rfl) rfl ?_
      refine OpsFrom.v (Y.gtr (b := 1000) (up0 rfl rfl rfl) rfl rfl rfl) rfl ?_
      refine OpsFrom.v (Doing.isB (c := false) (decide_eq_false a2_3) (Y.move (up0 rfl rfl rfl) rfl rfl)) rfl ?_
      refine OpsFrom.v (Y.move (up1 rfl rfl rfl rfl rfl rfl) rfl rfl) rfl ?_
      refine OpsFrom.v (Y.len ty22 (up1 rfl rfl rfl rfl rfl rfl) rfl rfl rfl rfl) rfl ?_
      refine OpsFrom.v (Y.gtr (b := 1000) (up1 rfl rfl rfl rfl rfl rfl) rfl rfl rfl) rfl ?_
      refine OpsFrom.v (Y.pickF (up0 rfl rfl rfl) rfl rfl rfl) rfl ?_
      refine OpsFrom.nil ?_
      exact join _ [] ⟨⟨rfl, rfl, rfl, rfl, rfl, (bEq ((dOr a2_3))), trivial⟩, trivial, rfl, rfl⟩


end Go.Proofs.Ytjgcmfedofmkpaa
