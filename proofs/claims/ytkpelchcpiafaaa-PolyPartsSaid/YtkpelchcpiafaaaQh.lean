/-
  Walks: PolyParts.
-/
import Derived.Test.YtkpelchcpiafaaaQg
namespace Go.Proofs.Ytkpelchcpiafaaa
open Go Go.Fx
set_option linter.unusedVariables false
set_option linter.unusedSimpArgs false
def pparts_s1 (text : List Nat) (cuts : List Nat) (i1_ : Nat) (m1_ : (List Nat) × (List (List Nat))) : (List Nat) × (List (List Nat)) :=
  let v4_ : Nat := Min.min ((cuts.getD i1_ 0) % 50) m1_.1.length
  let v5_ : List Nat := (m1_.1.drop v4_).take (m1_.1.length - v4_)
  (v5_, m1_.2 ++ [(m1_.1.drop 0).take (v4_ - 0)])
def pparts_it1 (text : List Nat) (cuts : List Nat) (i1_ : Nat) : (List Nat) × (List (List Nat)) := iter (pparts_s1 text cuts) i1_ (text, [])
theorem pparts_it1_z (text : List Nat) (cuts : List Nat) : pparts_it1 text cuts 0 = (text, []) := rfl
theorem pparts_it1_s (text : List Nat) (cuts : List Nat) (i1_ : Nat) : pparts_it1 text cuts (i1_ + 1) = pparts_s1 text cuts i1_ (pparts_it1 text cuts i1_) := by unfold pparts_it1; exact iterS _ _ _
theorem pparts_f (text cuts : List Nat) (i : Nat) : (pparts_it1 text cuts i).2.flatten ++ (pparts_it1 text cuts i).1 = text ∧ (pparts_it1 text cuts i).2.length = i := by
  induction i with
  | zero => exact ⟨rfl, rfl⟩
  | succ i ih =>
    rw [pparts_it1_s]
    simp only [pparts_s1, List.flatten_append, List.flatten_cons, List.flatten_nil, List.append_nil, List.length_append, List.length_cons, List.length_nil]
    refine ⟨?_, by omega⟩
    conv => rhs; rw [← ih.1]
    rw [List.append_assoc, List.drop_zero, Nat.sub_zero, List.take_of_length_le (l := List.drop _ _) (by simp), List.take_append_drop]
theorem pparts_h {text cuts : List Nat} {i : Nat} (h : i ≤ 20) (ht : text.length < 4294967296) : ((pparts_it1 text cuts i).2 ++ [(pparts_it1 text cuts i).1]).flatten = text ∧ ((pparts_it1 text cuts i).2 ++ [(pparts_it1 text cuts i).1]).flatten.length < 4294967296 ∧ ((pparts_it1 text cuts i).2 ++ [(pparts_it1 text cuts i).1]).length < 4294967296 := by
  have h1 := pparts_f text cuts i
  have e : ((pparts_it1 text cuts i).2 ++ [(pparts_it1 text cuts i).1]).flatten = text := by simpa using h1.1
  exact ⟨e, by rw [e]; exact ht, by rw [List.length_append, h1.2]; simp; omega⟩
theorem w_pparts (key : List Nat) (text : List Nat) (cuts : List Nat) (l_key : key.length = 32) : VC Try.prog 9 [.row (.ints .u8 key), .one (.bs false .u8 text), .one (.bs false .u8 cuts)] (.one (.b true)) := by
  refine VC.go Try.func9 rfl Try.ntmps9 rfl rfl fun O w => ?_
  refine Holds.ltRow 0 rfl u8s u8m (fun b_key => ?_)
  refine Holds.ltBs 1 rfl u8s u8m (fun b_text => ?_)
  refine Holds.seq ?_
  refine Holds.reg ?_
  refine OpsFrom.u (Y.boxR (d := 3) (up0 rfl rfl rfl) rfl rfl rfl) rfl rfl rfl ?_
  refine OpsFrom.v (Y.assign (up0 rfl rfl rfl) rfl rfl) rfl ?_
  refine OpsFrom.nil ?_
  refine Holds.seq ?_
  refine Holds.reg ?_
  refine OpsFrom.v (Y.callV w_pawake fnok31 (up0 rfl rfl rfl) rfl rfl .nil .nil rfl rfl) rfl ?_
  refine OpsFrom.v (Y.assign (up0 rfl rfl rfl) rfl rfl) rfl ?_
  refine OpsFrom.nil ?_
  refine Holds.seq ?_
  refine Holds.seq ?_
  refine Holds.reg ?_
  refine OpsFrom.v (Y.move (up0 rfl rfl rfl) rfl rfl) rfl ?_
  refine OpsFrom.v (Y.len ty26 (up0 rfl rfl rfl) rfl rfl rfl rfl) rfl ?_
  refine OpsFrom.v (Y.gtr (b := 1000) (up0 rfl rfl rfl) rfl rfl rfl) rfl ?_
  refine OpsFrom.nil ?_
  refine Holds.condD rfl (fun h15 => ?_) (fun h15 => ?_)
  · refine Holds.seq ?_
    refine Holds.reg ?_
    refine OpsFrom.v (Y.move (up0 rfl rfl rfl) rfl rfl) rfl ?_
    refine OpsFrom.v (Y.assign (up0 rfl rfl rfl) rfl rfl) rfl ?_
    refine OpsFrom.nil ?_
    refine Holds.ret ?_
    exact Holds.ret1 (.inl rfl) rfl (.tmp _ _ rfl) (.same _) rfl
  · refine Holds.skip ?_
    refine Holds.seq ?_
    refine Holds.reg ?_
    refine OpsFrom.v (Y.assign (up0 rfl rfl rfl) rfl rfl) rfl ?_
    refine OpsFrom.nil ?_
    refine Holds.seq ?_
    refine Holds.reg ?_
    refine OpsFrom.v (Y.move (up0 rfl rfl rfl) rfl rfl) rfl ?_
    refine OpsFrom.v (Y.assign (up0 rfl rfl rfl) rfl rfl) rfl ?_
    refine OpsFrom.nil ?_
    refine Holds.seq ?_
    refine Holds.seq ?_
    refine Holds.reg ?_
    refine OpsFrom.v (Y.assign (v := (.one (.n .i64 0))) (up0 rfl rfl rfl) rfl rfl) rfl ?_
    refine OpsFrom.nil ?_
    refine Holds.block ?_
    refine Holds.grow 8 8 (.mix []) rfl rfl rfl ?_
    refine Holds.loop (fun (i1_ : Nat) => ⟨[(1, .one (.bs false .u8 text)), (2, .one (.bs false .u8 cuts)), (3, .one (.p 3 0)), (6, .one (.b false)), (7, .one (.b true)), (8, .one (.sg 8 0 ((((pparts_it1 text cuts i1_).2).map fun xs => SV.bs false .u8 xs).length))), (9, .one (.bs false .u8 ((pparts_it1 text cuts i1_).1))), (10, .one (.n .i64 i1_))], [(3, .own (.ints .u8 key)), (8, .own (.mix (((pparts_it1 text cuts i1_).2).map fun xs => .bs false .u8 xs)))]⟩) (fun (i1_ : Nat) => i1_ ≤ (Min.min cuts.length 20)) (fun (i1_ : Nat) => (Min.min cuts.length 20) - i1_) 0 (by first | (with_reducible assumption) | omega | (simp only [lens, List.flatten_cons, List.flatten_nil, List.append_nil, List.length_cons, List.length_nil, Cs.len, List.length_map, List.length_set, List.length_replicate, *]; first | done | omega) | decide | (split <;> simp only [lens, List.flatten_cons, List.flatten_nil, List.append_nil, List.length_cons, List.length_nil, Cs.len, List.length_map, List.length_set, List.length_replicate, *]) | (with_reducible exact Lt.mono (by assumption) (by decide))) [] ⟨⟨rfl, rfl, rfl, rfl, rfl, rfl, (bsEq (congrArg (fun (s : (List Nat) × (List (List Nat))) => s.1) (pparts_it1_z text cuts)).symm), rfl, trivial⟩, ⟨rfl, (mlEq (congrArg (fun (s : (List Nat) × (List (List Nat))) => s.2) (pparts_it1_z text cuts)).symm), trivial⟩, rfl, rfl⟩ ?_
    intro i1_ k1_
    have hp1 := (pparts_f text cuts i1_).2
    refine Holds.seq ?_
    refine Holds.seqJoin ⟨[(1, .one (.bs false .u8 text)), (2, .one (.bs false .u8 cuts)), (3, .one (.p 3 0)), (6, .one (.b false)), (7, .one (.b true)), (8, .one (.sg 8 0 (((pparts_it1 text cuts i1_).2.map fun xs => SV.bs false .u8 xs).length))), (9, .one (.bs false .u8 ((pparts_it1 text cuts i1_).1))), (10, .one (.n .i64 i1_)), (18, .one (.n .i64 i1_)), (19, .one (.bs false .u8 cuts)), (20, .one (.n .i64 cuts.length)), (21, .one (.b (decide (i1_ < cuts.length)))), (22, .one (.b (decide (i1_ < cuts.length)))), (25, .one (.b (decide ((i1_ < cuts.length) ∧ (i1_ < 20)))))], [(3, .own (.ints .u8 key)), (8, .own (.mix (((pparts_it1 text cuts i1_).2).map fun xs => .bs false .u8 xs)))]⟩ ?_ (fun join => ?_)
    · refine Holds.condD rfl (fun h25 => ?_) (fun h25 => ?_)
      · refine Holds.skip ?_
        refine Holds.seq ?_
        refine Holds.block ?_
        refine Holds.seq ?_
        refine Holds.reg ?_
        refine OpsFrom.v (Y.move (up0 rfl rfl rfl) rfl rfl) rfl ?_
        refine OpsFrom.v (Y.move (up0 rfl rfl rfl) rfl rfl) rfl ?_
        refine OpsFrom.v (Y.iaBs ty26 ty5 (up0 rfl rfl rfl) rfl rfl rfl (by first | (with_reducible assumption) | omega | (simp only [lens, List.flatten_cons, List.flatten_nil, List.append_nil, List.length_cons, List.length_nil, Cs.len, List.length_map, List.length_set, List.length_replicate, *]; first | done | omega) | decide | (split <;> simp only [lens, List.flatten_cons, List.flatten_nil, List.append_nil, List.length_cons, List.length_nil, Cs.len, List.length_map, List.length_set, List.length_replicate, *]) | (with_reducible exact Lt.mono (by assumption) (by decide)))) rfl ?_
        refine OpsFrom.v (Y.ldPc ty5 rfl (up0 rfl rfl rfl) rfl rfl) rfl ?_
        refine OpsFrom.v (Y.convUpI ty5.u ty3.u rfl (by decide) (up0 rfl rfl rfl) rfl rfl) rfl ?_
        refine OpsFrom.v (Y.rem (b := 50) (up0 rfl rfl rfl) rfl rfl rfl (by decide)) rfl ?_
        refine OpsFrom.v (Y.move (up0 rfl rfl rfl) rfl rfl) rfl ?_
        refine OpsFrom.v (Y.len ty26 (up0 rfl rfl rfl) rfl rfl rfl rfl) rfl ?_
        refine OpsFrom.v (Y.min (up0 rfl rfl rfl) rfl rfl rfl) rfl ?_
        refine OpsFrom.v (Y.assign (up0 rfl rfl rfl) rfl rfl) rfl ?_
        refine OpsFrom.nil ?_
        refine Holds.seq ?_
        refine Holds.reg ?_
        refine OpsFrom.v (Y.move (up0 rfl rfl rfl) rfl rfl) rfl ?_
        refine OpsFrom.v (Y.move (up0 rfl rfl rfl) rfl rfl) rfl ?_
        refine OpsFrom.v (Y.move (up0 rfl rfl rfl) rfl rfl) rfl ?_
        refine OpsFrom.v (Y.slBs ty26 ty5 (up0 rfl rfl rfl) rfl rfl bnd0 (bnd1 rfl) (by first | (with_reducible assumption) | omega | (simp only [lens, List.flatten_cons, List.flatten_nil, List.append_nil, List.length_cons, List.length_nil, Cs.len, List.length_map, List.length_set, List.length_replicate, *]; first | done | omega) | decide | (split <;> simp only [lens, List.flatten_cons, List.flatten_nil, List.append_nil, List.length_cons, List.length_nil, Cs.len, List.length_map, List.length_set, List.length_replicate, *]) | (with_reducible exact Lt.mono (by assumption) (by decide))) (by first | (with_reducible assumption) | omega | (simp only [lens, List.flatten_cons, List.flatten_nil, List.append_nil, List.length_cons, List.length_nil, Cs.len, List.length_map, List.length_set, List.length_replicate, *]; first | done | omega) | decide | (split <;> simp only [lens, List.flatten_cons, List.flatten_nil, List.append_nil, List.length_cons, List.length_nil, Cs.len, List.length_map, List.length_set, List.length_replicate, *]) | (with_reducible exact Lt.mono (by assumption) (by decide)))) rfl ?_
        refine OpsFrom.u (Y.bldS (d := 41) ty39 ty26 rfl (up0 rfl rfl rfl) rfl (.mix (List.replicate 1 (.nil))) rfl rfl rfl rfl (by decide) (by decide) (.cons _ _ _ _ _ _ _ _ _ rfl rfl rfl rfl (Spl.m (by first | decide | (simp; done))) (.nil _))) rfl (by simp [Ls.nomB, AV.ids, SV.ids, Bk.ids, Cs.ids, ids_mixl, argsFr, cxV, cxU, lk, killL]) rfl ?_
        refine OpsFrom.u (Y.app (d := 42) ty39 ty26 rfl ty39 (by decide) (up0 rfl rfl rfl) rfl rfl rfl (.all rfl rfl) rfl (.all rfl (by first | (with_reducible assumption) | omega | (simp only [lens, List.flatten_cons, List.flatten_nil, List.append_nil, List.length_cons, List.length_nil, Cs.len, List.length_map, List.length_set, List.length_replicate, *]; first | done | omega) | decide | (split <;> simp only [lens, List.flatten_cons, List.flatten_nil, List.append_nil, List.length_cons, List.length_nil, Cs.len, List.length_map, List.length_set, List.length_replicate, *]) | (with_reducible exact Lt.mono (by assumption) (by decide)))) App.mL (by first | (with_reducible assumption) | omega | (simp only [lens, List.flatten_cons, List.flatten_nil, List.append_nil, List.length_cons, List.length_nil, Cs.len, List.length_map, List.length_set, List.length_replicate, *]; first | done | omega) | decide | (split <;> simp only [lens, List.flatten_cons, List.flatten_nil, List.append_nil, List.length_cons, List.length_nil, Cs.len, List.length_map, List.length_set, List.length_replicate, *]) | (with_reducible exact Lt.mono (by assumption) (by decide))) rfl (by simp)) rfl (by simp [Ls.nomB, AV.ids, SV.ids, Bk.ids, Cs.ids, ids_mixl, argsFr, cxV, cxU, lk, killL]) rfl ?_
        refine OpsFrom.v (Y.assign (up0 rfl rfl rfl) rfl rfl) rfl ?_
        refine OpsFrom.nil ?_
        refine Holds.reg ?_
        refine OpsFrom.v (Y.move (up0 rfl rfl rfl) rfl rfl) rfl ?_
        refine OpsFrom.v (Y.move (up0 rfl rfl rfl) rfl rfl) rfl ?_
        refine OpsFrom.v (Y.slBs ty26 ty5 (up0 rfl rfl rfl) rfl rfl (bnd1 rfl) bnd0 (by first | (with_reducible assumption) | omega | (simp only [lens, List.flatten_cons, List.flatten_nil, List.append_nil, List.length_cons, List.length_nil, Cs.len, List.length_map, List.length_set, List.length_replicate, *]; first | done | omega) | decide | (split <;> simp only [lens, List.flatten_cons, List.flatten_nil, List.append_nil, List.length_cons, List.length_nil, Cs.len, List.length_map, List.length_set, List.length_replicate, *]) | (with_reducible exact Lt.mono (by assumption) (by decide))) (by first | (with_reducible assumption) | omega | (simp only [lens, List.flatten_cons, List.flatten_nil, List.append_nil, List.length_cons, List.length_nil, Cs.len, List.length_map, List.length_set, List.length_replicate, *]; first | done | omega) | decide | (split <;> simp only [lens, List.flatten_cons, List.flatten_nil, List.append_nil, List.length_cons, List.length_nil, Cs.len, List.length_map, List.length_set, List.length_replicate, *]) | (with_reducible exact Lt.mono (by assumption) (by decide)))) rfl ?_
        refine OpsFrom.v (Y.assign (up0 rfl rfl rfl) rfl rfl) rfl ?_
        refine OpsFrom.nil ?_
        refine Holds.reg ?_
        refine OpsFrom.v (Y.move (up0 rfl rfl rfl) rfl rfl) rfl ?_
        refine OpsFrom.v (Y.addI (b := 1) (up0 rfl rfl rfl) rfl rfl rfl (by first | (with_reducible assumption) | omega | (simp only [lens, List.flatten_cons, List.flatten_nil, List.append_nil, List.length_cons, List.length_nil, Cs.len, List.length_map, List.length_set, List.length_replicate, *]; first | done | omega) | decide | (split <;> simp only [lens, List.flatten_cons, List.flatten_nil, List.append_nil, List.length_cons, List.length_nil, Cs.len, List.length_map, List.length_set, List.length_replicate, *]) | (with_reducible exact Lt.mono (by assumption) (by decide)))) rfl ?_
        refine OpsFrom.v (Y.assign (up0 rfl rfl rfl) rfl rfl) rfl ?_
        refine OpsFrom.nil ?_
        exact Holds.again (i1_ + 1) (by omega) (by omega) [(8, 42)] ⟨⟨rfl, rfl, rfl, rfl, rfl, (sgEq (congrArg (fun l => (List.map (fun xs => SV.bs false .u8 xs) l).length) (by rw [pparts_it1_s]; unfold pparts_s1; first | (dsimp only; done) | rfl)) rfl), (bsEq (by rw [pparts_it1_s]; unfold pparts_s1; first | (dsimp only; done) | rfl)), (nEq (by omega)), trivial⟩, ⟨rfl, (mlEq (by rw [pparts_it1_s]; unfold pparts_s1; first | (dsimp only; done) | rfl)), trivial⟩, rfl, rfl⟩
      · obtain rfl : i1_ = Min.min cuts.length 20 := by omega
        have hp2 := pparts_h (text := text) (cuts := cuts) (i := Min.min cuts.length 20) (by omega) (by omega)
        have hp1 := (pparts_f text cuts (Min.min cuts.length 20)).2
        refine Holds.exit ?_
        refine Holds.seq ?_
        refine Holds.reg ?_
        refine OpsFrom.v (Y.move (up0 rfl rfl rfl) rfl rfl) rfl ?_
        refine OpsFrom.v (Y.move (up0 rfl rfl rfl) rfl rfl) rfl ?_
        refine OpsFrom.u (Y.bldS (d := 48) ty39 ty26 rfl (up0 rfl rfl rfl) rfl (.mix (List.replicate 1 (.nil))) rfl rfl rfl rfl (by decide) (by decide) (.cons _ _ _ _ _ _ _ _ _ rfl rfl rfl rfl (Spl.m (by first | decide | (simp; done))) (.nil _))) rfl (by simp [Ls.nomB, AV.ids, SV.ids, Bk.ids, Cs.ids, ids_mixl, argsFr, cxV, cxU, lk, killL]) rfl ?_
        refine OpsFrom.u (Y.app (d := 49) ty39 ty26 rfl ty39 (by decide) (up0 rfl rfl rfl) rfl rfl rfl (.all rfl rfl) rfl (.all rfl (by first | (with_reducible assumption) | omega | (simp only [lens, List.flatten_cons, List.flatten_nil, List.append_nil, List.length_cons, List.length_nil, Cs.len, List.length_map, List.length_set, List.length_replicate, *]; first | done | omega) | decide | (split <;> simp only [lens, List.flatten_cons, List.flatten_nil, List.append_nil, List.length_cons, List.length_nil, Cs.len, List.length_map, List.length_set, List.length_replicate, *]) | (with_reducible exact Lt.mono (by assumption) (by decide)))) App.mL (by first | (with_reducible assumption) | omega | (simp only [lens, List.flatten_cons, List.flatten_nil, List.append_nil, List.length_cons, List.length_nil, Cs.len, List.length_map, List.length_set, List.length_replicate, *]; first | done | omega) | decide | (split <;> simp only [lens, List.flatten_cons, List.flatten_nil, List.append_nil, List.length_cons, List.length_nil, Cs.len, List.length_map, List.length_set, List.length_replicate, *]) | (with_reducible exact Lt.mono (by assumption) (by decide))) rfl (by simp)) rfl (by simp [Ls.nomB, AV.ids, SV.ids, Bk.ids, Cs.ids, ids_mixl, argsFr, cxV, cxU, lk, killL]) rfl ?_
        refine OpsFrom.v (Y.assign (up0 rfl rfl rfl) rfl rfl) rfl ?_
        refine OpsFrom.nil ?_
        refine Holds.seq ?_
        refine Holds.dr mx [([50], []), ([51], []), ([52], [53, 55, 56, 57]), ([53], [52, 55, 56, 57]), ([54], [55, 56, 57]), ([55], [52, 53, 54, 56, 57]), ([56], [52, 53, 54, 55]), ([57], [52, 53, 54, 55]), ([58], []), ([59], []), ([60], []), ([6], [])] (by kernel_rfl) ?_
        refine CertK.v (Y.move (up0 rfl rfl rfl) rfl rfl) rfl ?_
        refine CertK.v (Y.move (up0 rfl rfl rfl) rfl rfl) rfl ?_
        refine CertK.vd (Y.ldAll ty23 rfl (up1 rfl rfl rfl rfl rfl rfl) rfl rfl rfl (by first | (with_reducible assumption) | omega | (simp only [lens, ptag_len, List.flatten_cons, List.flatten_nil, List.append_nil, List.length_cons, List.length_nil, Cs.len, List.length_map, List.length_set, List.length_replicate, *]; first | done | omega) | decide | (split <;> simp only [lens, ptag_len, List.flatten_cons, List.flatten_nil, List.append_nil, List.length_cons, List.length_nil, Cs.len, List.length_map, List.length_set, List.length_replicate, *]) | (with_reducible exact Lt.mono (by assumption) (by decide))) (by decide)) rfl rfl ?_
        refine CertK.vd (Y.move (up1 rfl rfl rfl rfl rfl rfl) rfl rfl) rfl rfl ?_
        refine CertK.vd (Y.callV (w_ptag _ _ l_key hp2.2.1 hp2.2.2) fnok32 (up1 rfl rfl rfl rfl rfl rfl) rfl rfl (.cons _ _ _ _ rfl (.cons _ _ _ _ rfl .nil)) (.cons _ _ _ _ (.same _) (.cons _ _ _ _ (.mixl rfl (by simp only [Cs.len, List.length_map])) .nil)) rfl rfl) rfl rfl ?_
        refine CertK.vd (Y.ldAll ty23 rfl (up1 rfl rfl rfl rfl rfl rfl) rfl rfl rfl (by first | (with_reducible assumption) | omega | (simp only [lens, ptag_len, List.flatten_cons, List.flatten_nil, List.append_nil, List.length_cons, List.length_nil, Cs.len, List.length_map, List.length_set, List.length_replicate, *]; first | done | omega) | decide | (split <;> simp only [lens, ptag_len, List.flatten_cons, List.flatten_nil, List.append_nil, List.length_cons, List.length_nil, Cs.len, List.length_map, List.length_set, List.length_replicate, *]) | (with_reducible exact Lt.mono (by assumption) (by decide))) (by decide)) rfl rfl ?_
        refine CertK.vd (Y.move (up1 rfl rfl rfl rfl rfl rfl) rfl rfl) rfl rfl ?_
        refine CertK.u (Y.bldS (d := 57) ty39 ty26 rfl (up1 rfl rfl rfl rfl rfl rfl) rfl (.mix (List.replicate 1 (.nil))) rfl rfl rfl rfl (by decide) (by decide) (.cons _ _ _ _ _ _ _ _ _ rfl rfl rfl rfl (Spl.m (by first | decide | (simp; done))) (.nil _))) rfl (by simp [Ls.nomB, AV.ids, SV.ids, Bk.ids, Cs.ids, ids_mixl, argsFr, cxV, cxU, lk, killL]) rfl rfl rfl ?_
        refine CertK.v (Y.callV (w_ptag _ _ (by first | (with_reducible assumption) | omega | (simp only [lens, ptag_len, List.flatten_cons, List.flatten_nil, List.append_nil, List.length_cons, List.length_nil, Cs.len, List.length_map, List.length_set, List.length_replicate, *]; first | done | omega) | decide | (split <;> simp only [lens, ptag_len, List.flatten_cons, List.flatten_nil, List.append_nil, List.length_cons, List.length_nil, Cs.len, List.length_map, List.length_set, List.length_replicate, *]) | (with_reducible exact Lt.mono (by assumption) (by decide))) (by first | (with_reducible assumption) | omega | (simp only [lens, ptag_len, List.flatten_cons, List.flatten_nil, List.append_nil, List.length_cons, List.length_nil, Cs.len, List.length_map, List.length_set, List.length_replicate, *]; first | done | omega) | decide | (split <;> simp only [lens, ptag_len, List.flatten_cons, List.flatten_nil, List.append_nil, List.length_cons, List.length_nil, Cs.len, List.length_map, List.length_set, List.length_replicate, *]) | (with_reducible exact Lt.mono (by assumption) (by decide))) (by first | (with_reducible assumption) | omega | (simp only [lens, ptag_len, List.flatten_cons, List.flatten_nil, List.append_nil, List.length_cons, List.length_nil, Cs.len, List.length_map, List.length_set, List.length_replicate, *]; first | done | omega) | decide | (split <;> simp only [lens, ptag_len, List.flatten_cons, List.flatten_nil, List.append_nil, List.length_cons, List.length_nil, Cs.len, List.length_map, List.length_set, List.length_replicate, *]) | (with_reducible exact Lt.mono (by assumption) (by decide)))) fnok32 (up1 rfl rfl rfl rfl rfl rfl) rfl rfl (.cons _ _ _ _ rfl (.cons _ _ _ _ rfl .nil)) (.cons _ _ _ _ (.same _) (.cons _ _ _ _ (.sgsL rfl (.cons _ _ _ _ (.same _) .nil) rfl) .nil)) rfl rfl) rfl ?_
        refine CertK.v (Doing.isB (c := true) (decide_eq_true (by rw [ptag_val l_key b_key (by rw [hp2.1]; exact b_text), ptag_val l_key b_key (by simpa using b_text), hp2.1]; simp)) (Y.eqR ty35 ty5 (by kernel_rfl) (up1 rfl rfl rfl rfl rfl rfl) rfl rfl rfl (by first | (with_reducible assumption) | omega | (simp only [lens, ptag_len, List.flatten_cons, List.flatten_nil, List.append_nil, List.length_cons, List.length_nil, Cs.len, List.length_map, List.length_set, List.length_replicate, *]; first | done | omega) | decide | (split <;> simp only [lens, ptag_len, List.flatten_cons, List.flatten_nil, List.append_nil, List.length_cons, List.length_nil, Cs.len, List.length_map, List.length_set, List.length_replicate, *]) | (with_reducible exact Lt.mono (by assumption) (by decide))) (by first | (with_reducible assumption) | omega | (simp only [lens, ptag_len, List.flatten_cons, List.flatten_nil, List.append_nil, List.length_cons, List.length_nil, Cs.len, List.length_map, List.length_set, List.length_replicate, *]; first | done | omega) | decide | (split <;> simp only [lens, ptag_len, List.flatten_cons, List.flatten_nil, List.append_nil, List.length_cons, List.length_nil, Cs.len, List.length_map, List.length_set, List.length_replicate, *]) | (with_reducible exact Lt.mono (by assumption) (by decide))))) rfl ?_
        refine CertK.v (Y.pickT (up0 rfl rfl rfl) rfl rfl rfl) rfl ?_
        refine CertK.v (Y.assign (up0 rfl rfl rfl) rfl rfl) rfl ?_
        refine CertK.nil ?_
        refine Holds.ret ?_
        exact Holds.ret1 (.inl rfl) rfl (.tmp _ _ rfl) (.same _) rfl
    · by_cases a7_4 : (i1_ < cuts.length)
      · refine Holds.reg ?_
        refine OpsFrom.v (Y.move (up0 rfl rfl rfl) rfl rfl) rfl ?_
        refine OpsFrom.v (Y.move (up0 rfl rfl rfl) rfl rfl) rfl ?_
        refine OpsFrom.v (Y.len ty26 (up0 rfl rfl rfl) rfl rfl rfl rfl) rfl ?_
        refine OpsFrom.v (Y.lss (up0 rfl rfl rfl) rfl rfl rfl) rfl ?_
        refine OpsFrom.v (Doing.isB (c := true) (decide_eq_true a7_4) (Y.move (up0 rfl rfl rfl) rfl rfl)) rfl ?_
        refine OpsFrom.v (Y.move (up1 rfl rfl rfl rfl rfl rfl) rfl rfl) rfl ?_
        refine OpsFrom.v (Y.lss (b := 20) (up1 rfl rfl rfl rfl rfl rfl) rfl rfl rfl) rfl ?_
        refine OpsFrom.v (Y.pickT (up0 rfl rfl rfl) rfl rfl rfl) rfl ?_
        refine OpsFrom.nil ?_
        exact join _ [] ⟨⟨rfl, rfl, rfl, rfl, rfl, rfl, rfl, rfl, rfl, rfl, rfl, rfl, (bEq (by simp [a7_4])), (bEq (by simp [a7_4])), trivial⟩, ⟨rfl, (mlEq rfl), trivial⟩, rfl, rfl⟩
      · refine Holds.reg ?_
        refine OpsFrom.v (Y.move (up0 rfl rfl rfl) rfl rfl) rfl ?_
        refine OpsFrom.v (Y.move (up0 rfl rfl rfl) rfl rfl) rfl ?_
        refine OpsFrom.v (Y.len ty26 (up0 rfl rfl rfl) rfl rfl rfl rfl) rfl ?_
        refine OpsFrom.v (Y.lss (up0 rfl rfl rfl) rfl rfl rfl) rfl ?_
        refine OpsFrom.v (Doing.isB (c := false) (decide_eq_false a7_4) (Y.move (up0 rfl rfl rfl) rfl rfl)) rfl ?_
        refine OpsFrom.v (Doing.skip _ _ _ _ rfl rfl rfl rfl (dlt rfl (Nat.le_of_ble_eq_true rfl))) rfl ?_
        refine OpsFrom.v (Doing.skip _ _ _ _ rfl rfl rfl rfl (dlt rfl (Nat.le_of_ble_eq_true rfl))) rfl ?_
        refine OpsFrom.v (Y.pickF (up0 rfl rfl rfl) rfl rfl rfl) rfl ?_
        refine OpsFrom.nil ?_
        exact join _ [] ⟨⟨rfl, rfl, rfl, rfl, rfl, rfl, rfl, rfl, rfl, rfl, rfl, rfl, (bEq (by simp [a7_4])), (bEq (by simp [a7_4])), trivial⟩, ⟨rfl, (mlEq rfl), trivial⟩, rfl, rfl⟩


end Go.Proofs.Ytkpelchcpiafaaa
