/-
  Walks: the segments of bytes.
-/
import Derived.Test.YtkpelchcpiafaaaTa
namespace Go.Proofs.Ytkpelchcpiafaaa
open Go Go.Fx
set_option linter.unusedVariables false
set_option linter.unusedSimpArgs false
def segs_s1 (s : List Nat) (i1_ : Nat) (m1_ : (List Nat) × (List (List Nat))) : (List Nat) × (List (List Nat)) :=
  let v2_ : List Nat := (m1_.1.drop 528).take (m1_.1.length - 528)
  (v2_, m1_.2 ++ [(m1_.1.drop 0).take (528 - 0)])
def segs_it1 (s : List Nat) (i1_ : Nat) : (List Nat) × (List (List Nat)) := iter (segs_s1 s) i1_ (s, [])
theorem segs_it1_z (s : List Nat) : segs_it1 s 0 = (s, []) := rfl
theorem segs_it1_s (s : List Nat) (i1_ : Nat) : segs_it1 s (i1_ + 1) = segs_s1 s i1_ (segs_it1 s i1_) := by unfold segs_it1; exact iterS _ _ _
theorem segs_f (s : List Nat) : ∀ i, 528 * i ≤ s.length → (segs_it1 s i).1 = s.drop (528 * i)
  | 0, _ => rfl
  | i + 1, h => by
    have h1 := segs_f s i (by omega)
    rw [segs_it1_s]
    unfold segs_s1
    dsimp only
    rw [h1, List.take_of_length_le (by simp only [List.length_drop]; omega), List.drop_drop]
    exact congrArg (fun n => s.drop n) (by omega)
theorem segs_n (s : List Nat) : ∀ i, (segs_it1 s i).2.length = i
  | 0 => rfl
  | i + 1 => by
    rw [segs_it1_s]
    unfold segs_s1
    simp [segs_n s i]
theorem segs_iff (s : List Nat) (hs : s.length ≤ 4194304) {i : Nat} (hi : i ≤ (s.length - 1) / 528) : 528 < (segs_it1 s i).1.length ↔ i < (s.length - 1) / 528 := by
  rw [segs_f s i (by omega), List.length_drop]
  omega
def segs (s : List Nat) : List (List Nat) :=
  ((segs_it1 s ((s.length - 1) / 528)).2) ++ [(segs_it1 s ((s.length - 1) / 528)).1]
theorem w_segs (s : List Nat) (h_s : s.length ≤ 4194304) : VC Try.prog 48 [.one (.bs false .u8 s)] (.one (.bss false (segs s))) := by
  refine VC.go Try.func48 rfl Try.ntmps48 rfl rfl fun O w => ?_
  refine Holds.seq ?_
  refine Holds.reg ?_
  refine OpsFrom.v (Y.assign (up0 rfl rfl rfl) rfl rfl) rfl ?_
  refine OpsFrom.nil ?_
  refine Holds.seq ?_
  refine Holds.reg ?_
  refine OpsFrom.v (Y.assign (up0 rfl rfl rfl) rfl rfl) rfl ?_
  refine OpsFrom.nil ?_
  refine Holds.seq ?_
  refine Holds.block ?_
  refine Holds.grow 3 3 (.mix []) rfl rfl rfl ?_
  refine Holds.loop (fun (i1_ : Nat) => ⟨[(0, .one (.bs false .u8 ((segs_it1 s i1_).1))), (2, .one (.nil)), (3, .one (.sg 3 0 ((((segs_it1 s i1_).2).map fun xs => SV.bs false .u8 xs).length)))], [(3, .own (.mix (((segs_it1 s i1_).2).map fun xs => .bs false .u8 xs)))]⟩) (fun (i1_ : Nat) => i1_ ≤ ((s.length - 1) / 528)) (fun (i1_ : Nat) => ((s.length - 1) / 528) - i1_) 0 (by first | (with_reducible assumption) | omega | (simp only [lens, List.flatten_cons, List.flatten_nil, List.append_nil, List.length_cons, List.length_nil, Cs.len, List.length_map, List.length_set, List.length_replicate, *]; first | done | omega) | decide | (split <;> simp only [lens, List.flatten_cons, List.flatten_nil, List.append_nil, List.length_cons, List.length_nil, Cs.len, List.length_map, List.length_set, List.length_replicate, *]) | (with_reducible exact Lt.mono (by assumption) (by decide)) | (simp only [Cs.len]; done) | rfl) [] ⟨⟨(bsEq (congrArg (fun (s : (List Nat) × (List (List Nat))) => s.1) (segs_it1_z s)).symm), rfl, rfl, trivial⟩, ⟨(mlEq (congrArg (fun (s : (List Nat) × (List (List Nat))) => s.2) (segs_it1_z s)).symm), trivial⟩, rfl, rfl⟩ ?_
  intro i1_ k1_
  have hf := segs_f s i1_ (by omega)
  have hn := segs_n s i1_
  have hfl : (segs_it1 s i1_).1.length + 528 * i1_ ≤ s.length := by rw [hf, List.length_drop]; omega
  refine Holds.seq ?_
  refine Holds.seq ?_
  refine Holds.reg ?_
  refine OpsFrom.v (Y.move (up0 rfl rfl rfl) rfl rfl) rfl ?_
  refine OpsFrom.v (Y.len ty26 (up0 rfl rfl rfl) rfl rfl rfl rfl) rfl ?_
  refine OpsFrom.v (Y.gtr (b := 528) (up0 rfl rfl rfl) rfl rfl rfl) rfl ?_
  refine OpsFrom.nil ?_
  refine Holds.condD rfl (fun h6 => ?_) (fun h6 => ?_)
  · have h1c := (segs_iff s h_s k1_).1 h6
    refine Holds.skip ?_
    refine Holds.block ?_
    refine Holds.seq ?_
    refine Holds.reg ?_
    refine OpsFrom.v (Y.move (up0 rfl rfl rfl) rfl rfl) rfl ?_
    refine OpsFrom.v (Y.move (up0 rfl rfl rfl) rfl rfl) rfl ?_
    refine OpsFrom.v (Y.slBs ty26 ty5 (up0 rfl rfl rfl) rfl rfl bnd0 (bnd1 (v := 528) rfl) (by first | (with_reducible assumption) | omega | (simp only [lens, List.flatten_cons, List.flatten_nil, List.append_nil, List.length_cons, List.length_nil, Cs.len, List.length_map, List.length_set, List.length_replicate, *]; first | done | omega) | decide | (split <;> simp only [lens, List.flatten_cons, List.flatten_nil, List.append_nil, List.length_cons, List.length_nil, Cs.len, List.length_map, List.length_set, List.length_replicate, *]) | (with_reducible exact Lt.mono (by assumption) (by decide)) | (simp only [Cs.len]; done) | rfl) (by first | (with_reducible assumption) | omega | (simp only [lens, List.flatten_cons, List.flatten_nil, List.append_nil, List.length_cons, List.length_nil, Cs.len, List.length_map, List.length_set, List.length_replicate, *]; first | done | omega) | decide | (split <;> simp only [lens, List.flatten_cons, List.flatten_nil, List.append_nil, List.length_cons, List.length_nil, Cs.len, List.length_map, List.length_set, List.length_replicate, *]) | (with_reducible exact Lt.mono (by assumption) (by decide)) | (simp only [Cs.len]; done) | rfl)) rfl ?_
    refine OpsFrom.u (Y.bldS (d := 10) ty39 ty26 rfl (up0 rfl rfl rfl) rfl (.mix (List.replicate 1 (.nil))) rfl rfl rfl rfl (by decide) (by decide) (.cons _ _ _ _ _ _ _ _ _ rfl rfl rfl rfl (Spl.m (by first | decide | (simp; done))) (.nil _))) rfl (by simp [Ls.nomB, AV.ids, SV.ids, Bk.ids, Cs.ids, ids_mixl, argsFr, cxV, cxU, lk, killL]) rfl ?_
    refine OpsFrom.u (Y.app (d := 11) ty39 ty26 rfl ty39 (by decide) (up0 rfl rfl rfl) rfl rfl rfl (.all rfl rfl) rfl (.all rfl (by first | (with_reducible assumption) | omega | (simp only [lens, List.flatten_cons, List.flatten_nil, List.append_nil, List.length_cons, List.length_nil, Cs.len, List.length_map, List.length_set, List.length_replicate, *]; first | done | omega) | decide | (split <;> simp only [lens, List.flatten_cons, List.flatten_nil, List.append_nil, List.length_cons, List.length_nil, Cs.len, List.length_map, List.length_set, List.length_replicate, *]) | (with_reducible exact Lt.mono (by assumption) (by decide)) | (simp only [Cs.len]; done) | rfl)) App.mL (by first | (with_reducible assumption) | omega | (simp only [lens, List.flatten_cons, List.flatten_nil, List.append_nil, List.length_cons, List.length_nil, Cs.len, List.length_map, List.length_set, List.length_replicate, *]; first | done | omega) | decide | (split <;> simp only [lens, List.flatten_cons, List.flatten_nil, List.append_nil, List.length_cons, List.length_nil, Cs.len, List.length_map, List.length_set, List.length_replicate, *]) | (with_reducible exact Lt.mono (by assumption) (by decide)) | (simp only [Cs.len]; done) | rfl) rfl (by first | (simp; done) | (rintro ⟨_, _, _, h⟩; cases h))) rfl (by simp [Ls.nomB, AV.ids, SV.ids, Bk.ids, Cs.ids, ids_mixl, argsFr, cxV, cxU, lk, killL]) rfl ?_
    refine OpsFrom.v (Y.assign (up0 rfl rfl rfl) rfl rfl) rfl ?_
    refine OpsFrom.nil ?_
    refine Holds.reg ?_
    refine OpsFrom.v (Y.move (up0 rfl rfl rfl) rfl rfl) rfl ?_
    refine OpsFrom.v (Y.slBs ty26 ty5 (up0 rfl rfl rfl) rfl rfl (bnd1 (v := 528) rfl) bnd0 (by first | (with_reducible assumption) | omega | (simp only [lens, List.flatten_cons, List.flatten_nil, List.append_nil, List.length_cons, List.length_nil, Cs.len, List.length_map, List.length_set, List.length_replicate, *]; first | done | omega) | decide | (split <;> simp only [lens, List.flatten_cons, List.flatten_nil, List.append_nil, List.length_cons, List.length_nil, Cs.len, List.length_map, List.length_set, List.length_replicate, *]) | (with_reducible exact Lt.mono (by assumption) (by decide)) | (simp only [Cs.len]; done) | rfl) (by first | (with_reducible assumption) | omega | (simp only [lens, List.flatten_cons, List.flatten_nil, List.append_nil, List.length_cons, List.length_nil, Cs.len, List.length_map, List.length_set, List.length_replicate, *]; first | done | omega) | decide | (split <;> simp only [lens, List.flatten_cons, List.flatten_nil, List.append_nil, List.length_cons, List.length_nil, Cs.len, List.length_map, List.length_set, List.length_replicate, *]) | (with_reducible exact Lt.mono (by assumption) (by decide)) | (simp only [Cs.len]; done) | rfl)) rfl ?_
    refine OpsFrom.v (Y.assign (up0 rfl rfl rfl) rfl rfl) rfl ?_
    refine OpsFrom.nil ?_
    exact Holds.again (i1_ + 1) (by omega) (by omega) [(3, 11)] ⟨⟨(bsEq (by rw [segs_it1_s]; unfold segs_s1; first | (dsimp only; done) | rfl)), rfl, (sgEq (congrArg (fun l => (List.map (fun xs => SV.bs false .u8 xs) l).length) (by rw [segs_it1_s]; unfold segs_s1; first | (dsimp only; done) | rfl)) rfl), trivial⟩, ⟨(mlEq (by rw [segs_it1_s]; unfold segs_s1; first | (dsimp only; done) | rfl)), trivial⟩, rfl, rfl⟩
  · have h1c : ¬ (i1_ < ((s.length - 1) / 528)) := fun q => h6 ((segs_iff s h_s k1_).2 q)
    obtain rfl : i1_ = (s.length - 1) / 528 := by omega
    refine Holds.exit ?_
    refine Holds.seq ?_
    refine Holds.reg ?_
    refine OpsFrom.v (Y.move (up0 rfl rfl rfl) rfl rfl) rfl ?_
    refine OpsFrom.v (Y.move (up0 rfl rfl rfl) rfl rfl) rfl ?_
    refine OpsFrom.u (Y.bldS (d := 16) ty39 ty26 rfl (up0 rfl rfl rfl) rfl (.mix (List.replicate 1 (.nil))) rfl rfl rfl rfl (by decide) (by decide) (.cons _ _ _ _ _ _ _ _ _ rfl rfl rfl rfl (Spl.m (by first | decide | (simp; done))) (.nil _))) rfl (by simp [Ls.nomB, AV.ids, SV.ids, Bk.ids, Cs.ids, ids_mixl, argsFr, cxV, cxU, lk, killL]) rfl ?_
    refine OpsFrom.u (Y.app (d := 17) ty39 ty26 rfl ty39 (by decide) (up0 rfl rfl rfl) rfl rfl rfl (.all rfl rfl) rfl (.all rfl (by first | (with_reducible assumption) | omega | (simp only [lens, List.flatten_cons, List.flatten_nil, List.append_nil, List.length_cons, List.length_nil, Cs.len, List.length_map, List.length_set, List.length_replicate, *]; first | done | omega) | decide | (split <;> simp only [lens, List.flatten_cons, List.flatten_nil, List.append_nil, List.length_cons, List.length_nil, Cs.len, List.length_map, List.length_set, List.length_replicate, *]) | (with_reducible exact Lt.mono (by assumption) (by decide)) | (simp only [Cs.len]; done) | rfl)) App.mL (by first | (with_reducible assumption) | omega | (simp only [lens, List.flatten_cons, List.flatten_nil, List.append_nil, List.length_cons, List.length_nil, Cs.len, List.length_map, List.length_set, List.length_replicate, *]; first | done | omega) | decide | (split <;> simp only [lens, List.flatten_cons, List.flatten_nil, List.append_nil, List.length_cons, List.length_nil, Cs.len, List.length_map, List.length_set, List.length_replicate, *]) | (with_reducible exact Lt.mono (by assumption) (by decide)) | (simp only [Cs.len]; done) | rfl) rfl (by first | (simp; done) | (rintro ⟨_, _, _, h⟩; cases h))) rfl (by simp [Ls.nomB, AV.ids, SV.ids, Bk.ids, Cs.ids, ids_mixl, argsFr, cxV, cxU, lk, killL]) rfl ?_
    refine OpsFrom.v (Y.assign (up0 rfl rfl rfl) rfl rfl) rfl ?_
    refine OpsFrom.nil ?_
    refine Holds.ret ?_
    exact Holds.ret1 (.inl rfl) rfl (.tmp _ _ rfl) (.mixl rfl (by first | (simp only [Cs.len, List.length_map]; done) | (simp only [Cs.len, List.length_map]; rfl))) rfl


end Go.Proofs.Ytkpelchcpiafaaa
