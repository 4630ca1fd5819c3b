/-
  Walks: the text of the tag.
-/
import Derived.Test.YtkpelchcpiafaaaRb
namespace Go.Proofs.Ytkpelchcpiafaaa
open Go Go.Fx
set_option linter.unusedVariables false
set_option linter.unusedSimpArgs false
theorem two_lt {a b : List Nat} {K : Nat} (ha : a.length < K) (hb : b.length < K) (j : Nat) : ([a, b].getD j []).length < K := by
  have : 0 < K := by omega
  rcases j with _ | _ | j <;> simp <;> omega
def tagged_s2 (ts : List (List Nat)) (i1_ : Nat) (m1_ : (List (List Nat)) × (List Nat)) (i2_ : Nat) (m2_ : List Nat) : List Nat :=
  let v23_ : Nat := ((ts.getD i1_ []).length) % 18446744073709551616
  m2_ ++ [(v23_ / 2 ^ (8 * i2_)) % 256]
def tagged_it2 (ts : List (List Nat)) (i1_ : Nat) (m1_ : (List (List Nat)) × (List Nat)) (i2_ : Nat) : List Nat := iter (tagged_s2 ts i1_ m1_) i2_ m1_.2
theorem tagged_it2_z (ts : List (List Nat)) (i1_ : Nat) (m1_ : (List (List Nat)) × (List Nat)) : tagged_it2 ts i1_ m1_ 0 = m1_.2 := rfl
theorem tagged_it2_s (ts : List (List Nat)) (i1_ : Nat) (m1_ : (List (List Nat)) × (List Nat)) (i2_ : Nat) : tagged_it2 ts i1_ m1_ (i2_ + 1) = tagged_s2 ts i1_ m1_ i2_ (tagged_it2 ts i1_ m1_ i2_) := by unfold tagged_it2; exact iterS _ _ _
theorem tagged_n2 (ts : List (List Nat)) (i1 : Nat) (m : (List (List Nat)) × (List Nat)) (i : Nat) : (tagged_it2 ts i1 m i).length = m.2.length + i := by
  induction i with
  | zero => rfl
  | succ i ih => rw [tagged_it2_s]; unfold tagged_s2; simp [ih]; omega
def tagged_s1 (ts : List (List Nat)) (i1_ : Nat) (m1_ : (List (List Nat)) × (List Nat)) : (List (List Nat)) × (List Nat) :=
  let v13_ : Nat := (16 - (((ts.getD i1_ []).length) % 16)) % 16
  (m1_.1 ++ [ts.getD i1_ [], List.replicate v13_ 0], (tagged_it2 ts i1_ m1_ 8))
def tagged_it1 (ts : List (List Nat)) (i1_ : Nat) : (List (List Nat)) × (List Nat) := iter (tagged_s1 ts) i1_ ([], [])
theorem tagged_it1_z (ts : List (List Nat)) : tagged_it1 ts 0 = ([], []) := rfl
theorem tagged_it1_s (ts : List (List Nat)) (i1_ : Nat) : tagged_it1 ts (i1_ + 1) = tagged_s1 ts i1_ (tagged_it1 ts i1_) := by unfold tagged_it1; exact iterS _ _ _
theorem tagged_n (ts : List (List Nat)) (i : Nat) : (tagged_it1 ts i).1.length = 2 * i ∧ (tagged_it1 ts i).2.length = 8 * i := by
  induction i with
  | zero => exact ⟨rfl, rfl⟩
  | succ i ih =>
    rw [tagged_it1_s]
    unfold tagged_s1
    obtain ⟨h1, h2⟩ := ih
    refine ⟨?_, ?_⟩
    · simp [h1]; omega
    · simp only [tagged_n2, h2]; omega
def tagged (ts : List (List Nat)) : List (List Nat) :=
  ((tagged_it1 ts ts.length).1) ++ [(tagged_it1 ts ts.length).2]
theorem w_tagged (ts : List (List Nat)) (h_n : ts.length < 1000000) (h_ts : ∀ j, (ts.getD j []).length < 1073741824) : VC Try.prog 68 [.one (.bss false ts)] (.one (.bss false (tagged ts))) := by
  refine VC.go Try.func68 rfl Try.ntmps68 rfl rfl fun O w => ?_
  refine Holds.seq ?_
  refine Holds.reg ?_
  refine OpsFrom.v (Y.assign (up0 rfl rfl rfl) rfl rfl) rfl ?_
  refine OpsFrom.nil ?_
  refine Holds.seq ?_
  refine Holds.reg ?_
  refine OpsFrom.v (Y.assign (up0 rfl rfl rfl) rfl rfl) rfl ?_
  refine OpsFrom.nil ?_
  refine Holds.seq ?_
  refine Holds.seq ?_
  refine Holds.reg ?_
  refine OpsFrom.v (Y.move (up0 rfl rfl rfl) rfl rfl) rfl ?_
  refine OpsFrom.v (Y.len ty39 (up0 rfl rfl rfl) rfl rfl rfl rfl) rfl ?_
  refine OpsFrom.v (Y.move (v := (.one (.n .i64 0))) (up0 rfl rfl rfl) rfl rfl) rfl ?_
  refine OpsFrom.nil ?_
  refine Holds.block ?_
  refine Holds.grow 2 2 (.mix []) rfl rfl rfl ?_
  refine Holds.grow 3 3 (.ints .u8 []) rfl rfl rfl ?_
  refine Holds.loop (fun (i1_ : Nat) => ⟨[(2, .one (.sg 2 0 ((((tagged_it1 ts i1_).1).map fun xs => SV.bs false .u8 xs).length))), (3, .one (.sg 3 0 (((tagged_it1 ts i1_).2).length))), (7, .one (.bss false ts)), (8, .one (.n .i64 ts.length)), (9, .one (.n .i64 i1_))], [(2, .own (.mix (((tagged_it1 ts i1_).1).map fun xs => .bs false .u8 xs))), (3, .own (.ints .u8 ((tagged_it1 ts i1_).2)))]⟩) (fun (i1_ : Nat) => i1_ ≤ ts.length) (fun (i1_ : Nat) => ts.length - i1_) 0 (by first | (with_reducible assumption) | omega | (simp only [lens, List.flatten_cons, List.flatten_nil, List.append_nil, List.length_cons, List.length_nil, Cs.len, List.length_map, List.length_set, List.length_replicate, *]; first | done | omega) | decide | (split <;> simp only [lens, List.flatten_cons, List.flatten_nil, List.append_nil, List.length_cons, List.length_nil, Cs.len, List.length_map, List.length_set, List.length_replicate, *]) | (with_reducible exact Lt.mono (by assumption) (by decide)) | (simp only [Cs.len]; done) | rfl) [] ⟨⟨rfl, rfl, rfl, rfl, rfl, trivial⟩, ⟨(mlEq (congrArg (fun (s : (List (List Nat)) × (List Nat)) => s.1) (tagged_it1_z ts)).symm), (hEq (congrArg (fun (s : (List (List Nat)) × (List Nat)) => s.2) (tagged_it1_z ts)).symm), trivial⟩, rfl, rfl⟩ ?_
  intro i1_ k1_
  have h_t := h_ts i1_
  have hn := tagged_n ts i1_
  refine Holds.seq ?_
  refine Holds.reg ?_
  refine OpsFrom.v (Y.lss (up0 rfl rfl rfl) rfl rfl rfl) rfl ?_
  refine OpsFrom.nil ?_
  refine Holds.seq ?_
  refine Holds.condD rfl (fun h10 => ?_) (fun h10 => ?_)
  · refine Holds.skip ?_
    refine Holds.seq ?_
    refine Holds.block ?_
    refine Holds.seq ?_
    refine Holds.reg ?_
    refine OpsFrom.v (Y.iaBss ty39 ty26 (up0 rfl rfl rfl) rfl rfl rfl (by first | (with_reducible assumption) | omega | (simp only [lens, List.flatten_cons, List.flatten_nil, List.append_nil, List.length_cons, List.length_nil, Cs.len, List.length_map, List.length_set, List.length_replicate, *]; first | done | omega) | decide | (split <;> simp only [lens, List.flatten_cons, List.flatten_nil, List.append_nil, List.length_cons, List.length_nil, Cs.len, List.length_map, List.length_set, List.length_replicate, *]) | (with_reducible exact Lt.mono (by assumption) (by decide)) | (simp only [Cs.len]; done) | rfl)) rfl ?_
    refine OpsFrom.v (Y.ldPcb ty26 rfl (up0 rfl rfl rfl) rfl rfl) rfl ?_
    refine OpsFrom.v (Y.assign (up0 rfl rfl rfl) rfl rfl) rfl ?_
    refine OpsFrom.nil ?_
    refine Holds.seq ?_
    refine Holds.reg ?_
    refine OpsFrom.v (Y.move (up0 rfl rfl rfl) rfl rfl) rfl ?_
    refine OpsFrom.v (Y.move (up0 rfl rfl rfl) rfl rfl) rfl ?_
    refine OpsFrom.v (Y.move (up0 rfl rfl rfl) rfl rfl) rfl ?_
    refine OpsFrom.v (Y.len ty26 (up0 rfl rfl rfl) rfl rfl rfl rfl) rfl ?_
    refine OpsFrom.v (Y.rem (b := 16) (up0 rfl rfl rfl) rfl rfl rfl (by decide)) rfl ?_
    refine OpsFrom.v (Y.subI (a := 16) (up0 rfl rfl rfl) rfl rfl rfl (by first | (with_reducible assumption) | omega | (simp only [lens, List.flatten_cons, List.flatten_nil, List.append_nil, List.length_cons, List.length_nil, Cs.len, List.length_map, List.length_set, List.length_replicate, *]; first | done | omega) | decide | (split <;> simp only [lens, List.flatten_cons, List.flatten_nil, List.append_nil, List.length_cons, List.length_nil, Cs.len, List.length_map, List.length_set, List.length_replicate, *]) | (with_reducible exact Lt.mono (by assumption) (by decide)) | (simp only [Cs.len]; done) | rfl) (by first | (with_reducible assumption) | omega | (simp only [lens, List.flatten_cons, List.flatten_nil, List.append_nil, List.length_cons, List.length_nil, Cs.len, List.length_map, List.length_set, List.length_replicate, *]; first | done | omega) | decide | (split <;> simp only [lens, List.flatten_cons, List.flatten_nil, List.append_nil, List.length_cons, List.length_nil, Cs.len, List.length_map, List.length_set, List.length_replicate, *]) | (with_reducible exact Lt.mono (by assumption) (by decide)) | (simp only [Cs.len]; done) | rfl)) rfl ?_
    refine OpsFrom.v (Y.rem (b := 16) (up0 rfl rfl rfl) rfl rfl rfl (by decide)) rfl ?_
    refine OpsFrom.u (Y.mkS (d := 20) ty26 ty5 (up0 rfl rfl rfl) rfl rfl rfl (by first | (with_reducible assumption) | omega | (simp only [lens, List.flatten_cons, List.flatten_nil, List.append_nil, List.length_cons, List.length_nil, Cs.len, List.length_map, List.length_set, List.length_replicate, *]; first | done | omega) | decide | (split <;> simp only [lens, List.flatten_cons, List.flatten_nil, List.append_nil, List.length_cons, List.length_nil, Cs.len, List.length_map, List.length_set, List.length_replicate, *]) | (with_reducible exact Lt.mono (by assumption) (by decide)) | (simp only [Cs.len]; done) | rfl) (by first | (with_reducible assumption) | omega | (simp only [lens, List.flatten_cons, List.flatten_nil, List.append_nil, List.length_cons, List.length_nil, Cs.len, List.length_map, List.length_set, List.length_replicate, *]; first | done | omega) | decide | (split <;> simp only [lens, List.flatten_cons, List.flatten_nil, List.append_nil, List.length_cons, List.length_nil, Cs.len, List.length_map, List.length_set, List.length_replicate, *]) | (with_reducible exact Lt.mono (by assumption) (by decide)) | (simp only [Cs.len]; done) | rfl)) rfl (by simp [Ls.nomB, AV.ids, SV.ids, Bk.ids, Cs.ids, ids_mixl, argsFr, cxV, cxU, lk, killL]) rfl ?_
    refine OpsFrom.freezeV 20 20 rfl rfl (.all rfl (by first | (with_reducible assumption) | omega | (simp only [lens, List.flatten_cons, List.flatten_nil, List.append_nil, List.length_cons, List.length_nil, Cs.len, List.length_map, List.length_set, List.length_replicate, *]; first | done | omega) | decide | (split <;> simp only [lens, List.flatten_cons, List.flatten_nil, List.append_nil, List.length_cons, List.length_nil, Cs.len, List.length_map, List.length_set, List.length_replicate, *]) | (with_reducible exact Lt.mono (by assumption) (by decide)) | (simp only [Cs.len]; done) | rfl)) ?_
    refine OpsFrom.u (Y.bldS (d := 21) ty39 ty26 rfl (up0 rfl rfl rfl) rfl (.mix (List.replicate 2 (.nil))) rfl rfl rfl rfl (by decide) (by decide) (.cons _ _ _ _ _ _ _ _ _ rfl rfl rfl rfl (Spl.m (by first | decide | (simp; done))) (.cons _ _ _ _ _ _ _ _ _ rfl rfl rfl rfl (Spl.m (by first | decide | (simp; done))) (.nil _)))) rfl (by simp [Ls.nomB, AV.ids, SV.ids, Bk.ids, Cs.ids, ids_mixl, argsFr, cxV, cxU, lk, killL]) rfl ?_
    refine OpsFrom.u (Y.app (d := 22) ty39 ty26 rfl ty39 (by decide) (up0 rfl rfl rfl) rfl rfl rfl (.all rfl rfl) rfl (.all rfl (by first | (with_reducible assumption) | omega | (simp only [lens, List.flatten_cons, List.flatten_nil, List.append_nil, List.length_cons, List.length_nil, Cs.len, List.length_map, List.length_set, List.length_replicate, *]; first | done | omega) | decide | (split <;> simp only [lens, List.flatten_cons, List.flatten_nil, List.append_nil, List.length_cons, List.length_nil, Cs.len, List.length_map, List.length_set, List.length_replicate, *]) | (with_reducible exact Lt.mono (by assumption) (by decide)) | (simp only [Cs.len]; done) | rfl)) App.mL2 (by first | (with_reducible assumption) | omega | (simp only [lens, List.flatten_cons, List.flatten_nil, List.append_nil, List.length_cons, List.length_nil, Cs.len, List.length_map, List.length_set, List.length_replicate, *]; first | done | omega) | decide | (split <;> simp only [lens, List.flatten_cons, List.flatten_nil, List.append_nil, List.length_cons, List.length_nil, Cs.len, List.length_map, List.length_set, List.length_replicate, *]) | (with_reducible exact Lt.mono (by assumption) (by decide)) | (simp only [Cs.len]; done) | rfl) rfl (by first | (simp; done) | (rintro ⟨_, _, _, h⟩; cases h))) rfl (by simp [Ls.nomB, AV.ids, SV.ids, Bk.ids, Cs.ids, ids_mixl, argsFr, cxV, cxU, lk, killL]) rfl ?_
    refine OpsFrom.v (Y.assign (up0 rfl rfl rfl) rfl rfl) rfl ?_
    refine OpsFrom.nil ?_
    refine Holds.seq ?_
    refine Holds.reg ?_
    refine OpsFrom.v (Y.move (v := (.one (.n .i64 0))) (up0 rfl rfl rfl) rfl rfl) rfl ?_
    refine OpsFrom.nil ?_
    refine Holds.block ?_
    refine Holds.loop (fun (i2_ : Nat) => ⟨[(2, .one (.sg 22 0 ((((tagged_it1 ts i1_).1 ++ [ts.getD i1_ [], List.replicate ((16 - (((ts.getD i1_ []).length) % 16)) % 16) 0]).map fun xs => SV.bs false .u8 xs).length))), (3, .one (.sg 3 0 ((tagged_it2 ts i1_ (tagged_it1 ts i1_) i2_).length))), (7, .one (.bss false ts)), (8, .one (.n .i64 ts.length)), (9, .one (.n .i64 i1_)), (10, .one (.b (decide (i1_ < ts.length)))), (11, .one (.pcb (ts.getD i1_ []))), (12, .one (.bs false .u8 (ts.getD i1_ []))), (5, .one (.bs false .u8 (ts.getD i1_ []))), (13, .one (.sg 2 0 (((tagged_it1 ts i1_).1.map fun xs => SV.bs false .u8 xs).length))), (14, .one (.bs false .u8 (ts.getD i1_ []))), (15, .one (.bs false .u8 (ts.getD i1_ []))), (16, .one (.n .i64 ((ts.getD i1_ []).length))), (17, .one (.n .i64 (((ts.getD i1_ []).length) % 16))), (18, .one (.n .i64 (16 - (((ts.getD i1_ []).length) % 16)))), (19, .one (.n .i64 ((16 - (((ts.getD i1_ []).length) % 16)) % 16))), (20, .one (.bs false .u8 (List.replicate ((16 - (((ts.getD i1_ []).length) % 16)) % 16) 0))), (21, .one (.sg 21 0 2)), (22, .one (.sg 22 0 ((((tagged_it1 ts i1_).1 ++ [ts.getD i1_ [], List.replicate ((16 - (((ts.getD i1_ []).length) % 16)) % 16) 0]).map fun xs => SV.bs false .u8 xs).length))), (23, .one (.n .i64 i2_))], [(22, .own (.mix (((tagged_it1 ts i1_).1 ++ [ts.getD i1_ [], List.replicate ((16 - (((ts.getD i1_ []).length) % 16)) % 16) 0]).map fun xs => .bs false .u8 xs))), (3, .own (.ints .u8 (tagged_it2 ts i1_ (tagged_it1 ts i1_) i2_))), (2, .dead), (21, .own (.mix [.bs false .u8 (ts.getD i1_ []), .bs false .u8 (List.replicate ((16 - (((ts.getD i1_ []).length) % 16)) % 16) 0)]))]⟩) (fun (i2_ : Nat) => i2_ ≤ 8) (fun (i2_ : Nat) => 8 - i2_) 0 (by first | (with_reducible assumption) | omega | (simp only [lens, List.flatten_cons, List.flatten_nil, List.append_nil, List.length_cons, List.length_nil, Cs.len, List.length_map, List.length_set, List.length_replicate, *]; first | done | omega) | decide | (split <;> simp only [lens, List.flatten_cons, List.flatten_nil, List.append_nil, List.length_cons, List.length_nil, Cs.len, List.length_map, List.length_set, List.length_replicate, *]) | (with_reducible exact Lt.mono (by assumption) (by decide)) | (simp only [Cs.len]; done) | rfl) [] ⟨⟨rfl, rfl, rfl, rfl, rfl, rfl, rfl, rfl, rfl, rfl, rfl, rfl, rfl, rfl, rfl, rfl, rfl, rfl, rfl, rfl, trivial⟩, ⟨(mlEq rfl), (hEq (congrArg (fun (s : List Nat) => s) (tagged_it2_z ts i1_ (tagged_it1 ts i1_))).symm), rfl, rfl, trivial⟩, rfl, rfl⟩ ?_
    intro i2_ k2_
    have hn2 := tagged_n2 ts i1_ (tagged_it1 ts i1_) i2_
    refine Holds.seq ?_
    refine Holds.reg ?_
    refine OpsFrom.v (Y.lss (b := 8) (up0 rfl rfl rfl) rfl rfl rfl) rfl ?_
    refine OpsFrom.nil ?_
    refine Holds.seq ?_
    refine Holds.condD rfl (fun h24 => ?_) (fun h24 => ?_)
    · refine Holds.skip ?_
      refine Holds.seq ?_
      refine Holds.block ?_
      refine Holds.seq ?_
      refine Holds.reg ?_
      refine OpsFrom.v (Y.move (up0 rfl rfl rfl) rfl rfl) rfl ?_
      refine OpsFrom.v (Y.assign (up0 rfl rfl rfl) rfl rfl) rfl ?_
      refine OpsFrom.nil ?_
      refine Holds.reg ?_
      refine OpsFrom.v (Y.move (up0 rfl rfl rfl) rfl rfl) rfl ?_
      refine OpsFrom.v (Y.move (up0 rfl rfl rfl) rfl rfl) rfl ?_
      refine OpsFrom.v (Y.len ty26 (up0 rfl rfl rfl) rfl rfl rfl rfl) rfl ?_
      refine OpsFrom.v (Y.conv ty3.u ty42.u u64s u64m (up0 rfl rfl rfl) rfl rfl) rfl ?_
      refine OpsFrom.v (Y.move (up0 rfl rfl rfl) rfl rfl) rfl ?_
      refine OpsFrom.v (Y.mulI (a := 8) (up0 rfl rfl rfl) rfl rfl rfl (by first | (with_reducible assumption) | omega | (simp only [lens, List.flatten_cons, List.flatten_nil, List.append_nil, List.length_cons, List.length_nil, Cs.len, List.length_map, List.length_set, List.length_replicate, *]; first | done | omega) | decide | (split <;> simp only [lens, List.flatten_cons, List.flatten_nil, List.append_nil, List.length_cons, List.length_nil, Cs.len, List.length_map, List.length_set, List.length_replicate, *]) | (with_reducible exact Lt.mono (by assumption) (by decide)) | (simp only [Cs.len]; done) | rfl)) rfl ?_
      refine OpsFrom.v (Y.shr u64s u64m (up0 rfl rfl rfl) rfl rfl rfl) rfl ?_
      refine OpsFrom.v (Y.conv ty42.u ty5.u u8s u8m (up0 rfl rfl rfl) rfl rfl) rfl ?_
      refine OpsFrom.u (Y.bldS (d := 34) ty26 ty5 rfl (up0 rfl rfl rfl) rfl (.ints .u8 (List.replicate 1 0)) rfl rfl rfl rfl (by decide) (by decide) (.cons _ _ _ _ _ _ _ _ _ rfl rfl rfl rfl (Spl.n (by first | decide | (simp; done))) (.nil _))) rfl (by simp [Ls.nomB, AV.ids, SV.ids, Bk.ids, Cs.ids, ids_mixl, argsFr, cxV, cxU, lk, killL]) rfl ?_
      refine OpsFrom.u (Y.app (d := 35) ty26 ty5 rfl ty26 (by decide) (up0 rfl rfl rfl) rfl rfl rfl (.all rfl (by first | (with_reducible assumption) | omega | (simp only [lens, List.flatten_cons, List.flatten_nil, List.append_nil, List.length_cons, List.length_nil, Cs.len, List.length_map, List.length_set, List.length_replicate, *]; first | done | omega) | decide | (split <;> simp only [lens, List.flatten_cons, List.flatten_nil, List.append_nil, List.length_cons, List.length_nil, Cs.len, List.length_map, List.length_set, List.length_replicate, *]) | (with_reducible exact Lt.mono (by assumption) (by decide)) | (simp only [Cs.len]; done) | rfl)) rfl (.all rfl (by first | (with_reducible assumption) | omega | (simp only [lens, List.flatten_cons, List.flatten_nil, List.append_nil, List.length_cons, List.length_nil, Cs.len, List.length_map, List.length_set, List.length_replicate, *]; first | done | omega) | decide | (split <;> simp only [lens, List.flatten_cons, List.flatten_nil, List.append_nil, List.length_cons, List.length_nil, Cs.len, List.length_map, List.length_set, List.length_replicate, *]) | (with_reducible exact Lt.mono (by assumption) (by decide)) | (simp only [Cs.len]; done) | rfl)) App.i (by first | (with_reducible assumption) | omega | (simp only [lens, List.flatten_cons, List.flatten_nil, List.append_nil, List.length_cons, List.length_nil, Cs.len, List.length_map, List.length_set, List.length_replicate, *]; first | done | omega) | decide | (split <;> simp only [lens, List.flatten_cons, List.flatten_nil, List.append_nil, List.length_cons, List.length_nil, Cs.len, List.length_map, List.length_set, List.length_replicate, *]) | (with_reducible exact Lt.mono (by assumption) (by decide)) | (simp only [Cs.len]; done) | rfl) rfl (by first | (simp; done) | (rintro ⟨_, _, _, h⟩; cases h))) rfl (by simp [Ls.nomB, AV.ids, SV.ids, Bk.ids, Cs.ids, ids_mixl, argsFr, cxV, cxU, lk, killL]) rfl ?_
      refine OpsFrom.v (Y.assign (up0 rfl rfl rfl) rfl rfl) rfl ?_
      refine OpsFrom.nil ?_
      refine Holds.reg ?_
      refine OpsFrom.v (Y.addI (b := 1) (up0 rfl rfl rfl) rfl rfl rfl (by first | (with_reducible assumption) | omega | (simp only [lens, List.flatten_cons, List.flatten_nil, List.append_nil, List.length_cons, List.length_nil, Cs.len, List.length_map, List.length_set, List.length_replicate, *]; first | done | omega) | decide | (split <;> simp only [lens, List.flatten_cons, List.flatten_nil, List.append_nil, List.length_cons, List.length_nil, Cs.len, List.length_map, List.length_set, List.length_replicate, *]) | (with_reducible exact Lt.mono (by assumption) (by decide)) | (simp only [Cs.len]; done) | rfl)) rfl ?_
      refine OpsFrom.v (Y.move (up0 rfl rfl rfl) rfl rfl) rfl ?_
      refine OpsFrom.nil ?_
      exact Holds.again (i2_ + 1) (by omega) (by omega) [(3, 35)] ⟨⟨rfl, (sgEq (congrArg List.length (by rw [tagged_it2_s]; unfold tagged_s2; first | (dsimp only; done) | rfl)) rfl), rfl, rfl, rfl, rfl, rfl, rfl, rfl, rfl, rfl, rfl, rfl, rfl, rfl, rfl, rfl, rfl, rfl, (nEq (by omega)), trivial⟩, ⟨(mlEq rfl), (hEq (by rw [tagged_it2_s]; unfold tagged_s2; first | (dsimp only; done) | rfl)), rfl, rfl, trivial⟩, rfl, rfl⟩
    · obtain rfl : i2_ = 8 := by omega
      refine Holds.exit ?_
      refine Holds.reg ?_
      refine OpsFrom.v (Y.addI (b := 1) (up0 rfl rfl rfl) rfl rfl rfl (by first | (with_reducible assumption) | omega | (simp only [lens, List.flatten_cons, List.flatten_nil, List.append_nil, List.length_cons, List.length_nil, Cs.len, List.length_map, List.length_set, List.length_replicate, *]; first | done | omega) | decide | (split <;> simp only [lens, List.flatten_cons, List.flatten_nil, List.append_nil, List.length_cons, List.length_nil, Cs.len, List.length_map, List.length_set, List.length_replicate, *]) | (with_reducible exact Lt.mono (by assumption) (by decide)) | (simp only [Cs.len]; done) | rfl)) rfl ?_
      refine OpsFrom.v (Y.move (up0 rfl rfl rfl) rfl rfl) rfl ?_
      refine OpsFrom.nil ?_
      exact Holds.again (i1_ + 1) (by omega) (by omega) [(2, 22), (3, 3)] ⟨⟨(sgEq (congrArg (fun l => (List.map (fun xs => SV.bs false .u8 xs) l).length) (by rw [tagged_it1_s]; unfold tagged_s1; first | (dsimp only; done) | rfl)) rfl), (sgEq (congrArg List.length (by rw [tagged_it1_s]; unfold tagged_s1; first | (dsimp only; done) | rfl)) rfl), rfl, rfl, (nEq (by omega)), trivial⟩, ⟨(mlEq (by rw [tagged_it1_s]; unfold tagged_s1; first | (dsimp only; done) | rfl)), (hEq (by rw [tagged_it1_s]; unfold tagged_s1; first | (dsimp only; done) | rfl)), trivial⟩, rfl, rfl⟩
  · obtain rfl : i1_ = ts.length := by omega
    refine Holds.exit ?_
    refine Holds.seq ?_
    refine Holds.reg ?_
    refine OpsFrom.v (Y.move (up0 rfl rfl rfl) rfl rfl) rfl ?_
    refine OpsFrom.v (Y.move (up0 rfl rfl rfl) rfl rfl) rfl ?_
    refine OpsFrom.freezeV 39 3 rfl rfl (.all rfl (by first | (with_reducible assumption) | omega | (simp only [lens, List.flatten_cons, List.flatten_nil, List.append_nil, List.length_cons, List.length_nil, Cs.len, List.length_map, List.length_set, List.length_replicate, *]; first | done | omega) | decide | (split <;> simp only [lens, List.flatten_cons, List.flatten_nil, List.append_nil, List.length_cons, List.length_nil, Cs.len, List.length_map, List.length_set, List.length_replicate, *]) | (with_reducible exact Lt.mono (by assumption) (by decide)) | (simp only [Cs.len]; done) | rfl)) ?_
    refine OpsFrom.u (Y.bldS (d := 40) ty39 ty26 rfl (up0 rfl rfl rfl) rfl (.mix (List.replicate 1 (.nil))) rfl rfl rfl rfl (by decide) (by decide) (.cons _ _ _ _ _ _ _ _ _ rfl rfl rfl rfl (Spl.m (by first | decide | (simp; done))) (.nil _))) rfl (by simp [Ls.nomB, AV.ids, SV.ids, Bk.ids, Cs.ids, ids_mixl, argsFr, cxV, cxU, lk, killL]) rfl ?_
    refine OpsFrom.u (Y.app (d := 41) ty39 ty26 rfl ty39 (by decide) (up0 rfl rfl rfl) rfl rfl rfl (.all rfl rfl) rfl (.all rfl (by first | (with_reducible assumption) | omega | (simp only [lens, List.flatten_cons, List.flatten_nil, List.append_nil, List.length_cons, List.length_nil, Cs.len, List.length_map, List.length_set, List.length_replicate, *]; first | done | omega) | decide | (split <;> simp only [lens, List.flatten_cons, List.flatten_nil, List.append_nil, List.length_cons, List.length_nil, Cs.len, List.length_map, List.length_set, List.length_replicate, *]) | (with_reducible exact Lt.mono (by assumption) (by decide)) | (simp only [Cs.len]; done) | rfl)) App.mL (by first | (with_reducible assumption) | omega | (simp only [lens, List.flatten_cons, List.flatten_nil, List.append_nil, List.length_cons, List.length_nil, Cs.len, List.length_map, List.length_set, List.length_replicate, *]; first | done | omega) | decide | (split <;> simp only [lens, List.flatten_cons, List.flatten_nil, List.append_nil, List.length_cons, List.length_nil, Cs.len, List.length_map, List.length_set, List.length_replicate, *]) | (with_reducible exact Lt.mono (by assumption) (by decide)) | (simp only [Cs.len]; done) | rfl) rfl (by first | (simp; done) | (rintro ⟨_, _, _, h⟩; cases h))) rfl (by simp [Ls.nomB, AV.ids, SV.ids, Bk.ids, Cs.ids, ids_mixl, argsFr, cxV, cxU, lk, killL]) rfl ?_
    refine OpsFrom.v (Y.assign (up0 rfl rfl rfl) rfl rfl) rfl ?_
    refine OpsFrom.nil ?_
    refine Holds.ret ?_
    exact Holds.ret1 (.inl rfl) rfl (.tmp _ _ rfl) (.mixl rfl (by first | (simp only [Cs.len, List.length_map]; done) | (simp only [Cs.len, List.length_map]; rfl))) rfl


end Go.Proofs.Ytkpelchcpiafaaa
