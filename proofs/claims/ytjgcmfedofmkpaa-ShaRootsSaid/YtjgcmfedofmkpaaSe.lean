/-
  Walks: room for slices.
-/
import Derived.Test.YtjgcmfedofmkpaaSc
import Derived.Test.YtjgcmfedofmkpaaSd
namespace Go.Proofs.Ytjgcmfedofmkpaa
open Go Go.Fx
set_option linter.unusedVariables false
set_option linter.unusedSimpArgs false
def sgrow (n : Nat) : List Nat := []
theorem w_sgrow (n : Nat) (h_n : n ≤ 4194304) : VF Try.prog 48 [.one (.nil), .one (.n .i64 n)] (.one (.sg 0 0 ((sgrow n)).length)) .u8 ((sgrow n)) := by
  refine VF.go Try.func48 rfl Try.ntmps48 rfl rfl fun O w => ?_
  refine Holds.seq ?_
  refine Holds.reg ?_
  refine OpsFrom.v (Y.assign (up0 rfl rfl rfl) rfl rfl) rfl ?_
  refine OpsFrom.nil ?_
  refine Holds.seq ?_
  refine Holds.seq ?_
  refine Holds.reg ?_
  refine OpsFrom.v (Y.move (up0 rfl rfl rfl) rfl rfl) rfl ?_
  refine OpsFrom.v (Doing.isB (c := false) (decide_eq_false (Nat.not_lt_zero _)) (Y.lss (b := 0) (up0 rfl rfl rfl) rfl rfl rfl)) rfl ?_
  refine OpsFrom.nil ?_
  refine Holds.condF rfl ?_
  refine Holds.skip ?_
  refine Holds.seq ?_
  refine Holds.seq ?_
  refine Holds.reg ?_
  refine OpsFrom.v (Y.move (up0 rfl rfl rfl) rfl rfl) rfl ?_
  refine OpsFrom.v (Y.move (up0 rfl rfl rfl) rfl rfl) rfl ?_
  refine OpsFrom.v (Y.capNil ty22 (up0 rfl rfl rfl) rfl rfl rfl) rfl ?_
  refine OpsFrom.v (Y.move (up0 rfl rfl rfl) rfl rfl) rfl ?_
  refine OpsFrom.v (Y.len ty22 (up0 rfl rfl rfl) rfl rfl rfl rfl) rfl ?_
  refine OpsFrom.v (Y.subI (up0 rfl rfl rfl) rfl rfl rfl (by first | (with_reducible assumption) | omega | (simp only [lens, *]; first | done | omega) | decide | (split <;> simp only [lens, *]) | (with_reducible exact Lt.mono (by assumption) (by decide)) | (simp only [Cs.len]; done) | rfl) (by first | (with_reducible assumption) | omega | (simp only [lens, *]; first | done | omega) | decide | (split <;> simp only [lens, *]) | (with_reducible exact Lt.mono (by assumption) (by decide)) | (simp only [Cs.len]; done) | rfl)) rfl ?_
  refine OpsFrom.v (Y.subI (up0 rfl rfl rfl) rfl rfl rfl (by first | (with_reducible assumption) | omega | (simp only [lens, *]; first | done | omega) | decide | (split <;> simp only [lens, *]) | (with_reducible exact Lt.mono (by assumption) (by decide)) | (simp only [Cs.len]; done) | rfl) (by first | (with_reducible assumption) | omega | (simp only [lens, *]; first | done | omega) | decide | (split <;> simp only [lens, *]) | (with_reducible exact Lt.mono (by assumption) (by decide)) | (simp only [Cs.len]; done) | rfl)) rfl ?_
  refine OpsFrom.v (Y.assign (up0 rfl rfl rfl) rfl rfl) rfl ?_
  refine OpsFrom.nil ?_
  refine Holds.seq ?_
  refine Holds.reg ?_
  refine OpsFrom.v (Y.move (up0 rfl rfl rfl) rfl rfl) rfl ?_
  refine OpsFrom.v (Y.gtr (b := 0) (up0 rfl rfl rfl) rfl rfl rfl) rfl ?_
  refine OpsFrom.nil ?_
  refine Holds.condD rfl (fun h16 => ?_) (fun h16 => ?_)
  · refine Holds.reg ?_
    refine OpsFrom.v (Y.move (up0 rfl rfl rfl) rfl rfl) rfl ?_
    refine OpsFrom.v (Y.move (up0 rfl rfl rfl) rfl rfl) rfl ?_
    refine OpsFrom.v (Y.capNil ty22 (up0 rfl rfl rfl) rfl rfl rfl) rfl ?_
    refine OpsFrom.v (Y.slNil ty22 ty5 (up0 rfl rfl rfl) rfl rfl (bnd1 rfl)) rfl ?_
    refine OpsFrom.v (Y.move (up0 rfl rfl rfl) rfl rfl) rfl ?_
    refine OpsFrom.u (Y.appZ (d := 22) (k := .u8) ty22 ty5 rfl ty3 (by decide) (up0 rfl rfl rfl) rfl rfl rfl rfl (by first | (with_reducible assumption) | omega | (simp only [lens, *]; first | done | omega) | decide | (split <;> simp only [lens, *]) | (with_reducible exact Lt.mono (by assumption) (by decide)) | (simp only [Cs.len]; done) | rfl) (by first | (with_reducible assumption) | omega | (simp only [lens, *]; first | done | omega) | decide | (split <;> simp only [lens, *]) | (with_reducible exact Lt.mono (by assumption) (by decide)) | (simp only [Cs.len]; done) | rfl)) rfl rfl rfl ?_
    refine OpsFrom.v (Y.move (up0 rfl rfl rfl) rfl rfl) rfl ?_
    refine OpsFrom.v (Y.len ty22 (up0 rfl rfl rfl) rfl rfl rfl rfl) rfl ?_
    refine OpsFrom.v (Y.slSg0 ty22 ty5 (up0 rfl rfl rfl) rfl rfl bnd0 (bnd1 rfl) (by first | (with_reducible assumption) | omega | (simp only [lens, *]; first | done | omega) | decide | (split <;> simp only [lens, *]) | (with_reducible exact Lt.mono (by assumption) (by decide)) | (simp only [Cs.len]; done) | rfl) (by first | (with_reducible assumption) | omega | (simp only [lens, *]; first | done | omega) | decide | (split <;> simp only [lens, *]) | (with_reducible exact Lt.mono (by assumption) (by decide)) | (simp only [Cs.len]; done) | rfl)) rfl ?_
    refine OpsFrom.v (Y.assign (up0 rfl rfl rfl) rfl rfl) rfl ?_
    refine OpsFrom.nil ?_
    refine Holds.seq ?_
    refine Holds.reg ?_
    refine OpsFrom.v (Y.move (up0 rfl rfl rfl) rfl rfl) rfl ?_
    refine OpsFrom.v (Y.assign (up0 rfl rfl rfl) rfl rfl) rfl ?_
    refine OpsFrom.nil ?_
    refine Holds.ret ?_
    exact Holds.retF (id := 22) (.inl rfl) rfl (.one _ _ (.tmp _ _ rfl)) (by first | rfl | (unfold sgrow; rfl)) rfl (by first | rfl | (unfold sgrow; rfl))
  · refine Holds.skip ?_
    refine Holds.seq ?_
    refine Holds.grow 0 99 (.ints .u8 []) rfl rfl rfl ?_
    refine Holds.reg ?_
    refine OpsFrom.v (Y.move (up0 rfl rfl rfl) rfl rfl) rfl ?_
    refine OpsFrom.v (Y.assign (up0 rfl rfl rfl) rfl rfl) rfl ?_
    refine OpsFrom.nil ?_
    refine Holds.ret ?_
    exact Holds.retF (id := 99) (.inl rfl) rfl (.one _ _ (.tmp _ _ rfl)) (by first | rfl | (unfold sgrow; rfl)) rfl (by first | rfl | (unfold sgrow; rfl))

def sconc_s1 (ts : List (List Nat)) (i1_ : Nat) (m1_ : Nat) : Nat :=
  m1_ + ((ts.getD i1_ []).length)
def sconc_it1 (ts : List (List Nat)) (i1_ : Nat) : Nat := iter (sconc_s1 ts) i1_ 0
theorem sconc_it1_z (ts : List (List Nat)) : sconc_it1 ts 0 = 0 := rfl
theorem sconc_it1_s (ts : List (List Nat)) (i1_ : Nat) : sconc_it1 ts (i1_ + 1) = sconc_s1 ts i1_ (sconc_it1 ts i1_) := by unfold sconc_it1; exact iterS _ _ _
theorem sconc_n (ts : List (List Nat)) : ∀ i, i ≤ ts.length → sconc_it1 ts i = (ts.take i).flatten.length
  | 0, _ => rfl
  | i + 1, h => by
    rw [sconc_it1_s]
    unfold sconc_s1
    rw [sconc_n ts i (by omega), List.take_add_one, List.flatten_append, List.length_append, List.getD_eq_getElem?_getD]
    have hi : i < ts.length := by omega
    simp [hi]
theorem sconc_le (ts : List (List Nat)) {i : Nat} (h : i < ts.length) : (ts.take i).flatten.length + (ts.getD i []).length ≤ ts.flatten.length := by
  have e : ts = ts.take i ++ (ts.getD i [] :: ts.drop (i + 1)) := by
    rw [List.getD_eq_getElem?_getD, List.getElem?_eq_getElem h]
    simp
  have := congrArg (fun l => l.flatten.length) e
  simp only [List.flatten_append, List.flatten_cons, List.length_append] at this
  omega
theorem sconc_end (ts : List (List Nat)) : sconc_it1 ts ts.length = ts.flatten.length := by rw [sconc_n ts _ (Nat.le_refl _), List.take_of_length_le (Nat.le_refl _)]
def sconc_s2 (ts : List (List Nat)) (i2_ : Nat) (m2_ : List Nat) : List Nat :=
  m2_ ++ (ts.getD i2_ [])
def sconc_it2 (ts : List (List Nat)) (i2_ : Nat) : List Nat := iter (sconc_s2 ts) i2_ (sgrow (sconc_it1 ts ts.length))
theorem sconc_it2_z (ts : List (List Nat)) : sconc_it2 ts 0 = (sgrow (sconc_it1 ts ts.length)) := rfl
theorem sconc_it2_s (ts : List (List Nat)) (i2_ : Nat) : sconc_it2 ts (i2_ + 1) = sconc_s2 ts i2_ (sconc_it2 ts i2_) := by unfold sconc_it2; exact iterS _ _ _
theorem sconc_n2 (ts : List (List Nat)) : ∀ i, i ≤ ts.length → sconc_it2 ts i = (ts.take i).flatten
  | 0, _ => rfl
  | i + 1, h => by
    rw [sconc_it2_s]
    unfold sconc_s2
    rw [sconc_n2 ts i (by omega), List.take_add_one, List.flatten_append, List.getD_eq_getElem?_getD]
    have hi : i < ts.length := by omega
    simp [hi]
def sconc (ts : List (List Nat)) : List Nat :=
  (sconc_it2 ts ts.length)
theorem w_sconc (ts : List (List Nat)) (h_ts : ts.flatten.length ≤ 4194304) (h_tl : ts.length ≤ 4194304) : VF Try.prog 40 [.one (.bss false ts)] (.one (.sg 0 0 ((sconc ts)).length)) .u8 ((sconc ts)) := by
  refine VF.go Try.func40 rfl Try.ntmps40 rfl rfl fun O w => ?_
  refine Holds.seq ?_
  refine Holds.reg ?_
  refine OpsFrom.v (Y.assign (up0 rfl rfl rfl) rfl rfl) rfl ?_
  refine OpsFrom.nil ?_
  refine Holds.seq ?_
  refine Holds.reg ?_
  refine OpsFrom.v (Y.assign (v := (.one (.n .i64 0))) (up0 rfl rfl rfl) rfl rfl) rfl ?_
  refine OpsFrom.nil ?_
  refine Holds.seq ?_
  refine Holds.seq ?_
  refine Holds.reg ?_
  refine OpsFrom.v (Y.move (up0 rfl rfl rfl) rfl rfl) rfl ?_
  refine OpsFrom.v (Y.len ty43 (up0 rfl rfl rfl) rfl rfl rfl rfl) rfl ?_
  refine OpsFrom.v (Y.move (v := (.one (.n .i64 0))) (up0 rfl rfl rfl) rfl rfl) rfl ?_
  refine OpsFrom.nil ?_
  refine Holds.block ?_
  refine Holds.loop (fun (i1_ : Nat) => ⟨[(0, .one (.bss false ts)), (2, .one (.nil)), (3, .one (.n .i64 (sconc_it1 ts i1_))), (9, .one (.bss false ts)), (10, .one (.n .i64 ts.length)), (11, .one (.n .i64 i1_))], []⟩) (fun (i1_ : Nat) => i1_ ≤ ts.length) (fun (i1_ : Nat) => ts.length - i1_) 0 (by first | (with_reducible assumption) | omega | (simp only [lens, *]; first | done | omega) | decide | (split <;> simp only [lens, *]) | (with_reducible exact Lt.mono (by assumption) (by decide)) | (simp only [Cs.len]; done) | rfl) [] ⟨⟨rfl, rfl, (nEq (congrArg (fun (s : Nat) => s) (sconc_it1_z ts)).symm), rfl, rfl, rfl, trivial⟩, trivial, rfl, rfl⟩ ?_
  intro i1_ k1_
  have hn := sconc_n ts i1_ (by omega)
  have hl := fun h => sconc_le ts (i := i1_) h
  refine Holds.seq ?_
  refine Holds.reg ?_
  refine OpsFrom.v (Y.lss (up0 rfl rfl rfl) rfl rfl rfl) rfl ?_
  refine OpsFrom.nil ?_
  refine Holds.seq ?_
  refine Holds.condD rfl (fun h12 => ?_) (fun h12 => ?_)
  · refine Holds.skip ?_
    refine Holds.seq ?_
    refine Holds.block ?_
    refine Holds.seq ?_
    refine Holds.reg ?_
    refine OpsFrom.v (Y.iaBss ty43 ty22 (up0 rfl rfl rfl) rfl rfl rfl (by first | (with_reducible assumption) | omega | (simp only [lens, *]; first | done | omega) | decide | (split <;> simp only [lens, *]) | (with_reducible exact Lt.mono (by assumption) (by decide)) | (simp only [Cs.len]; done) | rfl)) rfl ?_
    refine OpsFrom.v (Y.ldPcb ty22 rfl (up0 rfl rfl rfl) rfl rfl) rfl ?_
    refine OpsFrom.v (Y.assign (up0 rfl rfl rfl) rfl rfl) rfl ?_
    refine OpsFrom.nil ?_
    refine Holds.seq ?_
    refine Holds.reg ?_
    refine OpsFrom.v (Y.move (up0 rfl rfl rfl) rfl rfl) rfl ?_
    refine OpsFrom.v (Y.move (up0 rfl rfl rfl) rfl rfl) rfl ?_
    refine OpsFrom.v (Y.len ty22 (up0 rfl rfl rfl) rfl rfl rfl rfl) rfl ?_
    refine OpsFrom.v (Y.addI (up0 rfl rfl rfl) rfl rfl rfl (by first | (with_reducible assumption) | omega | (simp only [lens, *]; first | done | omega) | decide | (split <;> simp only [lens, *]) | (with_reducible exact Lt.mono (by assumption) (by decide)) | (simp only [Cs.len]; done) | rfl)) rfl ?_
    refine OpsFrom.v (Y.assign (up0 rfl rfl rfl) rfl rfl) rfl ?_
    refine OpsFrom.nil ?_
    refine Holds.seq ?_
    refine Holds.reg ?_
    refine OpsFrom.v (Y.move (up0 rfl rfl rfl) rfl rfl) rfl ?_
    refine OpsFrom.v (Doing.isB (c := false) (decide_eq_false (Nat.not_lt_zero _)) (Y.lss (b := 0) (up0 rfl rfl rfl) rfl rfl rfl)) rfl ?_
    refine OpsFrom.nil ?_
    refine Holds.condF rfl ?_
    refine Holds.skip ?_
    refine Holds.reg ?_
    refine OpsFrom.v (Y.addI (b := 1) (up0 rfl rfl rfl) rfl rfl rfl (by first | (with_reducible assumption) | omega | (simp only [lens, *]; first | done | omega) | decide | (split <;> simp only [lens, *]) | (with_reducible exact Lt.mono (by assumption) (by decide)) | (simp only [Cs.len]; done) | rfl)) rfl ?_
    refine OpsFrom.v (Y.move (up0 rfl rfl rfl) rfl rfl) rfl ?_
    refine OpsFrom.nil ?_
    exact Holds.again (i1_ + 1) (by omega) (by omega) [] ⟨⟨rfl, rfl, (nEq (by rw [sconc_it1_s]; unfold sconc_s1; first | (dsimp only; done) | rfl)), rfl, rfl, (nEq (by omega)), trivial⟩, trivial, rfl, rfl⟩
  · obtain rfl : i1_ = ts.length := by omega
    have hn := sconc_end ts
    refine Holds.exit ?_
    refine Holds.seq ?_
    refine Holds.reg ?_
    refine OpsFrom.v (Y.move (up0 rfl rfl rfl) rfl rfl) rfl ?_
    refine OpsFrom.u (Y.callF (d := 24) (w_sgrow _ (by first | (with_reducible assumption) | omega | (simp only [lens, *]; first | done | omega) | decide | (split <;> simp only [lens, *]) | (with_reducible exact Lt.mono (by assumption) (by decide)) | (simp only [Cs.len]; done) | rfl)) fnok48 (up0 rfl rfl rfl) rfl rfl (.cons _ _ _ _ rfl (.cons _ _ _ _ rfl .nil)) (.cons _ _ _ _ (.same _) (.cons _ _ _ _ (.same _) .nil)) rfl rfl rfl) rfl rfl rfl ?_
    refine OpsFrom.v (Y.assign (up0 rfl rfl rfl) rfl rfl) rfl ?_
    refine OpsFrom.nil ?_
    refine Holds.seq ?_
    refine Holds.seq ?_
    refine Holds.reg ?_
    refine OpsFrom.v (Y.move (up0 rfl rfl rfl) rfl rfl) rfl ?_
    refine OpsFrom.v (Y.len ty43 (up0 rfl rfl rfl) rfl rfl rfl rfl) rfl ?_
    refine OpsFrom.v (Y.move (v := (.one (.n .i64 0))) (up0 rfl rfl rfl) rfl rfl) rfl ?_
    refine OpsFrom.nil ?_
    refine Holds.block ?_
    refine Holds.loop (fun (i2_ : Nat) => ⟨[(2, .one (.nil)), (6, .one (.sg 24 0 ((sconc_it2 ts i2_).length))), (25, .one (.bss false ts)), (26, .one (.n .i64 ts.length)), (27, .one (.n .i64 i2_))], [(24, .own (.ints .u8 (sconc_it2 ts i2_)))]⟩) (fun (i2_ : Nat) => i2_ ≤ ts.length) (fun (i2_ : Nat) => ts.length - i2_) 0 (by first | (with_reducible assumption) | omega | (simp only [lens, *]; first | done | omega) | decide | (split <;> simp only [lens, *]) | (with_reducible exact Lt.mono (by assumption) (by decide)) | (simp only [Cs.len]; done) | rfl) [] ⟨⟨rfl, rfl, rfl, rfl, rfl, trivial⟩, ⟨(hEq (congrArg (fun (s : List Nat) => s) (sconc_it2_z ts)).symm), trivial⟩, rfl, rfl⟩ ?_
    intro i2_ k2_
    have hn2 := congrArg List.length (sconc_n2 ts i2_ (by omega))
    have hl := fun h => sconc_le ts (i := i2_) h
    refine Holds.seq ?_
    refine Holds.reg ?_
    refine OpsFrom.v (Y.lss (up0 rfl rfl rfl) rfl rfl rfl) rfl ?_
    refine OpsFrom.nil ?_
    refine Holds.seq ?_
    refine Holds.condD rfl (fun h28 => ?_) (fun h28 => ?_)
    · refine Holds.skip ?_
      refine Holds.seq ?_
      refine Holds.block ?_
      refine Holds.seq ?_
      refine Holds.reg ?_
      refine OpsFrom.v (Y.iaBss ty43 ty22 (up0 rfl rfl rfl) rfl rfl rfl (by first | (with_reducible assumption) | omega | (simp only [lens, *]; first | done | omega) | decide | (split <;> simp only [lens, *]) | (with_reducible exact Lt.mono (by assumption) (by decide)) | (simp only [Cs.len]; done) | rfl)) rfl ?_
      refine OpsFrom.v (Y.ldPcb ty22 rfl (up0 rfl rfl rfl) rfl rfl) rfl ?_
      refine OpsFrom.v (Y.assign (up0 rfl rfl rfl) rfl rfl) rfl ?_
      refine OpsFrom.nil ?_
      refine Holds.reg ?_
      refine OpsFrom.v (Y.move (up0 rfl rfl rfl) rfl rfl) rfl ?_
      refine OpsFrom.v (Y.move (up0 rfl rfl rfl) rfl rfl) rfl ?_
      refine OpsFrom.u (Y.app (d := 33) ty22 ty5 rfl ty22 (by decide) (up0 rfl rfl rfl) rfl rfl rfl (.all rfl (by first | (with_reducible assumption) | omega | (simp only [lens, *]; first | done | omega) | decide | (split <;> simp only [lens, *]) | (with_reducible exact Lt.mono (by assumption) (by decide)) | (simp only [Cs.len]; done) | rfl)) rfl (.bs _ _ _) App.i (by first | (with_reducible assumption) | omega | (simp only [lens, *]; first | done | omega) | decide | (split <;> simp only [lens, *]) | (with_reducible exact Lt.mono (by assumption) (by decide)) | (simp only [Cs.len]; done) | rfl) rfl (by first | (simp; done) | (rintro ⟨_, _, _, h⟩; cases h))) rfl rfl rfl ?_
      refine OpsFrom.v (Y.assign (up0 rfl rfl rfl) rfl rfl) rfl ?_
      refine OpsFrom.nil ?_
      refine Holds.reg ?_
      refine OpsFrom.v (Y.addI (b := 1) (up0 rfl rfl rfl) rfl rfl rfl (by first | (with_reducible assumption) | omega | (simp only [lens, *]; first | done | omega) | decide | (split <;> simp only [lens, *]) | (with_reducible exact Lt.mono (by assumption) (by decide)) | (simp only [Cs.len]; done) | rfl)) rfl ?_
      refine OpsFrom.v (Y.move (up0 rfl rfl rfl) rfl rfl) rfl ?_
      refine OpsFrom.nil ?_
      exact Holds.again (i2_ + 1) (by omega) (by omega) [(24, 33)] ⟨⟨rfl, (sgEq (congrArg List.length (by rw [sconc_it2_s]; unfold sconc_s2; first | (dsimp only; done) | rfl)) rfl), rfl, rfl, (nEq (by omega)), trivial⟩, ⟨(hEq (by rw [sconc_it2_s]; unfold sconc_s2; first | (dsimp only; done) | rfl)), trivial⟩, rfl, rfl⟩
    · obtain rfl : i2_ = ts.length := by omega
      refine Holds.exit ?_
      refine Holds.seq ?_
      refine Holds.reg ?_
      refine OpsFrom.v (Y.move (up0 rfl rfl rfl) rfl rfl) rfl ?_
      refine OpsFrom.v (Y.assign (up0 rfl rfl rfl) rfl rfl) rfl ?_
      refine OpsFrom.nil ?_
      refine Holds.ret ?_
      exact Holds.retF (id := 24) (.inl rfl) rfl (.one _ _ (.tmp _ _ rfl)) (by first | rfl | (unfold sconc; rfl)) rfl (by first | rfl | (unfold sconc; rfl))

theorem sconc_eq (ts : List (List Nat)) : sconc ts = ts.flatten := by unfold sconc; rw [sconc_n2 ts _ (Nat.le_refl _), List.take_of_length_le (Nat.le_refl _)]

end Go.Proofs.Ytjgcmfedofmkpaa
