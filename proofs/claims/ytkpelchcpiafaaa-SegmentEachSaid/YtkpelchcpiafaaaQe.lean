/-
  Walks: bytes.Join.
-/
import Derived.Test.YtkpelchcpiafaaaQd
import Derived.Test.YtkpelchcpiafaaaFc
namespace Go.Proofs.Ytkpelchcpiafaaa
open Go Go.Fx
set_option linter.unusedVariables false
set_option linter.unusedSimpArgs false
theorem flat_take (xss : List (List Nat)) (i : Nat) : (xss.take (i + 1)).flatten = (xss.take i).flatten ++ xss.getD i [] := by
  by_cases h : i < xss.length
  · rw [List.take_succ_eq_append_getElem h, List.flatten_append]
    simp [List.getD_eq_getElem?_getD, h]
  · rw [List.take_of_length_le (by omega), List.take_of_length_le (by omega)]
    simp [List.getD_eq_getElem?_getD, List.getElem?_eq_none (by omega : xss.length ≤ i)]
theorem flat_le (xss : List (List Nat)) (i : Nat) : (xss.take i).flatten.length ≤ xss.flatten.length := by
  conv => rhs; rw [← List.take_append_drop i xss, List.flatten_append, List.length_append]
  omega
theorem flat_le2 (xss : List (List Nat)) (i : Nat) : (xss.take i).flatten.length + (xss.getD i []).length ≤ xss.flatten.length := by
  have := flat_le xss (i + 1)
  rw [flat_take, List.length_append] at this
  exact this
theorem join_p0 {xss : List (List Nat)} (h : xss.length = 0) : (AV.one (.bs false .u8 xss.flatten)) = .one (.bs false .u8 []) := by
  rw [List.length_eq_zero_iff.1 h]; rfl
theorem join_p1 {xss : List (List Nat)} (h : xss.length = 1) : (AV.one (.bs false .u8 xss.flatten)) = .one (.bs false .u8 ([] ++ xss.getD 0 [])) := by
  match xss, h with
  | [x], _ => simp
def join_s1 (xss : List (List Nat)) (i1_ : Nat) (m1_ : Nat) : Nat :=
  m1_ + ((xss.getD i1_ []).length)
def join_it1 (xss : List (List Nat)) (i1_ : Nat) : Nat := iter (join_s1 xss) i1_ 0
theorem join_it1_z (xss : List (List Nat)) : join_it1 xss 0 = 0 := rfl
theorem join_it1_s (xss : List (List Nat)) (i1_ : Nat) : join_it1 xss (i1_ + 1) = join_s1 xss i1_ (join_it1 xss i1_) := by unfold join_it1; exact iterS _ _ _
theorem join_n1 (xss : List (List Nat)) (i : Nat) : join_it1 xss i = (xss.take i).flatten.length := by
  induction i with
  | zero => rfl
  | succ i ih => rw [join_it1_s, flat_take, List.length_append, ← ih]; rfl
theorem join_n3 (xss : List (List Nat)) : join_it1 xss xss.length = xss.flatten.length := by rw [join_n1, List.take_length]
def join_s2 (xss : List (List Nat)) (ys : List Nat) (i2_ : Nat) (m2_ : Nat × (List Nat)) : Nat × (List Nat) :=
  let v15_ : List Nat := ((xss.drop 1).take (xss.length - 1)).getD i2_ []
  let v16_ : List Nat := m2_.2.take (0 + m2_.1) ++ ([] : List Nat) ++ m2_.2.drop ((0 + m2_.1) + ([] : List Nat).length)
  let v17_ : List Nat := v16_.take (0 + (m2_.1 + (([] : List Nat).length))) ++ v15_ ++ v16_.drop ((0 + (m2_.1 + (([] : List Nat).length))) + v15_.length)
  let v18_ : Nat := (m2_.1 + (([] : List Nat).length)) + v15_.length
  (v18_, v17_)
def join_it2 (xss : List (List Nat)) (ys : List Nat) (i2_ : Nat) : Nat × (List Nat) := iter (join_s2 xss ys) i2_ ((xss.getD 0 []).length, (ys.take 0 ++ (xss.getD 0 []) ++ ys.drop (0 + (xss.getD 0 []).length)))
theorem join_it2_z (xss : List (List Nat)) (ys : List Nat) : join_it2 xss ys 0 = ((xss.getD 0 []).length, (ys.take 0 ++ (xss.getD 0 []) ++ ys.drop (0 + (xss.getD 0 []).length))) := rfl
theorem join_it2_s (xss : List (List Nat)) (ys : List Nat) (i2_ : Nat) : join_it2 xss ys (i2_ + 1) = join_s2 xss ys i2_ (join_it2 xss ys i2_) := by unfold join_it2; exact iterS _ _ _
theorem join_q (xss : List (List Nat)) (ys : List Nat) (hy : ys.length = join_it1 xss xss.length) (i : Nat) : join_it2 xss ys i = ((xss.take (i + 1)).flatten.length, (xss.take (i + 1)).flatten ++ ys.drop (xss.take (i + 1)).flatten.length) := by
  rw [join_n3] at hy
  induction i with
  | zero =>
    rw [join_it2_z, flat_take]
    simp
  | succ i ih =>
    rw [join_it2_s, ih]
    have e : ((xss.drop 1).take (xss.length - 1)).getD i [] = xss.getD (i + 1) [] := by
      rw [List.take_of_length_le (by simp)]
      simp [List.getD_eq_getElem?_getD, Nat.add_comm]
    have h1 := flat_le2 xss (i + 1)
    simp only [join_s2, e, flat_take xss (i + 1), List.length_append, List.length_nil, Nat.add_zero, Nat.zero_add, List.append_nil, List.take_append_drop]
    simp [List.drop_append, List.drop_drop]
theorem join_q1 {xss : List (List Nat)} {ys : List Nat} (hy : ys.length = join_it1 xss xss.length) (i : Nat) : (join_it2 xss ys i).1 = (xss.take (i + 1)).flatten.length := by rw [join_q xss ys hy]
theorem join_q2 {xss : List (List Nat)} {ys : List Nat} (hy : ys.length = join_it1 xss xss.length) (i : Nat) : (join_it2 xss ys i).2.length = xss.flatten.length := by
  rw [join_q xss ys hy]
  have := flat_le xss (i + 1)
  rw [join_n3] at hy
  show ((xss.take (i + 1)).flatten ++ ys.drop (xss.take (i + 1)).flatten.length).length = _
  rw [List.length_append, List.length_drop]; omega
theorem join_e {xss : List (List Nat)} {i : Nat} : ((xss.drop 1).take (xss.length - 1)).getD i [] = xss.getD (i + 1) [] := by
  rw [List.take_of_length_le (by simp)]
  simp [List.getD_eq_getElem?_getD, Nat.add_comm]
theorem join_p2 {xss : List (List Nat)} {ys : List Nat} (h : ¬ xss.length = 0) (hy : ys.length = join_it1 xss xss.length) : (AV.one (.bs false .u8 xss.flatten)) = .one (.bs false .u8 (((join_it2 xss ys ((xss.drop 1).take (xss.length - 1)).length).2.drop (0 + 0)).take (join_it1 xss xss.length - 0))) := by
  rw [join_q xss ys hy, join_n3, show ((xss.drop 1).take (xss.length - 1)).length + 1 = xss.length by simp; omega, List.take_length]
  rw [join_n3] at hy
  simp
theorem w_join (xss : List (List Nat)) (l_x : xss.flatten.length < 4294967296) (l_n : xss.length < 4294967296) : VC Try.prog 54 [.one (.bss false xss), .one (.nil)] (.one (.bs false .u8 xss.flatten)) := by
  refine VC.go Try.func54 rfl Try.ntmps54 rfl rfl fun O w => ?_
  refine Holds.seq ?_
  refine Holds.reg ?_
  refine OpsFrom.v (Y.assign (up0 rfl rfl rfl) rfl rfl) rfl ?_
  refine OpsFrom.nil ?_
  refine Holds.seq ?_
  refine Holds.seq ?_
  refine Holds.reg ?_
  refine OpsFrom.v (Y.move (up0 rfl rfl rfl) rfl rfl) rfl ?_
  refine OpsFrom.v (Y.len ty39 (up0 rfl rfl rfl) rfl rfl rfl rfl) rfl ?_
  refine OpsFrom.v (Y.eql (b := 0) (up0 rfl rfl rfl) rfl rfl rfl) rfl ?_
  refine OpsFrom.nil ?_
  refine Holds.condD rfl (fun h14 => ?_) (fun h14 => ?_)
  · refine Holds.seq ?_
    refine Holds.reg ?_
    refine OpsFrom.v (Y.bldS0 ty26 ty5 (up0 rfl rfl rfl) rfl) rfl ?_
    refine OpsFrom.v (Y.assign (up0 rfl rfl rfl) rfl rfl) rfl ?_
    refine OpsFrom.nil ?_
    refine Holds.ret ?_
    exact Holds.ret1 (.inl rfl) rfl (.tmp _ _ rfl) (View.cg (by first | exact join_p0 h14 | exact join_p1 h18 | exact join_p2 h14 hys) (.nilB _ _)) rfl
  · refine Holds.skip ?_
    refine Holds.seq ?_
    refine Holds.seq ?_
    refine Holds.reg ?_
    refine OpsFrom.v (Y.move (up0 rfl rfl rfl) rfl rfl) rfl ?_
    refine OpsFrom.v (Y.len ty39 (up0 rfl rfl rfl) rfl rfl rfl rfl) rfl ?_
    refine OpsFrom.v (Y.eql (b := 1) (up0 rfl rfl rfl) rfl rfl rfl) rfl ?_
    refine OpsFrom.nil ?_
    refine Holds.condD rfl (fun h18 => ?_) (fun h18 => ?_)
    · have hs4 := flat_le2 xss 0
      refine Holds.seq ?_
      refine Holds.reg ?_
      refine OpsFrom.v (Y.move (up0 rfl rfl rfl) rfl rfl) rfl ?_
      refine OpsFrom.v (Y.iaBss (i := 0) ty39 ty26 (up0 rfl rfl rfl) rfl rfl rfl (by first | (with_reducible assumption) | omega | (simp only [lens, *]; first | done | omega) | decide | (split <;> simp only [lens, *]) | (with_reducible exact Lt.mono (by assumption) (by decide)))) rfl ?_
      refine OpsFrom.v (Y.ldPcb ty26 rfl (up0 rfl rfl rfl) rfl rfl) rfl ?_
      refine OpsFrom.u (Y.app (d := 22) ty26 ty5 rfl ty26 (by decide) (up0 rfl rfl rfl) rfl rfl rfl (.nilI _) rfl (.bs _ _ _) App.i (by first | (with_reducible assumption) | omega | (simp only [lens, *]; first | done | omega) | decide | (split <;> simp only [lens, *]) | (with_reducible exact Lt.mono (by assumption) (by decide))) rfl (by simp)) rfl rfl rfl ?_
      refine OpsFrom.v (Y.assign (up0 rfl rfl rfl) rfl rfl) rfl ?_
      refine OpsFrom.nil ?_
      refine Holds.ret ?_
      exact Holds.ret1 (.inl rfl) rfl (.tmp _ _ rfl) (View.cg (by first | exact join_p0 h14 | exact join_p1 h18 | exact join_p2 h14 hys) (.all rfl (by first | (with_reducible assumption) | omega | (simp only [lens, *]; first | done | omega) | decide | (split <;> simp only [lens, *]) | (with_reducible exact Lt.mono (by assumption) (by decide))))) rfl
    · refine Holds.skip ?_
      refine Holds.seq ?_
      refine Holds.reg ?_
      refine OpsFrom.v (Y.assign (v := (.one (.n .i64 0))) (up0 rfl rfl rfl) rfl rfl) rfl ?_
      refine OpsFrom.nil ?_
      refine Holds.seq ?_
      refine Holds.seq ?_
      refine Holds.reg ?_
      refine OpsFrom.v (Y.move (up0 rfl rfl rfl) rfl rfl) rfl ?_
      refine OpsFrom.v (Y.len ty26 (up0 rfl rfl rfl) rfl rfl rfl rfl) rfl ?_
      refine OpsFrom.v (Y.gtr (b := 0) (up0 rfl rfl rfl) rfl rfl rfl) rfl ?_
      refine OpsFrom.nil ?_
      refine Holds.condDF rfl rfl ?_
      refine Holds.skip ?_
      refine Holds.seq ?_
      refine Holds.seq ?_
      refine Holds.reg ?_
      refine OpsFrom.v (Y.move (up0 rfl rfl rfl) rfl rfl) rfl ?_
      refine OpsFrom.v (Y.len ty39 (up0 rfl rfl rfl) rfl rfl rfl rfl) rfl ?_
      refine OpsFrom.v (Y.move (v := (.one (.n .i64 0))) (up0 rfl rfl rfl) rfl rfl) rfl ?_
      refine OpsFrom.nil ?_
      refine Holds.block ?_
      refine Holds.loop (fun (i1_ : Nat) => ⟨[(0, .one (.bss false xss)), (1, .one (.nil)), (4, .one (.nil)), (5, .one (.n .i64 (join_it1 xss i1_))), (42, .one (.bss false xss)), (43, .one (.n .i64 xss.length)), (44, .one (.n .i64 i1_))], []⟩) (fun (i1_ : Nat) => i1_ ≤ xss.length) (fun (i1_ : Nat) => xss.length - i1_) 0 (by first | (with_reducible assumption) | omega | (simp only [lens, *]; first | done | omega) | decide | (split <;> simp only [lens, *]) | (with_reducible exact Lt.mono (by assumption) (by decide))) [] ⟨⟨rfl, rfl, rfl, (nEq (congrArg (fun (s : Nat) => s) (join_it1_z xss)).symm), rfl, rfl, rfl, trivial⟩, trivial, rfl, rfl⟩ ?_
      intro i1_ k1_
      have hs1 := join_n1 xss i1_
      have hs2 := flat_le2 xss i1_
      refine Holds.seq ?_
      refine Holds.reg ?_
      refine OpsFrom.v (Y.lss (up0 rfl rfl rfl) rfl rfl rfl) rfl ?_
      refine OpsFrom.nil ?_
      refine Holds.seq ?_
      refine Holds.condD rfl (fun h45 => ?_) (fun h45 => ?_)
      · refine Holds.skip ?_
        refine Holds.seq ?_
        refine Holds.block ?_
        refine Holds.seq ?_
        refine Holds.reg ?_
        refine OpsFrom.v (Y.iaBss ty39 ty26 (up0 rfl rfl rfl) rfl rfl rfl (by first | (with_reducible assumption) | omega | (simp only [lens, *]; first | done | omega) | decide | (split <;> simp only [lens, *]) | (with_reducible exact Lt.mono (by assumption) (by decide)))) rfl ?_
        refine OpsFrom.v (Y.ldPcb ty26 rfl (up0 rfl rfl rfl) rfl rfl) rfl ?_
        refine OpsFrom.v (Y.assign (up0 rfl rfl rfl) rfl rfl) rfl ?_
        refine OpsFrom.nil ?_
        refine Holds.seq ?_
        refine Holds.seq ?_
        refine Holds.reg ?_
        refine OpsFrom.v (Y.move (up0 rfl rfl rfl) rfl rfl) rfl ?_
        refine OpsFrom.v (Y.len ty26 (up0 rfl rfl rfl) rfl rfl rfl rfl) rfl ?_
        refine OpsFrom.v (Y.move (up0 rfl rfl rfl) rfl rfl) rfl ?_
        refine OpsFrom.v (Y.subI (a := 9223372036854775807) (up0 rfl rfl rfl) rfl rfl rfl (by first | (with_reducible assumption) | omega | (simp only [lens, *]; first | done | omega) | decide | (split <;> simp only [lens, *]) | (with_reducible exact Lt.mono (by assumption) (by decide))) (by first | (with_reducible assumption) | omega | (simp only [lens, *]; first | done | omega) | decide | (split <;> simp only [lens, *]) | (with_reducible exact Lt.mono (by assumption) (by decide)))) rfl ?_
        refine OpsFrom.v (Y.gtr (up0 rfl rfl rfl) rfl rfl rfl) rfl ?_
        refine OpsFrom.nil ?_
        refine Holds.condDF rfl (decide_eq_false (by first | (with_reducible assumption) | omega | (simp only [lens, *]; first | done | omega) | decide | (split <;> simp only [lens, *]) | (with_reducible exact Lt.mono (by assumption) (by decide)))) ?_
        refine Holds.skip ?_
        refine Holds.reg ?_
        refine OpsFrom.v (Y.move (up0 rfl rfl rfl) rfl rfl) rfl ?_
        refine OpsFrom.v (Y.move (up0 rfl rfl rfl) rfl rfl) rfl ?_
        refine OpsFrom.v (Y.len ty26 (up0 rfl rfl rfl) rfl rfl rfl rfl) rfl ?_
        refine OpsFrom.v (Y.addI (up0 rfl rfl rfl) rfl rfl rfl (by first | (with_reducible assumption) | omega | (simp only [lens, *]; first | done | omega) | decide | (split <;> simp only [lens, *]) | (with_reducible exact Lt.mono (by assumption) (by decide)))) rfl ?_
        refine OpsFrom.v (Y.assign (up0 rfl rfl rfl) rfl rfl) rfl ?_
        refine OpsFrom.nil ?_
        refine Holds.reg ?_
        refine OpsFrom.v (Y.addI (b := 1) (up0 rfl rfl rfl) rfl rfl rfl (by first | (with_reducible assumption) | omega | (simp only [lens, *]; first | done | omega) | decide | (split <;> simp only [lens, *]) | (with_reducible exact Lt.mono (by assumption) (by decide)))) rfl ?_
        refine OpsFrom.v (Y.move (up0 rfl rfl rfl) rfl rfl) rfl ?_
        refine OpsFrom.nil ?_
        exact Holds.again (i1_ + 1) (by omega) (by omega) [] ⟨⟨rfl, rfl, rfl, (nEq (by rw [join_it1_s]; unfold join_s1; first | (dsimp only; done) | rfl)), rfl, rfl, (nEq (by omega)), trivial⟩, trivial, rfl, rfl⟩
      · obtain rfl : i1_ = xss.length := by omega
        have hs3 := join_n3 xss
        have hs4 := flat_le2 xss 0
        have hs5 : ((xss.drop 1).take (xss.length - 1)).length = xss.length - 1 := by simp
        refine Holds.exit ?_
        refine Holds.seq ?_
        refine Holds.reg ?_
        refine OpsFrom.v (Y.move (up0 rfl rfl rfl) rfl rfl) rfl ?_
        refine OpsFrom.mnz ext65 ty26.u (up0 rfl rfl rfl) rfl rfl rfl (by first | (with_reducible assumption) | omega | (simp only [lens, *]; first | done | omega) | decide | (split <;> simp only [lens, *]) | (with_reducible exact Lt.mono (by assumption) (by decide))) rfl rfl (fun ys hys => ?_)
        refine OpsFrom.v (Y.move (up0 rfl rfl rfl) rfl rfl) rfl ?_
        refine OpsFrom.v (Y.move (up0 rfl rfl rfl) rfl rfl) rfl ?_
        refine OpsFrom.v (Y.slSg3 ty26 ty5 (up0 rfl rfl rfl) rfl rfl bnd0 rfl rfl (by first | (with_reducible assumption) | omega | (simp only [lens, *]; first | done | omega) | decide | (split <;> simp only [lens, *]) | (with_reducible exact Lt.mono (by assumption) (by decide))) (by first | (with_reducible assumption) | omega | (simp only [lens, *]; first | done | omega) | decide | (split <;> simp only [lens, *]) | (with_reducible exact Lt.mono (by assumption) (by decide)))) rfl ?_
        refine OpsFrom.v (Y.assign (up0 rfl rfl rfl) rfl rfl) rfl ?_
        refine OpsFrom.nil ?_
        refine Holds.seq ?_
        refine Holds.reg ?_
        refine OpsFrom.v (Y.move (up0 rfl rfl rfl) rfl rfl) rfl ?_
        refine OpsFrom.v (Y.move (up0 rfl rfl rfl) rfl rfl) rfl ?_
        refine OpsFrom.v (Y.iaBss (i := 0) ty39 ty26 (up0 rfl rfl rfl) rfl rfl rfl (by first | (with_reducible assumption) | omega | (simp only [lens, *]; first | done | omega) | decide | (split <;> simp only [lens, *]) | (with_reducible exact Lt.mono (by assumption) (by decide)))) rfl ?_
        refine OpsFrom.v (Y.ldPcb ty26 rfl (up0 rfl rfl rfl) rfl rfl) rfl ?_
        refine OpsFrom.u (Y.cpy ty26 ty5 (up0 rfl rfl rfl) rfl rfl rfl rfl (by first | (with_reducible assumption) | omega | (simp only [lens, *]; first | done | omega) | decide | (split <;> simp only [lens, *]) | (with_reducible exact Lt.mono (by assumption) (by decide))) rfl (.bs _ _ _) (by first | (with_reducible assumption) | omega | (simp only [lens, *]; first | done | omega) | decide | (split <;> simp only [lens, *]) | (with_reducible exact Lt.mono (by assumption) (by decide))) (Spl.r (by first | (with_reducible assumption) | omega | (simp only [lens, *]; first | done | omega) | decide | (split <;> simp only [lens, *]) | (with_reducible exact Lt.mono (by assumption) (by decide)))) rfl) rfl rfl rfl ?_
        refine OpsFrom.v (Y.assign (up0 rfl rfl rfl) rfl rfl) rfl ?_
        refine OpsFrom.nil ?_
        refine Holds.seq ?_
        refine Holds.seq ?_
        refine Holds.reg ?_
        refine OpsFrom.v (Y.move (up0 rfl rfl rfl) rfl rfl) rfl ?_
        refine OpsFrom.v (Y.slBss ty39 ty26 (up0 rfl rfl rfl) rfl rfl (bnd1 (v := 1) rfl) bnd0 (by first | (with_reducible assumption) | omega | (simp only [lens, *]; first | done | omega) | decide | (split <;> simp only [lens, *]) | (with_reducible exact Lt.mono (by assumption) (by decide))) (by first | (with_reducible assumption) | omega | (simp only [lens, *]; first | done | omega) | decide | (split <;> simp only [lens, *]) | (with_reducible exact Lt.mono (by assumption) (by decide)))) rfl ?_
        refine OpsFrom.v (Y.len ty39 (up0 rfl rfl rfl) rfl rfl rfl rfl) rfl ?_
        refine OpsFrom.v (Y.move (v := (.one (.n .i64 0))) (up0 rfl rfl rfl) rfl rfl) rfl ?_
        refine OpsFrom.nil ?_
        refine Holds.block ?_
        refine Holds.loop (fun (i2_ : Nat) => ⟨[(1, .one (.nil)), (4, .one (.nil)), (8, .one (.sg 60 0 ((join_it1 xss xss.length) - 0))), (9, .one (.n .i64 ((join_it2 xss ys i2_).1))), (70, .one (.bss false ((xss.drop 1).take (xss.length - 1)))), (71, .one (.n .i64 (((xss.drop 1).take (xss.length - 1)).length))), (72, .one (.n .i64 i2_))], [(60, .own (.ints .u8 ((join_it2 xss ys i2_).2)))]⟩) (fun (i2_ : Nat) => i2_ ≤ (((xss.drop 1).take (xss.length - 1)).length)) (fun (i2_ : Nat) => (((xss.drop 1).take (xss.length - 1)).length) - i2_) 0 (by first | (with_reducible assumption) | omega | (simp only [lens, *]; first | done | omega) | decide | (split <;> simp only [lens, *]) | (with_reducible exact Lt.mono (by assumption) (by decide))) [] ⟨⟨rfl, rfl, rfl, (nEq (congrArg (fun (s : Nat × (List Nat)) => s.1) (join_it2_z xss ys)).symm), rfl, rfl, rfl, trivial⟩, ⟨(hEq (congrArg (fun (s : Nat × (List Nat)) => s.2) (join_it2_z xss ys)).symm), trivial⟩, rfl, rfl⟩ ?_
        intro i2_ k2_
        have hq1 := join_q1 hys i2_
        have hq2 := join_q2 hys i2_
        have hq3 := flat_le2 xss (i2_ + 1)
        have hq4 := @join_e xss i2_
        have hq5 := flat_le xss (i2_ + 1)
        refine Holds.seq ?_
        refine Holds.reg ?_
        refine OpsFrom.v (Y.lss (up0 rfl rfl rfl) rfl rfl rfl) rfl ?_
        refine OpsFrom.nil ?_
        refine Holds.seq ?_
        refine Holds.condD rfl (fun h73 => ?_) (fun h73 => ?_)
        · refine Holds.skip ?_
          refine Holds.seq ?_
          refine Holds.block ?_
          refine Holds.seq ?_
          refine Holds.reg ?_
          refine OpsFrom.v (Y.iaBss ty39 ty26 (up0 rfl rfl rfl) rfl rfl rfl (by first | (with_reducible assumption) | omega | (simp only [lens, *]; first | done | omega) | decide | (split <;> simp only [lens, *]) | (with_reducible exact Lt.mono (by assumption) (by decide)))) rfl ?_
          refine OpsFrom.v (Y.ldPcb ty26 rfl (up0 rfl rfl rfl) rfl rfl) rfl ?_
          refine OpsFrom.v (Y.assign (up0 rfl rfl rfl) rfl rfl) rfl ?_
          refine OpsFrom.nil ?_
          refine Holds.seq ?_
          refine Holds.reg ?_
          refine OpsFrom.v (Y.move (up0 rfl rfl rfl) rfl rfl) rfl ?_
          refine OpsFrom.v (Y.move (up0 rfl rfl rfl) rfl rfl) rfl ?_
          refine OpsFrom.v (Y.move (up0 rfl rfl rfl) rfl rfl) rfl ?_
          refine OpsFrom.v (Y.slSg ty26 ty5 (up0 rfl rfl rfl) rfl rfl (bnd1 rfl) bnd0 (by first | (with_reducible assumption) | omega | (simp only [lens, *]; first | done | omega) | decide | (split <;> simp only [lens, *]) | (with_reducible exact Lt.mono (by assumption) (by decide))) (by first | (with_reducible assumption) | omega | (simp only [lens, *]; first | done | omega) | decide | (split <;> simp only [lens, *]) | (with_reducible exact Lt.mono (by assumption) (by decide)))) rfl ?_
          refine OpsFrom.v (Y.move (up0 rfl rfl rfl) rfl rfl) rfl ?_
          refine OpsFrom.u (Y.cpy ty26 ty5 (up0 rfl rfl rfl) rfl rfl rfl rfl (by first | (with_reducible assumption) | omega | (simp only [lens, *]; first | done | omega) | decide | (split <;> simp only [lens, *]) | (with_reducible exact Lt.mono (by assumption) (by decide))) rfl (.nilI _) (by first | (with_reducible assumption) | omega | (simp only [lens, *]; first | done | omega) | decide | (split <;> simp only [lens, *]) | (with_reducible exact Lt.mono (by assumption) (by decide))) (Spl.r (by first | (with_reducible assumption) | omega | (simp only [lens, *]; first | done | omega) | decide | (split <;> simp only [lens, *]) | (with_reducible exact Lt.mono (by assumption) (by decide)))) rfl) rfl rfl rfl ?_
          refine OpsFrom.v (Y.addI (up0 rfl rfl rfl) rfl rfl rfl (by first | (with_reducible assumption) | omega | (simp only [lens, *]; first | done | omega) | decide | (split <;> simp only [lens, *]) | (with_reducible exact Lt.mono (by assumption) (by decide)))) rfl ?_
          refine OpsFrom.v (Y.assign (up0 rfl rfl rfl) rfl rfl) rfl ?_
          refine OpsFrom.nil ?_
          refine Holds.reg ?_
          refine OpsFrom.v (Y.move (up0 rfl rfl rfl) rfl rfl) rfl ?_
          refine OpsFrom.v (Y.move (up0 rfl rfl rfl) rfl rfl) rfl ?_
          refine OpsFrom.v (Y.move (up0 rfl rfl rfl) rfl rfl) rfl ?_
          refine OpsFrom.v (Y.slSg ty26 ty5 (up0 rfl rfl rfl) rfl rfl (bnd1 rfl) bnd0 (by first | (with_reducible assumption) | omega | (simp only [lens, *]; first | done | omega) | decide | (split <;> simp only [lens, *]) | (with_reducible exact Lt.mono (by assumption) (by decide))) (by first | (with_reducible assumption) | omega | (simp only [lens, *]; first | done | omega) | decide | (split <;> simp only [lens, *]) | (with_reducible exact Lt.mono (by assumption) (by decide)))) rfl ?_
          refine OpsFrom.v (Y.move (up0 rfl rfl rfl) rfl rfl) rfl ?_
          refine OpsFrom.u (Y.cpy ty26 ty5 (up0 rfl rfl rfl) rfl rfl rfl rfl (by first | (with_reducible assumption) | omega | (simp only [lens, *]; first | done | omega) | decide | (split <;> simp only [lens, *]) | (with_reducible exact Lt.mono (by assumption) (by decide))) rfl (.bs _ _ _) (by first | (with_reducible assumption) | omega | (simp only [lens, *]; first | done | omega) | decide | (split <;> simp only [lens, *]) | (with_reducible exact Lt.mono (by assumption) (by decide))) (Spl.r (by first | (with_reducible assumption) | omega | (simp only [lens, *]; first | done | omega) | decide | (split <;> simp only [lens, *]) | (with_reducible exact Lt.mono (by assumption) (by decide)))) rfl) rfl rfl rfl ?_
          refine OpsFrom.v (Y.addI (up0 rfl rfl rfl) rfl rfl rfl (by first | (with_reducible assumption) | omega | (simp only [lens, *]; first | done | omega) | decide | (split <;> simp only [lens, *]) | (with_reducible exact Lt.mono (by assumption) (by decide)))) rfl ?_
          refine OpsFrom.v (Y.assign (up0 rfl rfl rfl) rfl rfl) rfl ?_
          refine OpsFrom.nil ?_
          refine Holds.reg ?_
          refine OpsFrom.v (Y.addI (b := 1) (up0 rfl rfl rfl) rfl rfl rfl (by first | (with_reducible assumption) | omega | (simp only [lens, *]; first | done | omega) | decide | (split <;> simp only [lens, *]) | (with_reducible exact Lt.mono (by assumption) (by decide)))) rfl ?_
          refine OpsFrom.v (Y.move (up0 rfl rfl rfl) rfl rfl) rfl ?_
          refine OpsFrom.nil ?_
          exact Holds.again (i2_ + 1) (by omega) (by omega) [] ⟨⟨rfl, rfl, rfl, (nEq (by rw [join_it2_s]; unfold join_s2; first | (dsimp only; done) | rfl)), rfl, rfl, (nEq (by omega)), trivial⟩, ⟨(hEq (by rw [join_it2_s]; unfold join_s2; first | (dsimp only; done) | rfl)), trivial⟩, rfl, rfl⟩
        · obtain rfl : i2_ = ((xss.drop 1).take (xss.length - 1)).length := by omega
          refine Holds.exit ?_
          refine Holds.seq ?_
          refine Holds.reg ?_
          refine OpsFrom.v (Y.move (up0 rfl rfl rfl) rfl rfl) rfl ?_
          refine OpsFrom.v (Y.assign (up0 rfl rfl rfl) rfl rfl) rfl ?_
          refine OpsFrom.nil ?_
          refine Holds.ret ?_
          exact Holds.ret1 (.inl rfl) rfl (.tmp _ _ rfl) (View.cg (by first | exact join_p0 h14 | exact join_p1 h18 | exact join_p2 h14 hys) (.sg _ _ _ _ _ _ rfl rfl (by first | (with_reducible assumption) | omega | (simp only [lens, *]; first | done | omega) | decide | (split <;> simp only [lens, *]) | (with_reducible exact Lt.mono (by assumption) (by decide))))) rfl


end Go.Proofs.Ytkpelchcpiafaaa
