/-
  Walks: the other Poly1305.
-/
import Derived.Test.YtkpelchcpiafaaaQa
namespace Go.Proofs.Ytkpelchcpiafaaa
open Go Go.Fx
set_option linter.unusedVariables false
set_option linter.unusedSimpArgs false
def rcarried_s1 (n : List Nat) (i1_ : Nat) (m1_ : Nat × (List Nat)) : Nat × (List Nat) :=
  let v2_ : List Nat := m1_.2.set i1_ (((m1_.2.getD i1_ 0) + m1_.1) % 256)
  (((m1_.2.getD i1_ 0) + m1_.1) / 256, v2_)
def rcarried_it1 (n : List Nat) (i1_ : Nat) : Nat × (List Nat) := iter (rcarried_s1 n) i1_ (0, n)
theorem rcarried_it1_z (n : List Nat) : rcarried_it1 n 0 = (0, n) := rfl
theorem rcarried_it1_s (n : List Nat) (i1_ : Nat) : rcarried_it1 n (i1_ + 1) = rcarried_s1 n i1_ (rcarried_it1 n i1_) := by unfold rcarried_it1; exact iterS _ _ _
theorem rcarried_it1_l1 (n : List Nat) (i1_ : Nat) : ((rcarried_it1 n i1_).2).length = (n : List Nat).length := iter_inv (fun (s : Nat × (List Nat)) => (s.2).length = (n : List Nat).length) (by simp) (fun i s h => by
  unfold rcarried_s1
  first | (simp [h]; done) | (dsimp only; (repeat' split) <;> simp [h])) i1_
theorem rcarried_b {n : List Nat} (h : Lt 1099511627776 n) (i : Nat) : (rcarried_it1 n i).1 < 1099511627776 ∧ Lt 1099511627776 (rcarried_it1 n i).2 :=
  iter_inv (fun (s : Nat × List Nat) => s.1 < 1099511627776 ∧ Lt 1099511627776 s.2) ⟨(by decide : (0 : Nat) < 1099511627776), h⟩ (fun i s h => by
    have := h.2 i
    simp only [rcarried_s1]
    exact ⟨by omega, h.2.set (by omega)⟩) i
def rcarried (n : List Nat) : List Nat :=
  (rcarried_it1 n 40).2
theorem rcarried_len (n : List Nat)  : ((rcarried n)).length = n.length := by
  unfold rcarried
  first | (simp [rcarried_it1_l1]; done) | (simp [*, rcarried_it1_l1]; done) | (dsimp only; (repeat' split) <;> simp [*, rcarried_it1_l1])
theorem w_rcarried (n : List Nat) (l_n : n.length = 40) (b_n : Lt 1099511627776 n) : VC Try.prog 60 [.row (.ints .i64 n)] (.row (.ints .i64 (rcarried n))) := by
  refine VC.go Try.func60 rfl Try.ntmps60 rfl rfl fun O w => ?_
  refine Holds.seq ?_
  refine Holds.reg ?_
  refine OpsFrom.u (Y.boxR (d := 1) (up0 rfl rfl rfl) rfl rfl rfl) rfl rfl rfl ?_
  refine OpsFrom.u (Y.alloc (d := 2) ty78 rfl rfl (up0 rfl rfl rfl) rfl) rfl rfl rfl ?_
  refine OpsFrom.nil ?_
  refine Holds.seq ?_
  refine Holds.reg ?_
  refine OpsFrom.v (Y.assign (v := (.one (.n .i64 0))) (up0 rfl rfl rfl) rfl rfl) rfl ?_
  refine OpsFrom.nil ?_
  refine Holds.seq ?_
  refine Holds.seq ?_
  refine Holds.reg ?_
  refine OpsFrom.v (Y.assign (v := (.one (.n .i64 0))) (up0 rfl rfl rfl) rfl rfl) rfl ?_
  refine OpsFrom.nil ?_
  refine Holds.block ?_
  refine Holds.loop (fun (i1_ : Nat) => ⟨[(1, .one (.p 1 0)), (2, .one (.p 2 0)), (3, .one (.n .i64 ((rcarried_it1 n i1_).1))), (4, .one (.n .i64 i1_))], [(1, .own (.ints .i64 ((rcarried_it1 n i1_).2))), (2, .own (.ints .i64 (List.replicate 40 0)))]⟩) (fun (i1_ : Nat) => i1_ ≤ 40) (fun (i1_ : Nat) => 40 - i1_) 0 (by first | (with_reducible assumption) | omega | (simp only [lens, rcarried_it1_l1, *]; first | done | omega) | decide | (split <;> simp only [lens, rcarried_it1_l1, *]) | (with_reducible exact Lt.mono (by assumption) (by decide))) [] ⟨⟨rfl, rfl, (nEq (congrArg (fun (s : Nat × (List Nat)) => s.1) (rcarried_it1_z n)).symm), rfl, trivial⟩, ⟨(hEq (congrArg (fun (s : Nat × (List Nat)) => s.2) (rcarried_it1_z n)).symm), rfl, trivial⟩, rfl, rfl⟩ ?_
  intro i1_ k1_
  have hc := (rcarried_b b_n i1_).1
  have hd := (rcarried_b b_n i1_).2 i1_
  refine Holds.seq ?_
  refine Holds.seq ?_
  refine Holds.reg ?_
  refine OpsFrom.v (Y.move (up0 rfl rfl rfl) rfl rfl) rfl ?_
  refine OpsFrom.v (Y.lss (b := 40) (up0 rfl rfl rfl) rfl rfl rfl) rfl ?_
  refine OpsFrom.nil ?_
  refine Holds.condD rfl (fun h7 => ?_) (fun h7 => ?_)
  · refine Holds.skip ?_
    refine Holds.seq ?_
    refine Holds.block ?_
    refine Holds.seq ?_
    refine Holds.reg ?_
    refine OpsFrom.v (Y.move (up0 rfl rfl rfl) rfl rfl) rfl ?_
    refine OpsFrom.v (Y.ia0 ty78 ty3 (up0 rfl rfl rfl) rfl rfl rfl (by first | (with_reducible assumption) | omega | (simp only [lens, rcarried_it1_l1, *]; first | done | omega) | decide | (split <;> simp only [lens, rcarried_it1_l1, *]) | (with_reducible exact Lt.mono (by assumption) (by decide)))) rfl ?_
    refine OpsFrom.v (Y.ldI ty3 rfl (up0 rfl rfl rfl) rfl rfl rfl (by first | (with_reducible assumption) | omega | (simp only [lens, rcarried_it1_l1, *]; first | done | omega) | decide | (split <;> simp only [lens, rcarried_it1_l1, *]) | (with_reducible exact Lt.mono (by assumption) (by decide)))) rfl ?_
    refine OpsFrom.v (Y.move (up0 rfl rfl rfl) rfl rfl) rfl ?_
    refine OpsFrom.v (Y.addI (up0 rfl rfl rfl) rfl rfl rfl (by first | (with_reducible assumption) | omega | (simp only [lens, rcarried_it1_l1, *]; first | done | omega) | decide | (split <;> simp only [lens, rcarried_it1_l1, *]) | (with_reducible exact Lt.mono (by assumption) (by decide)))) rfl ?_
    refine OpsFrom.v (Y.assign (up0 rfl rfl rfl) rfl rfl) rfl ?_
    refine OpsFrom.nil ?_
    refine Holds.seq ?_
    refine Holds.reg ?_
    refine OpsFrom.v (Y.move (up0 rfl rfl rfl) rfl rfl) rfl ?_
    refine OpsFrom.v (Y.move (up0 rfl rfl rfl) rfl rfl) rfl ?_
    refine OpsFrom.v (Y.rem (b := 256) (up0 rfl rfl rfl) rfl rfl rfl (by decide)) rfl ?_
    refine OpsFrom.v (Y.ia0 ty78 ty3 (up0 rfl rfl rfl) rfl rfl rfl (by first | (with_reducible assumption) | omega | (simp only [lens, rcarried_it1_l1, *]; first | done | omega) | decide | (split <;> simp only [lens, rcarried_it1_l1, *]) | (with_reducible exact Lt.mono (by assumption) (by decide)))) rfl ?_
    refine OpsFrom.n (Y.stI ty3 (upN rfl rfl) rfl rfl rfl rfl (by first | (with_reducible assumption) | omega | (simp only [lens, rcarried_it1_l1, *]; first | done | omega) | decide | (split <;> simp only [lens, rcarried_it1_l1, *]) | (with_reducible exact Lt.mono (by assumption) (by decide)))) rfl rfl ?_
    refine OpsFrom.nil ?_
    refine Holds.reg ?_
    refine OpsFrom.v (Y.move (up0 rfl rfl rfl) rfl rfl) rfl ?_
    refine OpsFrom.v (Y.quoI (b := 256) (up0 rfl rfl rfl) rfl rfl rfl (by first | (with_reducible assumption) | omega | (simp only [lens, rcarried_it1_l1, *]; first | done | omega) | decide | (split <;> simp only [lens, rcarried_it1_l1, *]) | (with_reducible exact Lt.mono (by assumption) (by decide))) (by decide)) rfl ?_
    refine OpsFrom.v (Y.assign (up0 rfl rfl rfl) rfl rfl) rfl ?_
    refine OpsFrom.nil ?_
    refine Holds.reg ?_
    refine OpsFrom.v (Y.move (up0 rfl rfl rfl) rfl rfl) rfl ?_
    refine OpsFrom.v (Y.addI (b := 1) (up0 rfl rfl rfl) rfl rfl rfl (by first | (with_reducible assumption) | omega | (simp only [lens, rcarried_it1_l1, *]; first | done | omega) | decide | (split <;> simp only [lens, rcarried_it1_l1, *]) | (with_reducible exact Lt.mono (by assumption) (by decide)))) rfl ?_
    refine OpsFrom.v (Y.assign (up0 rfl rfl rfl) rfl rfl) rfl ?_
    refine OpsFrom.nil ?_
    exact Holds.again (i1_ + 1) (by omega) (by omega) [] ⟨⟨rfl, rfl, (nEq (by rw [rcarried_it1_s]; unfold rcarried_s1; first | (dsimp only; done) | rfl)), (nEq (by omega)), trivial⟩, ⟨(hEq (by rw [rcarried_it1_s]; unfold rcarried_s1; first | (dsimp only; done) | rfl)), rfl, trivial⟩, rfl, rfl⟩
  · obtain rfl : i1_ = 40 := by omega
    refine Holds.exit ?_
    refine Holds.seq ?_
    refine Holds.reg ?_
    refine OpsFrom.v (Y.ldAll ty78 rfl (up0 rfl rfl rfl) rfl rfl rfl (by first | (with_reducible assumption) | omega | (simp only [lens, rcarried_it1_l1, *]; first | done | omega) | decide | (split <;> simp only [lens, rcarried_it1_l1, *]) | (with_reducible exact Lt.mono (by assumption) (by decide))) (by decide)) rfl ?_
    refine OpsFrom.n (Y.stR ty78 (upN rfl rfl) rfl rfl rfl rfl rfl (by first | (with_reducible assumption) | omega | (simp only [lens, rcarried_it1_l1, *]; first | done | omega) | decide | (split <;> simp only [lens, rcarried_it1_l1, *]) | (with_reducible exact Lt.mono (by assumption) (by decide))) (by first | (with_reducible assumption) | omega | (simp only [lens, rcarried_it1_l1, *]; first | done | omega) | decide | (split <;> simp only [lens, rcarried_it1_l1, *]) | (with_reducible exact Lt.mono (by assumption) (by decide))) (by decide)) rfl rfl ?_
    refine OpsFrom.nil ?_
    refine Holds.ret ?_
    exact Holds.ret1 (.inl rfl) rfl (.rowN rfl rfl ty78 rfl (by first | (with_reducible assumption) | omega | (simp only [lens, rcarried_it1_l1, *]; first | done | omega) | decide | (split <;> simp only [lens, rcarried_it1_l1, *]) | (with_reducible exact Lt.mono (by assumption) (by decide))) (by decide)) (.same _) rfl

theorem rcarried_lt {n : List Nat} (hn : n.length = 40) : Lt 256 (rcarried n) := by
  have key : ∀ i, i ≤ 40 → ∀ j, j < i → (rcarried_it1 n i).2.getD j 0 < 256 := by
    intro i
    induction i with
    | zero => intro _ j hj; omega
    | succ i ih =>
      intro hi j hj
      rw [rcarried_it1_s]
      simp only [rcarried_s1]
      by_cases h : j = i
      · subst h
        rw [getD_set_eq (by rw [rcarried_it1_l1]; omega)]
        omega
      · rw [Fx.getD_set_ne (by omega)]
        exact ih (by omega) j (by omega)
  intro j
  by_cases h : j < 40
  · exact key 40 (by omega) j h
  · rw [getD_ge (by rw [rcarried_len]; omega)]; decide
def rmodulo_s2 (m1_ : List Nat) (i2_ : Nat) (m2_ : List Nat) : List Nat :=
  if (16 + i2_) < 39 then
    let v50_ : Nat := ((m1_.getD (16 + i2_) 0) / 4) + (((m1_.getD ((16 + i2_) + 1) 0) % 4) * 64)
    m2_.set ((16 + i2_) - 16) v50_
  else
    let v51_ : List Nat := m2_.set ((16 + i2_) - 16) ((m1_.getD (16 + i2_) 0) / 4)
    v51_
def rmodulo_it2 (m1_ : List Nat) (i2_ : Nat) : List Nat := iter (rmodulo_s2 m1_) i2_ (List.replicate 40 0)
theorem rmodulo_it2_z (m1_ : List Nat) : rmodulo_it2 m1_ 0 = List.replicate 40 0 := rfl
theorem rmodulo_it2_s (m1_ : List Nat) (i2_ : Nat) : rmodulo_it2 m1_ (i2_ + 1) = rmodulo_s2 m1_ i2_ (rmodulo_it2 m1_ i2_) := by unfold rmodulo_it2; exact iterS _ _ _
theorem rmodulo_it2_l (m1_ : List Nat) (i2_ : Nat) : ((rmodulo_it2 m1_ i2_)).length = (List.replicate 40 0 : List Nat).length := iter_inv (fun (s : List Nat) => (s).length = (List.replicate 40 0 : List Nat).length) (by simp) (fun i s h => by
  unfold rmodulo_s2
  first | (simp [rcarried_len, h]; done) | (dsimp only; (repeat' split) <;> simp [rcarried_len, h])) i2_
theorem rmodulo_b2 {m : List Nat} (h : Lt 256 m) (i : Nat) : Lt 256 (rmodulo_it2 m i) :=
  iter_inv (fun (s : List Nat) => Lt 256 s) (Lt.replicate (by decide)) (fun i s hs => by
    have := h (16 + i)
    simp only [rmodulo_s2]
    split
    · exact hs.set (by omega)
    · exact hs.set (by omega)) i
def rmodulo_s3 (m1_ : List Nat) (i3_ : Nat) (m3_ : List Nat) : List Nat :=
  m3_.set (17 + i3_) 0
def rmodulo_it3 (m1_ : List Nat) (i3_ : Nat) : List Nat := iter (rmodulo_s3 m1_) i3_ (m1_.set 16 ((m1_.getD 16 0) % 4))
theorem rmodulo_it3_z (m1_ : List Nat) : rmodulo_it3 m1_ 0 = m1_.set 16 ((m1_.getD 16 0) % 4) := rfl
theorem rmodulo_it3_s (m1_ : List Nat) (i3_ : Nat) : rmodulo_it3 m1_ (i3_ + 1) = rmodulo_s3 m1_ i3_ (rmodulo_it3 m1_ i3_) := by unfold rmodulo_it3; exact iterS _ _ _
theorem rmodulo_it3_l (m1_ : List Nat) (i3_ : Nat) : ((rmodulo_it3 m1_ i3_)).length = (m1_.set 16 ((m1_.getD 16 0) % 4) : List Nat).length := iter_inv (fun (s : List Nat) => (s).length = (m1_.set 16 ((m1_.getD 16 0) % 4) : List Nat).length) (by simp) (fun i s h => by
  unfold rmodulo_s3
  first | (simp [rcarried_len, rmodulo_it2_l, h]; done) | (dsimp only; (repeat' split) <;> simp [rcarried_len, rmodulo_it2_l, h])) i3_
theorem rmodulo_b3 {m : List Nat} (h : Lt 256 m) (i : Nat) : Lt 256 (rmodulo_it3 m i) :=
  iter_inv (fun (s : List Nat) => Lt 256 s) (h.set (by omega)) (fun i s hs => hs.set (by decide)) i
def rmodulo_s4 (m1_ : List Nat) (i4_ : Nat) (m4_ : List Nat) : List Nat :=
  let v57_ : Nat := (m4_.getD i4_ 0) + (5 * ((rmodulo_it2 m1_ 24).getD i4_ 0))
  m4_.set i4_ v57_
def rmodulo_it4 (m1_ : List Nat) (i4_ : Nat) : List Nat := iter (rmodulo_s4 m1_) i4_ (rmodulo_it3 m1_ 23)
theorem rmodulo_it4_z (m1_ : List Nat) : rmodulo_it4 m1_ 0 = (rmodulo_it3 m1_ 23) := rfl
theorem rmodulo_it4_s (m1_ : List Nat) (i4_ : Nat) : rmodulo_it4 m1_ (i4_ + 1) = rmodulo_s4 m1_ i4_ (rmodulo_it4 m1_ i4_) := by unfold rmodulo_it4; exact iterS _ _ _
theorem rmodulo_it4_l (m1_ : List Nat) (i4_ : Nat) : ((rmodulo_it4 m1_ i4_)).length = ((rmodulo_it3 m1_ 23) : List Nat).length := iter_inv (fun (s : List Nat) => (s).length = ((rmodulo_it3 m1_ 23) : List Nat).length) (by simp) (fun i s h => by
  unfold rmodulo_s4
  first | (simp [rcarried_len, rmodulo_it2_l, rmodulo_it3_l, h]; done) | (dsimp only; (repeat' split) <;> simp [rcarried_len, rmodulo_it2_l, rmodulo_it3_l, h])) i4_
theorem rmodulo_b4 {m : List Nat} (h : Lt 256 m) (i : Nat) : Lt 1531 (rmodulo_it4 m i) ∧ ∀ j, i ≤ j → (rmodulo_it4 m i).getD j 0 < 256 := by
  induction i with
  | zero => exact ⟨(rmodulo_b3 h 23).mono (by decide), fun j _ => rmodulo_b3 h 23 j⟩
  | succ i ih =>
    have h2 := rmodulo_b2 h 24 i
    have h3 := ih.2 i (Nat.le_refl i)
    rw [rmodulo_it4_s]
    simp only [rmodulo_s4]
    refine ⟨ih.1.set (by omega), fun j hj => ?_⟩
    rw [Fx.getD_set_ne (by omega)]
    exact ih.2 j (by omega)
def rmodulo_s1 (n : List Nat) (i1_ : Nat) (m1_ : List Nat) : List Nat :=
  (rcarried (rmodulo_it4 m1_ 40))
def rmodulo_it1 (n : List Nat) (i1_ : Nat) : List Nat := iter (rmodulo_s1 n) i1_ (rcarried n)
theorem rmodulo_it1_z (n : List Nat) : rmodulo_it1 n 0 = (rcarried n) := rfl
theorem rmodulo_it1_s (n : List Nat) (i1_ : Nat) : rmodulo_it1 n (i1_ + 1) = rmodulo_s1 n i1_ (rmodulo_it1 n i1_) := by unfold rmodulo_it1; exact iterS _ _ _
theorem rmodulo_it1_l (n : List Nat) (i1_ : Nat) : ((rmodulo_it1 n i1_)).length = ((rcarried n) : List Nat).length := iter_inv (fun (s : List Nat) => (s).length = ((rcarried n) : List Nat).length) (by simp) (fun i s h => by
  unfold rmodulo_s1
  first | (simp [rcarried_len, rmodulo_it2_l, rmodulo_it3_l, rmodulo_it4_l, h]; done) | (dsimp only; (repeat' split) <;> simp [rcarried_len, rmodulo_it2_l, rmodulo_it3_l, rmodulo_it4_l, h])) i1_
theorem rmodulo_b {n : List Nat} (hn : n.length = 40) (h : Lt 1099511627776 n) (i : Nat) : Lt 256 (rmodulo_it1 n i) := by
  cases i with
  | zero => exact rcarried_lt hn
  | succ i =>
    rw [rmodulo_it1_s]
    refine rcarried_lt ?_
    rw [rmodulo_it4_l, rmodulo_it3_l, List.length_set, rmodulo_it1_l, rcarried_len, hn]
theorem rmodulo_more {m : List Nat} (h : Lt 256 m) : Lt 1099511627776 (m.set 0 (m.getD 0 0 + 5)) := (h.mono (by decide)).set (by have := h 0; omega)
def rmodulo (n : List Nat) : List Nat :=
  let v59_ : List Nat := (rmodulo_it1 n 4).set 0 (((rmodulo_it1 n 4).getD 0 0) + 5)
  if 4 ≤ ((rcarried v59_).getD 16 0) then
    let v60_ : List Nat := (rcarried v59_).set 16 (((rcarried v59_).getD 16 0) - 4)
    v60_
  else
    (rmodulo_it1 n 4)
theorem rmodulo_len (n : List Nat)  : ((rmodulo n)).length = n.length := by
  unfold rmodulo
  first | (simp [rcarried_len, rmodulo_it2_l, rmodulo_it3_l, rmodulo_it4_l, rmodulo_it1_l]; done) | (simp [*, rcarried_len, rmodulo_it2_l, rmodulo_it3_l, rmodulo_it4_l, rmodulo_it1_l]; done) | (dsimp only; (repeat' split) <;> simp [*, rcarried_len, rmodulo_it2_l, rmodulo_it3_l, rmodulo_it4_l, rmodulo_it1_l])
theorem w_rmodulo (n : List Nat) (l_n : n.length = 40) (b_n : Lt 1099511627776 n) : VC Try.prog 59 [.row (.ints .i64 n)] (.row (.ints .i64 (rmodulo n))) := by
  refine VC.go Try.func59 rfl Try.ntmps59 rfl rfl fun O w => ?_
  refine Holds.seq ?_
  refine Holds.reg ?_
  refine OpsFrom.u (Y.boxR (d := 1) (up0 rfl rfl rfl) rfl rfl rfl) rfl rfl rfl ?_
  refine OpsFrom.u (Y.alloc (d := 2) ty78 rfl rfl (up0 rfl rfl rfl) rfl) rfl rfl rfl ?_
  refine OpsFrom.nil ?_
  refine Holds.seq ?_
  refine Holds.reg ?_
  refine OpsFrom.v (Y.ldAll ty78 rfl (up0 rfl rfl rfl) rfl rfl rfl (by first | (with_reducible assumption) | omega | (simp only [lens, *]; first | done | omega) | decide | (split <;> simp only [lens, *]) | (with_reducible exact Lt.mono (by assumption) (by decide))) (by decide)) rfl ?_
  refine OpsFrom.v (Y.callV (w_rcarried _ l_n b_n) fnok60 (up0 rfl rfl rfl) rfl rfl (.cons _ _ _ _ rfl .nil) (.cons _ _ _ _ (.same _) .nil) rfl rfl) rfl ?_
  refine OpsFrom.n (Y.stR ty78 (upN rfl rfl) rfl rfl rfl rfl rfl (by first | (with_reducible assumption) | omega | (simp only [lens, rcarried_len, *]; first | done | omega) | decide | (split <;> simp only [lens, rcarried_len, *]) | (with_reducible exact Lt.mono (by assumption) (by decide))) (by first | (with_reducible assumption) | omega | (simp only [lens, rcarried_len, *]; first | done | omega) | decide | (split <;> simp only [lens, rcarried_len, *]) | (with_reducible exact Lt.mono (by assumption) (by decide))) (by decide)) rfl rfl ?_
  refine OpsFrom.nil ?_
  refine Holds.seq ?_
  refine Holds.seq ?_
  refine Holds.reg ?_
  refine OpsFrom.v (Y.assign (v := (.one (.n .i64 0))) (up0 rfl rfl rfl) rfl rfl) rfl ?_
  refine OpsFrom.nil ?_
  refine Holds.block ?_
  refine Holds.loop (fun (i1_ : Nat) => ⟨[(1, .one (.p 1 0)), (2, .one (.p 2 0)), (3, .one (.n .i64 i1_))], [(1, .own (.ints .i64 (rmodulo_it1 n i1_))), (2, .own (.ints .i64 (List.replicate 40 0)))]⟩) (fun (i1_ : Nat) => i1_ ≤ 4) (fun (i1_ : Nat) => 4 - i1_) 0 (by first | (with_reducible assumption) | omega | (simp only [lens, rcarried_len, rmodulo_it1_l, *]; first | done | omega) | decide | (split <;> simp only [lens, rcarried_len, rmodulo_it1_l, *]) | (with_reducible exact Lt.mono (by assumption) (by decide))) [] ⟨⟨rfl, rfl, rfl, trivial⟩, ⟨(hEq (congrArg (fun (s : List Nat) => s) (rmodulo_it1_z n)).symm), rfl, trivial⟩, rfl, rfl⟩ ?_
  intro i1_ k1_
  have hm := rmodulo_b l_n b_n i1_
  have hm16 := hm 16
  refine Holds.seq ?_
  refine Holds.seq ?_
  refine Holds.reg ?_
  refine OpsFrom.v (Y.move (up0 rfl rfl rfl) rfl rfl) rfl ?_
  refine OpsFrom.v (Y.lss (b := 4) (up0 rfl rfl rfl) rfl rfl rfl) rfl ?_
  refine OpsFrom.nil ?_
  refine Holds.condD rfl (fun h13 => ?_) (fun h13 => ?_)
  · refine Holds.skip ?_
    refine Holds.seq ?_
    refine Holds.block ?_
    refine Holds.seq ?_
    refine Holds.reg ?_
    refine OpsFrom.v (Y.buildA ty78 ty3 rfl (up0 rfl rfl rfl) rfl (.nil _)) rfl ?_
    refine OpsFrom.u (Y.alloc (d := 4) ty78 rfl rfl (up0 rfl rfl rfl) rfl) rfl rfl rfl ?_
    refine OpsFrom.n (Y.stR ty78 (upN rfl rfl) rfl rfl rfl rfl rfl (by first | (with_reducible assumption) | omega | (simp only [lens, rcarried_len, rmodulo_it1_l, *]; first | done | omega) | decide | (split <;> simp only [lens, rcarried_len, rmodulo_it1_l, *]) | (with_reducible exact Lt.mono (by assumption) (by decide))) (by first | (with_reducible assumption) | omega | (simp only [lens, rcarried_len, rmodulo_it1_l, *]; first | done | omega) | decide | (split <;> simp only [lens, rcarried_len, rmodulo_it1_l, *]) | (with_reducible exact Lt.mono (by assumption) (by decide))) (by decide)) rfl rfl ?_
    refine OpsFrom.nil ?_
    refine Holds.seq ?_
    refine Holds.seq ?_
    refine Holds.reg ?_
    refine OpsFrom.v (Y.assign (v := (.one (.n .i64 16))) (up0 rfl rfl rfl) rfl rfl) rfl ?_
    refine OpsFrom.nil ?_
    refine Holds.block ?_
    refine Holds.loop (fun (i2_ : Nat) => ⟨[(1, .one (.p 1 0)), (2, .one (.p 2 0)), (3, .one (.n .i64 i1_)), (12, .one (.n .i64 i1_)), (13, .one (.b (decide (i1_ < 4)))), (16, .row (.ints .i64 (List.replicate 40 0))), (4, .one (.p 4 0)), (5, .one (.n .i64 (16 + i2_)))], [(1, .own (.ints .i64 (rmodulo_it1 n i1_))), (2, .own (.ints .i64 (List.replicate 40 0))), (4, .own (.ints .i64 (rmodulo_it2 (rmodulo_it1 n i1_) i2_)))]⟩) (fun (i2_ : Nat) => i2_ ≤ 24) (fun (i2_ : Nat) => 24 - i2_) 0 (by first | (with_reducible assumption) | omega | (simp only [lens, rcarried_len, rmodulo_it1_l, rmodulo_it2_l, *]; first | done | omega) | decide | (split <;> simp only [lens, rcarried_len, rmodulo_it1_l, rmodulo_it2_l, *]) | (with_reducible exact Lt.mono (by assumption) (by decide))) [] ⟨⟨rfl, rfl, rfl, rfl, rfl, rfl, rfl, rfl, trivial⟩, ⟨rfl, rfl, (hEq (congrArg (fun (s : List Nat) => s) (rmodulo_it2_z (rmodulo_it1 n i1_))).symm), trivial⟩, rfl, rfl⟩ ?_
    intro i2_ k2_
    have hx := hm (16 + i2_)
    have hx1 := hm (16 + i2_ + 1)
    refine Holds.seq ?_
    refine Holds.seq ?_
    refine Holds.reg ?_
    refine OpsFrom.v (Y.move (up0 rfl rfl rfl) rfl rfl) rfl ?_
    refine OpsFrom.v (Y.lss (b := 40) (up0 rfl rfl rfl) rfl rfl rfl) rfl ?_
    refine OpsFrom.nil ?_
    refine Holds.condD rfl (fun h18 => ?_) (fun h18 => ?_)
    · refine Holds.skip ?_
      refine Holds.seq ?_
      refine Holds.block ?_
      refine Holds.seq ?_
      refine Holds.reg ?_
      refine OpsFrom.v (Y.move (up0 rfl rfl rfl) rfl rfl) rfl ?_
      refine OpsFrom.v (Y.ia0 ty78 ty3 (up0 rfl rfl rfl) rfl rfl rfl (by first | (with_reducible assumption) | omega | (simp only [lens, rcarried_len, rmodulo_it1_l, rmodulo_it2_l, *]; first | done | omega) | decide | (split <;> simp only [lens, rcarried_len, rmodulo_it1_l, rmodulo_it2_l, *]) | (with_reducible exact Lt.mono (by assumption) (by decide)))) rfl ?_
      refine OpsFrom.v (Y.ldI ty3 rfl (up0 rfl rfl rfl) rfl rfl rfl (by first | (with_reducible assumption) | omega | (simp only [lens, rcarried_len, rmodulo_it1_l, rmodulo_it2_l, *]; first | done | omega) | decide | (split <;> simp only [lens, rcarried_len, rmodulo_it1_l, rmodulo_it2_l, *]) | (with_reducible exact Lt.mono (by assumption) (by decide)))) rfl ?_
      refine OpsFrom.v (Y.quoI (b := 4) (up0 rfl rfl rfl) rfl rfl rfl (by first | (with_reducible assumption) | omega | (simp only [lens, rcarried_len, rmodulo_it1_l, rmodulo_it2_l, *]; first | done | omega) | decide | (split <;> simp only [lens, rcarried_len, rmodulo_it1_l, rmodulo_it2_l, *]) | (with_reducible exact Lt.mono (by assumption) (by decide))) (by decide)) rfl ?_
      refine OpsFrom.v (Y.assign (up0 rfl rfl rfl) rfl rfl) rfl ?_
      refine OpsFrom.nil ?_
      refine Holds.seq ?_
      refine Holds.seq ?_
      refine Holds.reg ?_
      refine OpsFrom.v (Y.move (up0 rfl rfl rfl) rfl rfl) rfl ?_
      refine OpsFrom.v (Y.lss (b := 39) (up0 rfl rfl rfl) rfl rfl rfl) rfl ?_
      refine OpsFrom.nil ?_
      refine Holds.condD rfl (fun h26 => ?_) (fun h26 => ?_)
      · refine Holds.reg ?_
        refine OpsFrom.v (Y.move (up0 rfl rfl rfl) rfl rfl) rfl ?_
        refine OpsFrom.v (Y.move (up0 rfl rfl rfl) rfl rfl) rfl ?_
        refine OpsFrom.v (Y.addI (b := 1) (up0 rfl rfl rfl) rfl rfl rfl (by first | (with_reducible assumption) | omega | (simp only [lens, rcarried_len, rmodulo_it1_l, rmodulo_it2_l, *]; first | done | omega) | decide | (split <;> simp only [lens, rcarried_len, rmodulo_it1_l, rmodulo_it2_l, *]) | (with_reducible exact Lt.mono (by assumption) (by decide)))) rfl ?_
        refine OpsFrom.v (Y.ia0 ty78 ty3 (up0 rfl rfl rfl) rfl rfl rfl (by first | (with_reducible assumption) | omega | (simp only [lens, rcarried_len, rmodulo_it1_l, rmodulo_it2_l, *]; first | done | omega) | decide | (split <;> simp only [lens, rcarried_len, rmodulo_it1_l, rmodulo_it2_l, *]) | (with_reducible exact Lt.mono (by assumption) (by decide)))) rfl ?_
        refine OpsFrom.v (Y.ldI ty3 rfl (up0 rfl rfl rfl) rfl rfl rfl (by first | (with_reducible assumption) | omega | (simp only [lens, rcarried_len, rmodulo_it1_l, rmodulo_it2_l, *]; first | done | omega) | decide | (split <;> simp only [lens, rcarried_len, rmodulo_it1_l, rmodulo_it2_l, *]) | (with_reducible exact Lt.mono (by assumption) (by decide)))) rfl ?_
        refine OpsFrom.v (Y.rem (b := 4) (up0 rfl rfl rfl) rfl rfl rfl (by decide)) rfl ?_
        refine OpsFrom.v (Y.mulI (b := 64) (up0 rfl rfl rfl) rfl rfl rfl (by first | (with_reducible assumption) | omega | (simp only [lens, rcarried_len, rmodulo_it1_l, rmodulo_it2_l, *]; first | done | omega) | decide | (split <;> simp only [lens, rcarried_len, rmodulo_it1_l, rmodulo_it2_l, *]) | (with_reducible exact Lt.mono (by assumption) (by decide)))) rfl ?_
        refine OpsFrom.v (Y.addI (up0 rfl rfl rfl) rfl rfl rfl (by first | (with_reducible assumption) | omega | (simp only [lens, rcarried_len, rmodulo_it1_l, rmodulo_it2_l, *]; first | done | omega) | decide | (split <;> simp only [lens, rcarried_len, rmodulo_it1_l, rmodulo_it2_l, *]) | (with_reducible exact Lt.mono (by assumption) (by decide)))) rfl ?_
        refine OpsFrom.v (Y.assign (up0 rfl rfl rfl) rfl rfl) rfl ?_
        refine OpsFrom.nil ?_
        refine Holds.reg ?_
        refine OpsFrom.v (Y.move (up0 rfl rfl rfl) rfl rfl) rfl ?_
        refine OpsFrom.v (Y.subI (b := 16) (up0 rfl rfl rfl) rfl rfl rfl (by first | (with_reducible assumption) | omega | (simp only [lens, rcarried_len, rmodulo_it1_l, rmodulo_it2_l, *]; first | done | omega) | decide | (split <;> simp only [lens, rcarried_len, rmodulo_it1_l, rmodulo_it2_l, *]) | (with_reducible exact Lt.mono (by assumption) (by decide))) (by first | (with_reducible assumption) | omega | (simp only [lens, rcarried_len, rmodulo_it1_l, rmodulo_it2_l, *]; first | done | omega) | decide | (split <;> simp only [lens, rcarried_len, rmodulo_it1_l, rmodulo_it2_l, *]) | (with_reducible exact Lt.mono (by assumption) (by decide)))) rfl ?_
        refine OpsFrom.v (Y.move (up0 rfl rfl rfl) rfl rfl) rfl ?_
        refine OpsFrom.v (Y.ia0 ty78 ty3 (up0 rfl rfl rfl) rfl rfl rfl (by first | (with_reducible assumption) | omega | (simp only [lens, rcarried_len, rmodulo_it1_l, rmodulo_it2_l, *]; first | done | omega) | decide | (split <;> simp only [lens, rcarried_len, rmodulo_it1_l, rmodulo_it2_l, *]) | (with_reducible exact Lt.mono (by assumption) (by decide)))) rfl ?_
        refine OpsFrom.n (Y.stI ty3 (upN rfl rfl) rfl rfl rfl rfl (by first | (with_reducible assumption) | omega | (simp only [lens, rcarried_len, rmodulo_it1_l, rmodulo_it2_l, *]; first | done | omega) | decide | (split <;> simp only [lens, rcarried_len, rmodulo_it1_l, rmodulo_it2_l, *]) | (with_reducible exact Lt.mono (by assumption) (by decide)))) rfl rfl ?_
        refine OpsFrom.nil ?_
        refine Holds.reg ?_
        refine OpsFrom.v (Y.move (up0 rfl rfl rfl) rfl rfl) rfl ?_
        refine OpsFrom.v (Y.addI (b := 1) (up0 rfl rfl rfl) rfl rfl rfl (by first | (with_reducible assumption) | omega | (simp only [lens, rcarried_len, rmodulo_it1_l, rmodulo_it2_l, *]; first | done | omega) | decide | (split <;> simp only [lens, rcarried_len, rmodulo_it1_l, rmodulo_it2_l, *]) | (with_reducible exact Lt.mono (by assumption) (by decide)))) rfl ?_
        refine OpsFrom.v (Y.assign (up0 rfl rfl rfl) rfl rfl) rfl ?_
        refine OpsFrom.nil ?_
        exact Holds.again (i2_ + 1) (by omega) (by omega) [] ⟨⟨rfl, rfl, rfl, rfl, rfl, rfl, rfl, (nEq (by omega)), trivial⟩, ⟨rfl, rfl, (hEq (congrArg (fun (s : List Nat) => s) ((rmodulo_it2_s (rmodulo_it1 n i1_) i2_).trans ((if_pos h26)))).symm), trivial⟩, rfl, rfl⟩
      · refine Holds.skip ?_
        refine Holds.reg ?_
        refine OpsFrom.v (Y.move (up0 rfl rfl rfl) rfl rfl) rfl ?_
        refine OpsFrom.v (Y.subI (b := 16) (up0 rfl rfl rfl) rfl rfl rfl (by first | (with_reducible assumption) | omega | (simp only [lens, rcarried_len, rmodulo_it1_l, rmodulo_it2_l, *]; first | done | omega) | decide | (split <;> simp only [lens, rcarried_len, rmodulo_it1_l, rmodulo_it2_l, *]) | (with_reducible exact Lt.mono (by assumption) (by decide))) (by first | (with_reducible assumption) | omega | (simp only [lens, rcarried_len, rmodulo_it1_l, rmodulo_it2_l, *]; first | done | omega) | decide | (split <;> simp only [lens, rcarried_len, rmodulo_it1_l, rmodulo_it2_l, *]) | (with_reducible exact Lt.mono (by assumption) (by decide)))) rfl ?_
        refine OpsFrom.v (Y.move (up0 rfl rfl rfl) rfl rfl) rfl ?_
        refine OpsFrom.v (Y.ia0 ty78 ty3 (up0 rfl rfl rfl) rfl rfl rfl (by first | (with_reducible assumption) | omega | (simp only [lens, rcarried_len, rmodulo_it1_l, rmodulo_it2_l, *]; first | done | omega) | decide | (split <;> simp only [lens, rcarried_len, rmodulo_it1_l, rmodulo_it2_l, *]) | (with_reducible exact Lt.mono (by assumption) (by decide)))) rfl ?_
        refine OpsFrom.n (Y.stI ty3 (upN rfl rfl) rfl rfl rfl rfl (by first | (with_reducible assumption) | omega | (simp only [lens, rcarried_len, rmodulo_it1_l, rmodulo_it2_l, *]; first | done | omega) | decide | (split <;> simp only [lens, rcarried_len, rmodulo_it1_l, rmodulo_it2_l, *]) | (with_reducible exact Lt.mono (by assumption) (by decide)))) rfl rfl ?_
        refine OpsFrom.nil ?_
        refine Holds.reg ?_
        refine OpsFrom.v (Y.move (up0 rfl rfl rfl) rfl rfl) rfl ?_
        refine OpsFrom.v (Y.addI (b := 1) (up0 rfl rfl rfl) rfl rfl rfl (by first | (with_reducible assumption) | omega | (simp only [lens, rcarried_len, rmodulo_it1_l, rmodulo_it2_l, *]; first | done | omega) | decide | (split <;> simp only [lens, rcarried_len, rmodulo_it1_l, rmodulo_it2_l, *]) | (with_reducible exact Lt.mono (by assumption) (by decide)))) rfl ?_
        refine OpsFrom.v (Y.assign (up0 rfl rfl rfl) rfl rfl) rfl ?_
        refine OpsFrom.nil ?_
        exact Holds.again (i2_ + 1) (by omega) (by omega) [] ⟨⟨rfl, rfl, rfl, rfl, rfl, rfl, rfl, (nEq (by omega)), trivial⟩, ⟨rfl, rfl, (hEq (congrArg (fun (s : List Nat) => s) ((rmodulo_it2_s (rmodulo_it1 n i1_) i2_).trans ((if_neg h26)))).symm), trivial⟩, rfl, rfl⟩
    · obtain rfl : i2_ = 24 := by omega
      refine Holds.exit ?_
      refine Holds.seq ?_
      refine Holds.reg ?_
      refine OpsFrom.v (Y.ia0 (i := 16) ty78 ty3 (up0 rfl rfl rfl) rfl rfl rfl (by first | (with_reducible assumption) | omega | (simp only [lens, rcarried_len, rmodulo_it1_l, rmodulo_it2_l, *]; first | done | omega) | decide | (split <;> simp only [lens, rcarried_len, rmodulo_it1_l, rmodulo_it2_l, *]) | (with_reducible exact Lt.mono (by assumption) (by decide)))) rfl ?_
      refine OpsFrom.v (Y.ldI ty3 rfl (up0 rfl rfl rfl) rfl rfl rfl (by first | (with_reducible assumption) | omega | (simp only [lens, rcarried_len, rmodulo_it1_l, rmodulo_it2_l, *]; first | done | omega) | decide | (split <;> simp only [lens, rcarried_len, rmodulo_it1_l, rmodulo_it2_l, *]) | (with_reducible exact Lt.mono (by assumption) (by decide)))) rfl ?_
      refine OpsFrom.v (Y.rem (b := 4) (up0 rfl rfl rfl) rfl rfl rfl (by decide)) rfl ?_
      refine OpsFrom.v (Y.ia0 (i := 16) ty78 ty3 (up0 rfl rfl rfl) rfl rfl rfl (by first | (with_reducible assumption) | omega | (simp only [lens, rcarried_len, rmodulo_it1_l, rmodulo_it2_l, *]; first | done | omega) | decide | (split <;> simp only [lens, rcarried_len, rmodulo_it1_l, rmodulo_it2_l, *]) | (with_reducible exact Lt.mono (by assumption) (by decide)))) rfl ?_
      refine OpsFrom.n (Y.stI ty3 (upN rfl rfl) rfl rfl rfl rfl (by first | (with_reducible assumption) | omega | (simp only [lens, rcarried_len, rmodulo_it1_l, rmodulo_it2_l, *]; first | done | omega) | decide | (split <;> simp only [lens, rcarried_len, rmodulo_it1_l, rmodulo_it2_l, *]) | (with_reducible exact Lt.mono (by assumption) (by decide)))) rfl rfl ?_
      refine OpsFrom.nil ?_
      refine Holds.seq ?_
      refine Holds.seq ?_
      refine Holds.reg ?_
      refine OpsFrom.v (Y.assign (v := (.one (.n .i64 17))) (up0 rfl rfl rfl) rfl rfl) rfl ?_
      refine OpsFrom.nil ?_
      refine Holds.block ?_
      refine Holds.loop (fun (i3_ : Nat) => ⟨[(1, .one (.p 1 0)), (2, .one (.p 2 0)), (3, .one (.n .i64 i1_)), (12, .one (.n .i64 i1_)), (13, .one (.b (decide (i1_ < 4)))), (16, .row (.ints .i64 (List.replicate 40 0))), (4, .one (.p 4 0)), (5, .one (.n .i64 (16 + 24))), (17, .one (.n .i64 (16 + 24))), (18, .one (.b (decide ((16 + 24) < 40)))), (39, .one (.p 1 16)), (40, .one (.n .i64 ((rmodulo_it1 n i1_).getD 16 0))), (41, .one (.n .i64 (((rmodulo_it1 n i1_).getD 16 0) % 4))), (42, .one (.p 1 16)), (7, .one (.n .i64 (17 + i3_)))], [(1, .own (.ints .i64 (rmodulo_it3 (rmodulo_it1 n i1_) i3_))), (2, .own (.ints .i64 (List.replicate 40 0))), (4, .own (.ints .i64 (rmodulo_it2 (rmodulo_it1 n i1_) 24)))]⟩) (fun (i3_ : Nat) => i3_ ≤ 23) (fun (i3_ : Nat) => 23 - i3_) 0 (by first | (with_reducible assumption) | omega | (simp only [lens, rcarried_len, rmodulo_it1_l, rmodulo_it2_l, rmodulo_it3_l, *]; first | done | omega) | decide | (split <;> simp only [lens, rcarried_len, rmodulo_it1_l, rmodulo_it2_l, rmodulo_it3_l, *]) | (with_reducible exact Lt.mono (by assumption) (by decide))) [] ⟨⟨rfl, rfl, rfl, rfl, rfl, rfl, rfl, rfl, rfl, rfl, rfl, rfl, rfl, rfl, rfl, trivial⟩, ⟨(hEq (congrArg (fun (s : List Nat) => s) (rmodulo_it3_z (rmodulo_it1 n i1_))).symm), rfl, rfl, trivial⟩, rfl, rfl⟩ ?_
      intro i3_ k3_
      refine Holds.seq ?_
      refine Holds.seq ?_
      refine Holds.reg ?_
      refine OpsFrom.v (Y.move (up0 rfl rfl rfl) rfl rfl) rfl ?_
      refine OpsFrom.v (Y.lss (b := 40) (up0 rfl rfl rfl) rfl rfl rfl) rfl ?_
      refine OpsFrom.nil ?_
      refine Holds.condD rfl (fun h44 => ?_) (fun h44 => ?_)
      · refine Holds.skip ?_
        refine Holds.seq ?_
        refine Holds.block ?_
        refine Holds.reg ?_
        refine OpsFrom.v (Y.move (up0 rfl rfl rfl) rfl rfl) rfl ?_
        refine OpsFrom.v (Y.ia0 ty78 ty3 (up0 rfl rfl rfl) rfl rfl rfl (by first | (with_reducible assumption) | omega | (simp only [lens, rcarried_len, rmodulo_it1_l, rmodulo_it2_l, rmodulo_it3_l, *]; first | done | omega) | decide | (split <;> simp only [lens, rcarried_len, rmodulo_it1_l, rmodulo_it2_l, rmodulo_it3_l, *]) | (with_reducible exact Lt.mono (by assumption) (by decide)))) rfl ?_
        refine OpsFrom.n (Y.stI ty3 (upN rfl rfl) rfl rfl rfl rfl (by first | (with_reducible assumption) | omega | (simp only [lens, rcarried_len, rmodulo_it1_l, rmodulo_it2_l, rmodulo_it3_l, *]; first | done | omega) | decide | (split <;> simp only [lens, rcarried_len, rmodulo_it1_l, rmodulo_it2_l, rmodulo_it3_l, *]) | (with_reducible exact Lt.mono (by assumption) (by decide)))) rfl rfl ?_
        refine OpsFrom.nil ?_
        refine Holds.reg ?_
        refine OpsFrom.v (Y.move (up0 rfl rfl rfl) rfl rfl) rfl ?_
        refine OpsFrom.v (Y.addI (b := 1) (up0 rfl rfl rfl) rfl rfl rfl (by first | (with_reducible assumption) | omega | (simp only [lens, rcarried_len, rmodulo_it1_l, rmodulo_it2_l, rmodulo_it3_l, *]; first | done | omega) | decide | (split <;> simp only [lens, rcarried_len, rmodulo_it1_l, rmodulo_it2_l, rmodulo_it3_l, *]) | (with_reducible exact Lt.mono (by assumption) (by decide)))) rfl ?_
        refine OpsFrom.v (Y.assign (up0 rfl rfl rfl) rfl rfl) rfl ?_
        refine OpsFrom.nil ?_
        exact Holds.again (i3_ + 1) (by omega) (by omega) [] ⟨⟨rfl, rfl, rfl, rfl, rfl, rfl, rfl, rfl, rfl, rfl, rfl, rfl, rfl, rfl, (nEq (by omega)), trivial⟩, ⟨(hEq (by rw [rmodulo_it3_s]; unfold rmodulo_s3; first | (dsimp only; done) | rfl)), rfl, rfl, trivial⟩, rfl, rfl⟩
      · obtain rfl : i3_ = 23 := by omega
        refine Holds.exit ?_
        refine Holds.seq ?_
        refine Holds.seq ?_
        refine Holds.reg ?_
        refine OpsFrom.v (Y.assign (v := (.one (.n .i64 0))) (up0 rfl rfl rfl) rfl rfl) rfl ?_
        refine OpsFrom.nil ?_
        refine Holds.block ?_
        refine Holds.loop (fun (i4_ : Nat) => ⟨[(1, .one (.p 1 0)), (2, .one (.p 2 0)), (3, .one (.n .i64 i1_)), (12, .one (.n .i64 i1_)), (13, .one (.b (decide (i1_ < 4)))), (16, .row (.ints .i64 (List.replicate 40 0))), (4, .one (.p 4 0)), (5, .one (.n .i64 (16 + 24))), (17, .one (.n .i64 (16 + 24))), (18, .one (.b (decide ((16 + 24) < 40)))), (39, .one (.p 1 16)), (40, .one (.n .i64 ((rmodulo_it1 n i1_).getD 16 0))), (41, .one (.n .i64 (((rmodulo_it1 n i1_).getD 16 0) % 4))), (42, .one (.p 1 16)), (7, .one (.n .i64 (17 + 23))), (43, .one (.n .i64 (17 + 23))), (44, .one (.b (decide ((17 + 23) < 40)))), (8, .one (.n .i64 i4_))], [(1, .own (.ints .i64 (rmodulo_it4 (rmodulo_it1 n i1_) i4_))), (2, .own (.ints .i64 (List.replicate 40 0))), (4, .own (.ints .i64 (rmodulo_it2 (rmodulo_it1 n i1_) 24)))]⟩) (fun (i4_ : Nat) => i4_ ≤ 40) (fun (i4_ : Nat) => 40 - i4_) 0 (by first | (with_reducible assumption) | omega | (simp only [lens, rcarried_len, rmodulo_it1_l, rmodulo_it2_l, rmodulo_it3_l, rmodulo_it4_l, *]; first | done | omega) | decide | (split <;> simp only [lens, rcarried_len, rmodulo_it1_l, rmodulo_it2_l, rmodulo_it3_l, rmodulo_it4_l, *]) | (with_reducible exact Lt.mono (by assumption) (by decide))) [] ⟨⟨rfl, rfl, rfl, rfl, rfl, rfl, rfl, rfl, rfl, rfl, rfl, rfl, rfl, rfl, rfl, rfl, rfl, rfl, trivial⟩, ⟨(hEq (congrArg (fun (s : List Nat) => s) (rmodulo_it4_z (rmodulo_it1 n i1_))).symm), rfl, rfl, trivial⟩, rfl, rfl⟩ ?_
        intro i4_ k4_
        have hb4 := rmodulo_b4 hm i4_
        have hb5 := hb4.2 i4_ (Nat.le_refl _)
        have hb6 := rmodulo_b2 hm 24 i4_
        refine Holds.seq ?_
        refine Holds.seq ?_
        refine Holds.reg ?_
        refine OpsFrom.v (Y.move (up0 rfl rfl rfl) rfl rfl) rfl ?_
        refine OpsFrom.v (Y.lss (b := 40) (up0 rfl rfl rfl) rfl rfl rfl) rfl ?_
        refine OpsFrom.nil ?_
        refine Holds.condD rfl (fun h50 => ?_) (fun h50 => ?_)
        · refine Holds.skip ?_
          refine Holds.seq ?_
          refine Holds.block ?_
          refine Holds.dr mx [([53], [54, 55, 56, 57, 58, 59, 60, 61]), ([54], [53, 57, 58, 59, 60]), ([55], [53, 57, 58, 59, 60]), ([56], [53, 57, 58, 59, 60]), ([57], [53, 54, 55, 56]), ([58], [53, 54, 55, 56]), ([59], [53, 54, 55, 56]), ([60], [53, 54, 55, 56]), ([61], [53]), ([62], []), ([1], [])] (by kernel_rfl) ?_
          refine CertK.vd (Y.move (up0 rfl rfl rfl) rfl rfl) rfl rfl ?_
          refine CertK.vd (Y.move (up0 rfl rfl rfl) rfl rfl) rfl rfl ?_
          refine CertK.vd (Y.ia0 ty78 ty3 (up0 rfl rfl rfl) rfl rfl rfl (by first | (with_reducible assumption) | omega | (simp only [lens, rcarried_len, rmodulo_it1_l, rmodulo_it2_l, rmodulo_it3_l, rmodulo_it4_l, *]; first | done | omega) | decide | (split <;> simp only [lens, rcarried_len, rmodulo_it1_l, rmodulo_it2_l, rmodulo_it3_l, rmodulo_it4_l, *]) | (with_reducible exact Lt.mono (by assumption) (by decide)))) rfl rfl ?_
          refine CertK.vd (Y.ldI ty3 rfl (up0 rfl rfl rfl) rfl rfl rfl (by first | (with_reducible assumption) | omega | (simp only [lens, rcarried_len, rmodulo_it1_l, rmodulo_it2_l, rmodulo_it3_l, rmodulo_it4_l, *]; first | done | omega) | decide | (split <;> simp only [lens, rcarried_len, rmodulo_it1_l, rmodulo_it2_l, rmodulo_it3_l, rmodulo_it4_l, *]) | (with_reducible exact Lt.mono (by assumption) (by decide)))) rfl rfl ?_
          refine CertK.vd (Y.move (up0 rfl rfl rfl) rfl rfl) rfl rfl ?_
          refine CertK.vd (Y.ia0 ty78 ty3 (up0 rfl rfl rfl) rfl rfl rfl (by first | (with_reducible assumption) | omega | (simp only [lens, rcarried_len, rmodulo_it1_l, rmodulo_it2_l, rmodulo_it3_l, rmodulo_it4_l, *]; first | done | omega) | decide | (split <;> simp only [lens, rcarried_len, rmodulo_it1_l, rmodulo_it2_l, rmodulo_it3_l, rmodulo_it4_l, *]) | (with_reducible exact Lt.mono (by assumption) (by decide)))) rfl rfl ?_
          refine CertK.vd (Y.ldI ty3 rfl (up0 rfl rfl rfl) rfl rfl rfl (by first | (with_reducible assumption) | omega | (simp only [lens, rcarried_len, rmodulo_it1_l, rmodulo_it2_l, rmodulo_it3_l, rmodulo_it4_l, *]; first | done | omega) | decide | (split <;> simp only [lens, rcarried_len, rmodulo_it1_l, rmodulo_it2_l, rmodulo_it3_l, rmodulo_it4_l, *]) | (with_reducible exact Lt.mono (by assumption) (by decide)))) rfl rfl ?_
          refine CertK.vd (Y.mulI (a := 5) (up0 rfl rfl rfl) rfl rfl rfl (by first | (with_reducible assumption) | omega | (simp only [lens, rcarried_len, rmodulo_it1_l, rmodulo_it2_l, rmodulo_it3_l, rmodulo_it4_l, *]; first | done | omega) | decide | (split <;> simp only [lens, rcarried_len, rmodulo_it1_l, rmodulo_it2_l, rmodulo_it3_l, rmodulo_it4_l, *]) | (with_reducible exact Lt.mono (by assumption) (by decide)))) rfl rfl ?_
          refine CertK.vd (Y.addI (up0 rfl rfl rfl) rfl rfl rfl (by first | (with_reducible assumption) | omega | (simp only [lens, rcarried_len, rmodulo_it1_l, rmodulo_it2_l, rmodulo_it3_l, rmodulo_it4_l, *]; first | done | omega) | decide | (split <;> simp only [lens, rcarried_len, rmodulo_it1_l, rmodulo_it2_l, rmodulo_it3_l, rmodulo_it4_l, *]) | (with_reducible exact Lt.mono (by assumption) (by decide)))) rfl rfl ?_
          refine CertK.v (Y.ia0 ty78 ty3 (up0 rfl rfl rfl) rfl rfl rfl (by first | (with_reducible assumption) | omega | (simp only [lens, rcarried_len, rmodulo_it1_l, rmodulo_it2_l, rmodulo_it3_l, rmodulo_it4_l, *]; first | done | omega) | decide | (split <;> simp only [lens, rcarried_len, rmodulo_it1_l, rmodulo_it2_l, rmodulo_it3_l, rmodulo_it4_l, *]) | (with_reducible exact Lt.mono (by assumption) (by decide)))) rfl ?_
          refine CertK.n (Y.stI ty3 (upN rfl rfl) rfl rfl rfl rfl (by first | (with_reducible assumption) | omega | (simp only [lens, rcarried_len, rmodulo_it1_l, rmodulo_it2_l, rmodulo_it3_l, rmodulo_it4_l, *]; first | done | omega) | decide | (split <;> simp only [lens, rcarried_len, rmodulo_it1_l, rmodulo_it2_l, rmodulo_it3_l, rmodulo_it4_l, *]) | (with_reducible exact Lt.mono (by assumption) (by decide)))) rfl rfl rfl rfl ?_
          refine CertK.nil ?_
          refine Holds.reg ?_
          refine OpsFrom.v (Y.move (up0 rfl rfl rfl) rfl rfl) rfl ?_
          refine OpsFrom.v (Y.addI (b := 1) (up0 rfl rfl rfl) rfl rfl rfl (by first | (with_reducible assumption) | omega | (simp only [lens, rcarried_len, rmodulo_it1_l, rmodulo_it2_l, rmodulo_it3_l, rmodulo_it4_l, *]; first | done | omega) | decide | (split <;> simp only [lens, rcarried_len, rmodulo_it1_l, rmodulo_it2_l, rmodulo_it3_l, rmodulo_it4_l, *]) | (with_reducible exact Lt.mono (by assumption) (by decide)))) rfl ?_
          refine OpsFrom.v (Y.assign (up0 rfl rfl rfl) rfl rfl) rfl ?_
          refine OpsFrom.nil ?_
          exact Holds.again (i4_ + 1) (by omega) (by omega) [] ⟨⟨rfl, rfl, rfl, rfl, rfl, rfl, rfl, rfl, rfl, rfl, rfl, rfl, rfl, rfl, rfl, rfl, rfl, (nEq (by omega)), trivial⟩, ⟨(hEq (by rw [rmodulo_it4_s]; unfold rmodulo_s4; first | (dsimp only; done) | rfl)), rfl, rfl, trivial⟩, rfl, rfl⟩
        · obtain rfl : i4_ = 40 := by omega
          have hb4 := (rmodulo_b4 hm 40).1
          refine Holds.exit ?_
          refine Holds.reg ?_
          refine OpsFrom.v (Y.ldAll ty78 rfl (up0 rfl rfl rfl) rfl rfl rfl (by first | (with_reducible assumption) | omega | (simp only [lens, rcarried_len, rmodulo_it1_l, rmodulo_it2_l, rmodulo_it3_l, rmodulo_it4_l, *]; first | done | omega) | decide | (split <;> simp only [lens, rcarried_len, rmodulo_it1_l, rmodulo_it2_l, rmodulo_it3_l, rmodulo_it4_l, *]) | (with_reducible exact Lt.mono (by assumption) (by decide))) (by decide)) rfl ?_
          refine OpsFrom.v (Y.callV (w_rcarried _ (by first | (with_reducible assumption) | omega | (simp only [lens, rcarried_len, rmodulo_it1_l, rmodulo_it2_l, rmodulo_it3_l, rmodulo_it4_l, *]; first | done | omega) | decide | (split <;> simp only [lens, rcarried_len, rmodulo_it1_l, rmodulo_it2_l, rmodulo_it3_l, rmodulo_it4_l, *]) | (with_reducible exact Lt.mono (by assumption) (by decide))) (hb4.mono (by decide))) fnok60 (up0 rfl rfl rfl) rfl rfl (.cons _ _ _ _ rfl .nil) (.cons _ _ _ _ (.same _) .nil) rfl rfl) rfl ?_
          refine OpsFrom.n (Y.stR ty78 (upN rfl rfl) rfl rfl rfl rfl rfl (by first | (with_reducible assumption) | omega | (simp only [lens, rcarried_len, rmodulo_it1_l, rmodulo_it2_l, rmodulo_it3_l, rmodulo_it4_l, *]; first | done | omega) | decide | (split <;> simp only [lens, rcarried_len, rmodulo_it1_l, rmodulo_it2_l, rmodulo_it3_l, rmodulo_it4_l, *]) | (with_reducible exact Lt.mono (by assumption) (by decide))) (by first | (with_reducible assumption) | omega | (simp only [lens, rcarried_len, rmodulo_it1_l, rmodulo_it2_l, rmodulo_it3_l, rmodulo_it4_l, *]; first | done | omega) | decide | (split <;> simp only [lens, rcarried_len, rmodulo_it1_l, rmodulo_it2_l, rmodulo_it3_l, rmodulo_it4_l, *]) | (with_reducible exact Lt.mono (by assumption) (by decide))) (by decide)) rfl rfl ?_
          refine OpsFrom.nil ?_
          refine Holds.reg ?_
          refine OpsFrom.v (Y.move (up0 rfl rfl rfl) rfl rfl) rfl ?_
          refine OpsFrom.v (Y.addI (b := 1) (up0 rfl rfl rfl) rfl rfl rfl (by first | (with_reducible assumption) | omega | (simp only [lens, rcarried_len, rmodulo_it1_l, rmodulo_it2_l, rmodulo_it3_l, rmodulo_it4_l, *]; first | done | omega) | decide | (split <;> simp only [lens, rcarried_len, rmodulo_it1_l, rmodulo_it2_l, rmodulo_it3_l, rmodulo_it4_l, *]) | (with_reducible exact Lt.mono (by assumption) (by decide)))) rfl ?_
          refine OpsFrom.v (Y.assign (up0 rfl rfl rfl) rfl rfl) rfl ?_
          refine OpsFrom.nil ?_
          exact Holds.again (i1_ + 1) (by omega) (by omega) [] ⟨⟨rfl, rfl, (nEq (by omega)), trivial⟩, ⟨(hEq (by rw [rmodulo_it1_s]; unfold rmodulo_s1; first | (dsimp only; done) | rfl)), rfl, trivial⟩, rfl, rfl⟩
  · obtain rfl : i1_ = 4 := by omega
    have hbz := rmodulo_b l_n b_n 4
    have hbz0 := hbz 0
    refine Holds.exit ?_
    refine Holds.seq ?_
    refine Holds.reg ?_
    refine OpsFrom.v (Y.ldAll ty78 rfl (up0 rfl rfl rfl) rfl rfl rfl (by first | (with_reducible assumption) | omega | (simp only [lens, rcarried_len, rmodulo_it1_l, *]; first | done | omega) | decide | (split <;> simp only [lens, rcarried_len, rmodulo_it1_l, *]) | (with_reducible exact Lt.mono (by assumption) (by decide))) (by decide)) rfl ?_
    refine OpsFrom.u (Y.alloc (d := 9) ty78 rfl rfl (up0 rfl rfl rfl) rfl) rfl rfl rfl ?_
    refine OpsFrom.n (Y.stR ty78 (upN rfl rfl) rfl rfl rfl rfl rfl (by first | (with_reducible assumption) | omega | (simp only [lens, rcarried_len, rmodulo_it1_l, *]; first | done | omega) | decide | (split <;> simp only [lens, rcarried_len, rmodulo_it1_l, *]) | (with_reducible exact Lt.mono (by assumption) (by decide))) (by first | (with_reducible assumption) | omega | (simp only [lens, rcarried_len, rmodulo_it1_l, *]; first | done | omega) | decide | (split <;> simp only [lens, rcarried_len, rmodulo_it1_l, *]) | (with_reducible exact Lt.mono (by assumption) (by decide))) (by decide)) rfl rfl ?_
    refine OpsFrom.nil ?_
    refine Holds.seq ?_
    refine Holds.reg ?_
    refine OpsFrom.v (Y.ia0 (i := 0) ty78 ty3 (up0 rfl rfl rfl) rfl rfl rfl (by first | (with_reducible assumption) | omega | (simp only [lens, rcarried_len, rmodulo_it1_l, *]; first | done | omega) | decide | (split <;> simp only [lens, rcarried_len, rmodulo_it1_l, *]) | (with_reducible exact Lt.mono (by assumption) (by decide)))) rfl ?_
    refine OpsFrom.v (Y.ldI ty3 rfl (up0 rfl rfl rfl) rfl rfl rfl (by first | (with_reducible assumption) | omega | (simp only [lens, rcarried_len, rmodulo_it1_l, *]; first | done | omega) | decide | (split <;> simp only [lens, rcarried_len, rmodulo_it1_l, *]) | (with_reducible exact Lt.mono (by assumption) (by decide)))) rfl ?_
    refine OpsFrom.v (Y.addI (b := 5) (up0 rfl rfl rfl) rfl rfl rfl (by first | (with_reducible assumption) | omega | (simp only [lens, rcarried_len, rmodulo_it1_l, *]; first | done | omega) | decide | (split <;> simp only [lens, rcarried_len, rmodulo_it1_l, *]) | (with_reducible exact Lt.mono (by assumption) (by decide)))) rfl ?_
    refine OpsFrom.v (Y.ia0 (i := 0) ty78 ty3 (up0 rfl rfl rfl) rfl rfl rfl (by first | (with_reducible assumption) | omega | (simp only [lens, rcarried_len, rmodulo_it1_l, *]; first | done | omega) | decide | (split <;> simp only [lens, rcarried_len, rmodulo_it1_l, *]) | (with_reducible exact Lt.mono (by assumption) (by decide)))) rfl ?_
    refine OpsFrom.n (Y.stI ty3 (upN rfl rfl) rfl rfl rfl rfl (by first | (with_reducible assumption) | omega | (simp only [lens, rcarried_len, rmodulo_it1_l, *]; first | done | omega) | decide | (split <;> simp only [lens, rcarried_len, rmodulo_it1_l, *]) | (with_reducible exact Lt.mono (by assumption) (by decide)))) rfl rfl ?_
    refine OpsFrom.nil ?_
    refine Holds.seq ?_
    refine Holds.reg ?_
    refine OpsFrom.v (Y.ldAll ty78 rfl (up0 rfl rfl rfl) rfl rfl rfl (by first | (with_reducible assumption) | omega | (simp only [lens, rcarried_len, rmodulo_it1_l, *]; first | done | omega) | decide | (split <;> simp only [lens, rcarried_len, rmodulo_it1_l, *]) | (with_reducible exact Lt.mono (by assumption) (by decide))) (by decide)) rfl ?_
    refine OpsFrom.v (Y.callV (w_rcarried _ (by first | (with_reducible assumption) | omega | (simp only [lens, rcarried_len, rmodulo_it1_l, *]; first | done | omega) | decide | (split <;> simp only [lens, rcarried_len, rmodulo_it1_l, *]) | (with_reducible exact Lt.mono (by assumption) (by decide))) (rmodulo_more (rmodulo_b l_n b_n 4))) fnok60 (up0 rfl rfl rfl) rfl rfl (.cons _ _ _ _ rfl .nil) (.cons _ _ _ _ (.same _) .nil) rfl rfl) rfl ?_
    refine OpsFrom.n (Y.stR ty78 (upN rfl rfl) rfl rfl rfl rfl rfl (by first | (with_reducible assumption) | omega | (simp only [lens, rcarried_len, rmodulo_it1_l, *]; first | done | omega) | decide | (split <;> simp only [lens, rcarried_len, rmodulo_it1_l, *]) | (with_reducible exact Lt.mono (by assumption) (by decide))) (by first | (with_reducible assumption) | omega | (simp only [lens, rcarried_len, rmodulo_it1_l, *]; first | done | omega) | decide | (split <;> simp only [lens, rcarried_len, rmodulo_it1_l, *]) | (with_reducible exact Lt.mono (by assumption) (by decide))) (by decide)) rfl rfl ?_
    refine OpsFrom.nil ?_
    refine Holds.seq ?_
    refine Holds.seq ?_
    refine Holds.reg ?_
    refine OpsFrom.v (Y.ia0 (i := 16) ty78 ty3 (up0 rfl rfl rfl) rfl rfl rfl (by first | (with_reducible assumption) | omega | (simp only [lens, rcarried_len, rmodulo_it1_l, *]; first | done | omega) | decide | (split <;> simp only [lens, rcarried_len, rmodulo_it1_l, *]) | (with_reducible exact Lt.mono (by assumption) (by decide)))) rfl ?_
    refine OpsFrom.v (Y.ldI ty3 rfl (up0 rfl rfl rfl) rfl rfl rfl (by first | (with_reducible assumption) | omega | (simp only [lens, rcarried_len, rmodulo_it1_l, *]; first | done | omega) | decide | (split <;> simp only [lens, rcarried_len, rmodulo_it1_l, *]) | (with_reducible exact Lt.mono (by assumption) (by decide)))) rfl ?_
    refine OpsFrom.v (Y.geq (b := 4) (up0 rfl rfl rfl) rfl rfl rfl) rfl ?_
    refine OpsFrom.nil ?_
    refine Holds.condD rfl (fun h74 => ?_) (fun h74 => ?_)
    · have hq := rcarried_lt (n := (rmodulo_it1 n 4).set 0 ((rmodulo_it1 n 4).getD 0 0 + 5)) (by simp [rmodulo_it1_l, rcarried_len, l_n]) 16
      refine Holds.seq ?_
      refine Holds.reg ?_
      refine OpsFrom.v (Y.ia0 (i := 16) ty78 ty3 (up0 rfl rfl rfl) rfl rfl rfl (by first | (with_reducible assumption) | omega | (simp only [lens, rcarried_len, rmodulo_it1_l, *]; first | done | omega) | decide | (split <;> simp only [lens, rcarried_len, rmodulo_it1_l, *]) | (with_reducible exact Lt.mono (by assumption) (by decide)))) rfl ?_
      refine OpsFrom.v (Y.ldI ty3 rfl (up0 rfl rfl rfl) rfl rfl rfl (by first | (with_reducible assumption) | omega | (simp only [lens, rcarried_len, rmodulo_it1_l, *]; first | done | omega) | decide | (split <;> simp only [lens, rcarried_len, rmodulo_it1_l, *]) | (with_reducible exact Lt.mono (by assumption) (by decide)))) rfl ?_
      refine OpsFrom.v (Y.subI (b := 4) (up0 rfl rfl rfl) rfl rfl rfl (by first | (with_reducible assumption) | omega | (simp only [lens, rcarried_len, rmodulo_it1_l, *]; first | done | omega) | decide | (split <;> simp only [lens, rcarried_len, rmodulo_it1_l, *]) | (with_reducible exact Lt.mono (by assumption) (by decide))) (by first | (with_reducible assumption) | omega | (simp only [lens, rcarried_len, rmodulo_it1_l, *]; first | done | omega) | decide | (split <;> simp only [lens, rcarried_len, rmodulo_it1_l, *]) | (with_reducible exact Lt.mono (by assumption) (by decide)))) rfl ?_
      refine OpsFrom.v (Y.ia0 (i := 16) ty78 ty3 (up0 rfl rfl rfl) rfl rfl rfl (by first | (with_reducible assumption) | omega | (simp only [lens, rcarried_len, rmodulo_it1_l, *]; first | done | omega) | decide | (split <;> simp only [lens, rcarried_len, rmodulo_it1_l, *]) | (with_reducible exact Lt.mono (by assumption) (by decide)))) rfl ?_
      refine OpsFrom.n (Y.stI ty3 (upN rfl rfl) rfl rfl rfl rfl (by first | (with_reducible assumption) | omega | (simp only [lens, rcarried_len, rmodulo_it1_l, *]; first | done | omega) | decide | (split <;> simp only [lens, rcarried_len, rmodulo_it1_l, *]) | (with_reducible exact Lt.mono (by assumption) (by decide)))) rfl rfl ?_
      refine OpsFrom.nil ?_
      refine Holds.seq ?_
      refine Holds.reg ?_
      refine OpsFrom.v (Y.ldAll ty78 rfl (up0 rfl rfl rfl) rfl rfl rfl (by first | (with_reducible assumption) | omega | (simp only [lens, rcarried_len, rmodulo_it1_l, *]; first | done | omega) | decide | (split <;> simp only [lens, rcarried_len, rmodulo_it1_l, *]) | (with_reducible exact Lt.mono (by assumption) (by decide))) (by decide)) rfl ?_
      refine OpsFrom.n (Y.stR ty78 (upN rfl rfl) rfl rfl rfl rfl rfl (by first | (with_reducible assumption) | omega | (simp only [lens, rcarried_len, rmodulo_it1_l, *]; first | done | omega) | decide | (split <;> simp only [lens, rcarried_len, rmodulo_it1_l, *]) | (with_reducible exact Lt.mono (by assumption) (by decide))) (by first | (with_reducible assumption) | omega | (simp only [lens, rcarried_len, rmodulo_it1_l, *]; first | done | omega) | decide | (split <;> simp only [lens, rcarried_len, rmodulo_it1_l, *]) | (with_reducible exact Lt.mono (by assumption) (by decide))) (by decide)) rfl rfl ?_
      refine OpsFrom.nil ?_
      refine Holds.ret ?_
      exact Holds.ret1 (.inl rfl) rfl (.rowN rfl rfl ty78 rfl (by first | (with_reducible assumption) | omega | (simp only [lens, rcarried_len, rmodulo_it1_l, *]; first | done | omega) | decide | (split <;> simp only [lens, rcarried_len, rmodulo_it1_l, *]) | (with_reducible exact Lt.mono (by assumption) (by decide))) (by decide)) (View.cg (congrArg (fun z => (.row (.ints .i64 z) : AV)) (show (rmodulo n) = _ from (by unfold rmodulo; exact (if_pos h74)))) (.same _)) rfl
    · refine Holds.skip ?_
      refine Holds.seq ?_
      refine Holds.reg ?_
      refine OpsFrom.v (Y.ldAll ty78 rfl (up0 rfl rfl rfl) rfl rfl rfl (by first | (with_reducible assumption) | omega | (simp only [lens, rcarried_len, rmodulo_it1_l, *]; first | done | omega) | decide | (split <;> simp only [lens, rcarried_len, rmodulo_it1_l, *]) | (with_reducible exact Lt.mono (by assumption) (by decide))) (by decide)) rfl ?_
      refine OpsFrom.n (Y.stR ty78 (upN rfl rfl) rfl rfl rfl rfl rfl (by first | (with_reducible assumption) | omega | (simp only [lens, rcarried_len, rmodulo_it1_l, *]; first | done | omega) | decide | (split <;> simp only [lens, rcarried_len, rmodulo_it1_l, *]) | (with_reducible exact Lt.mono (by assumption) (by decide))) (by first | (with_reducible assumption) | omega | (simp only [lens, rcarried_len, rmodulo_it1_l, *]; first | done | omega) | decide | (split <;> simp only [lens, rcarried_len, rmodulo_it1_l, *]) | (with_reducible exact Lt.mono (by assumption) (by decide))) (by decide)) rfl rfl ?_
      refine OpsFrom.nil ?_
      refine Holds.ret ?_
      exact Holds.ret1 (.inl rfl) rfl (.rowN rfl rfl ty78 rfl (by first | (with_reducible assumption) | omega | (simp only [lens, rcarried_len, rmodulo_it1_l, *]; first | done | omega) | decide | (split <;> simp only [lens, rcarried_len, rmodulo_it1_l, *]) | (with_reducible exact Lt.mono (by assumption) (by decide))) (by decide)) (View.cg (congrArg (fun z => (.row (.ints .i64 z) : AV)) (show (rmodulo n) = _ from (by unfold rmodulo; exact (if_neg h74)))) (.same _)) rfl


end Go.Proofs.Ytkpelchcpiafaaa
