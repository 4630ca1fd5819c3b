/-
  Rules: a block of integers seen shorter; a slot's value put another way; the greater of two numbers that could be below 0; the document's answer.
-/
import Derived.Test.YtjgcmfedofmkpaaSl
namespace Go.Proofs.Ytjgcmfedofmkpaa
open Go Go.Fx
open Go.RowKit (Below)
set_option linter.unusedVariables false
set_option linter.unusedSimpArgs false
theorem Holds.castV {cx : Cx} {S : Ls} {G : Act → World → Prop} (t : Nat) {v v' : AV} (ht : lk t S.fr = some v) (e : v = v') (h : Holds cx ⟨(t, v') :: S.fr, S.hp⟩ G) : Holds cx S G := by
  intro ρ A a w hs
  refine h ρ A a w ⟨hs.df, hs.sz, ?_, hs.hp, hs.sep, hs.A1, hs.O, hs.fm, hs.E⟩
  intro s u hv
  simp only [Ls.F, lk] at hv
  split at hv
  · rename_i he
    subst he
    subst e
    cases hv
    exact hs.fr s _ ht
  · exact hs.fr s u hv
theorem Holds.takeB {cx : Cx} {S : Ls} {G : Act → World → Prop} (d m : Nat) {k : IntKind} {xs : List Nat} (hb : lk d S.hp = some (.own (.ints k xs))) (h : Holds cx ⟨S.fr, (d, .own (.ints k (xs.take m))) :: S.hp⟩ G) : Holds cx S G := by
  intro ρ A a w hs
  have look : ∀ i b, lk i ((d, Bk.own (.ints k (xs.take m))) :: S.hp) = some b → (i = d ∧ b = .own (.ints k (xs.take m))) ∨ S.H i = some b := by
    intro i b hi
    simp only [lk] at hi
    split at hi
    · rename_i he; cases hi; exact .inl ⟨he, rfl⟩
    · exact .inr hi
  have live : ∀ i b, lk i ((d, Bk.own (.ints k (xs.take m))) :: S.hp) = some b → b.live → ∃ b', S.H i = some b' ∧ b'.live := by
    intro i b hi hl
    rcases look i b hi with ⟨rfl, rfl⟩ | h'
    · exact ⟨_, hb, trivial⟩
    · exact ⟨_, h', hl⟩
  refine h ρ A a w ⟨hs.df, hs.sz, hs.fr, ?_, ?_, hs.A1, hs.O, hs.fm, hs.E⟩
  · intro i b hi
    rcases look i b hi with ⟨rfl, rfl⟩ | h'
    · obtain ⟨g1, g2⟩ := hs.hp _ _ hb
      simp only [Cs.len] at g1
      refine ⟨by simp only [Cs.len, List.length_take]; omega, ?_⟩
      rcases g2 with g2 | ⟨k1, k2, k3, k4, cs, T, fz, k5, k6, k7, k8⟩
      · exact .inl g2
      · refine .inr ⟨k1, k2, k3, k4, cs, T, fz, k5, k6, k7, fun j hj => ?_⟩
        simp only [Cs.len, List.length_take] at hj
        obtain ⟨u, hu, hr⟩ := k8 j (by simp only [Cs.len]; omega)
        refine ⟨u, hu, ?_⟩
        simp only [Cs.at] at hr ⊢
        rw [show (xs.take m).getD j 0 = xs.getD j 0 by simp only [List.getD_eq_getElem?_getD, List.getElem?_take, show j < m by omega, if_true]]
        exact hr
    · exact hs.hp _ _ h'
  · intro i j bi bj hi hj li lj hne
    obtain ⟨bi', hi', li'⟩ := live i bi hi li
    obtain ⟨bj', hj', lj'⟩ := live j bj hj lj
    exact hs.sep i j bi' bj' hi' hj' li' lj' hne
section
variable {cx : Cx} {ops : Array Oper} {o : Oper} {F : Nat → Option AV} {H : Nat → Option Bk}
theorem Y.maxZ {s t : SV} {a b : Int} {x y : Operand} {ats : Array TypeId} (hu : Up cx ops F o) (ho : o.op = .call { callee := .builtin .max, args := #[x, y], argTypes := ats }) (hx : evF F x = some (.one s)) (hs : s.int? = some a) (hy : evF F y = some (.one t)) (ht : t.int? = some b) :
    Doing cx ops o F H ⟨.one (.z (if b > a then b else a)), [], []⟩ :=
  Doing.val hu fun ρ A act w hst => by
    have h1 := SV.int_rel hs (ev_rel hst hx)
    have h2 := SV.int_rel ht (ev_rel hst hy)
    refine ⟨.int .i64 (if b > a then b else a), ?_, rfl⟩
    simp [execOp, ho, resolve, invoke, builtin, Builtin.max_, Builtin.max2, h1, h2]
end
theorem VF.n3 {P : Program} {f : Nat} {a b res : AV} {x : Nat} {k : IntKind} {xs : List Nat} (h : VF P f [a, b, .one (.z ((x : Nat) : Int))] res k xs) : VF P f [a, b, .one (.n .i64 x)] res k xs := by
  intro O w vs hO hr
  refine h O w vs hO ?_
  match vs, hr with
  | [u0, u1, u2], ⟨h0, h1, h2, h3⟩ => exact ⟨h0, h1, h2.1, h3⟩
end Go.Proofs.Ytjgcmfedofmkpaa
