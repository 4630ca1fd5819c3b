/-
  Walks: products.
-/
import Derived.Test.YtnfiiclmbiiokaaWb
namespace Go.Proofs.Ytnfiiclmbiiokaa
open Go Go.Fx
set_option linter.unusedVariables false
set_option linter.unusedSimpArgs false
theorem m64_lo (x : Nat) : x &&& 4294967295 = x % 4294967296 := Nat.and_two_pow_sub_one_eq_mod x 32
def mulHi (x y : Nat) : Nat :=
  let x0 := x &&& 4294967295
  let x1 := x / 2 ^ 32
  let y0 := y &&& 4294967295
  let y1 := y / 2 ^ 32
  let w0 := x0 * y0 % 18446744073709551616
  let t := (x1 * y0 % 18446744073709551616 + w0 / 2 ^ 32) % 18446744073709551616
  let w1 := ((t &&& 4294967295) + x0 * y1 % 18446744073709551616) % 18446744073709551616
  ((x1 * y1 % 18446744073709551616 + t / 2 ^ 32) % 18446744073709551616 + w1 / 2 ^ 32) % 18446744073709551616
theorem w50 (x y : Nat) : VC Try.prog 50 [.one (.n .u64 x), .one (.n .u64 y)] (.two (.one (.n .u64 (mulHi x y))) (.one (.n .u64 (x * y % 18446744073709551616)))) := by
  refine VC.go Try.func50 rfl Try.ntmps50 rfl rfl fun O w => ?_
  refine Holds.seq ?_
  refine Holds.reg ?_
  refine OpsFrom.v (Y.assign (v := (.one (.n .u64 0))) (up0 rfl rfl rfl) rfl rfl) rfl ?_
  refine OpsFrom.v (Y.assign (v := (.one (.n .u64 0))) (up0 rfl rfl rfl) rfl rfl) rfl ?_
  refine OpsFrom.nil ?_
  refine Holds.seq ?_
  refine Holds.reg ?_
  refine OpsFrom.v (Y.move (up0 rfl rfl rfl) rfl rfl) rfl ?_
  refine OpsFrom.v (Y.and (b := 4294967295) u64s u64m (up0 rfl rfl rfl) rfl rfl rfl) rfl ?_
  refine OpsFrom.v (Y.assign (up0 rfl rfl rfl) rfl rfl) rfl ?_
  refine OpsFrom.nil ?_
  refine Holds.seq ?_
  refine Holds.reg ?_
  refine OpsFrom.v (Y.move (up0 rfl rfl rfl) rfl rfl) rfl ?_
  refine OpsFrom.v (Y.shr (b := 32) u64s u64m (up0 rfl rfl rfl) rfl rfl rfl) rfl ?_
  refine OpsFrom.v (Y.assign (up0 rfl rfl rfl) rfl rfl) rfl ?_
  refine OpsFrom.nil ?_
  refine Holds.seq ?_
  refine Holds.reg ?_
  refine OpsFrom.v (Y.move (up0 rfl rfl rfl) rfl rfl) rfl ?_
  refine OpsFrom.v (Y.and (b := 4294967295) u64s u64m (up0 rfl rfl rfl) rfl rfl rfl) rfl ?_
  refine OpsFrom.v (Y.assign (up0 rfl rfl rfl) rfl rfl) rfl ?_
  refine OpsFrom.nil ?_
  refine Holds.seq ?_
  refine Holds.reg ?_
  refine OpsFrom.v (Y.move (up0 rfl rfl rfl) rfl rfl) rfl ?_
  refine OpsFrom.v (Y.shr (b := 32) u64s u64m (up0 rfl rfl rfl) rfl rfl rfl) rfl ?_
  refine OpsFrom.v (Y.assign (up0 rfl rfl rfl) rfl rfl) rfl ?_
  refine OpsFrom.nil ?_
  refine Holds.seq ?_
  refine Holds.reg ?_
  refine OpsFrom.v (Y.move (up0 rfl rfl rfl) rfl rfl) rfl ?_
  refine OpsFrom.v (Y.move (up0 rfl rfl rfl) rfl rfl) rfl ?_
  refine OpsFrom.v (Y.mul u64s u64m (up0 rfl rfl rfl) rfl rfl rfl) rfl ?_
  refine OpsFrom.v (Y.assign (up0 rfl rfl rfl) rfl rfl) rfl ?_
  refine OpsFrom.nil ?_
  refine Holds.seq ?_
  refine Holds.reg ?_
  refine OpsFrom.v (Y.move (up0 rfl rfl rfl) rfl rfl) rfl ?_
  refine OpsFrom.v (Y.move (up0 rfl rfl rfl) rfl rfl) rfl ?_
  refine OpsFrom.v (Y.mul u64s u64m (up0 rfl rfl rfl) rfl rfl rfl) rfl ?_
  refine OpsFrom.v (Y.move (up0 rfl rfl rfl) rfl rfl) rfl ?_
  refine OpsFrom.v (Y.shr (b := 32) u64s u64m (up0 rfl rfl rfl) rfl rfl rfl) rfl ?_
  refine OpsFrom.v (Y.add u64s u64m (up0 rfl rfl rfl) rfl rfl rfl) rfl ?_
  refine OpsFrom.v (Y.assign (up0 rfl rfl rfl) rfl rfl) rfl ?_
  refine OpsFrom.nil ?_
  refine Holds.seq ?_
  refine Holds.reg ?_
  refine OpsFrom.v (Y.move (up0 rfl rfl rfl) rfl rfl) rfl ?_
  refine OpsFrom.v (Y.and (b := 4294967295) u64s u64m (up0 rfl rfl rfl) rfl rfl rfl) rfl ?_
  refine OpsFrom.v (Y.assign (up0 rfl rfl rfl) rfl rfl) rfl ?_
  refine OpsFrom.nil ?_
  refine Holds.seq ?_
  refine Holds.reg ?_
  refine OpsFrom.v (Y.move (up0 rfl rfl rfl) rfl rfl) rfl ?_
  refine OpsFrom.v (Y.shr (b := 32) u64s u64m (up0 rfl rfl rfl) rfl rfl rfl) rfl ?_
  refine OpsFrom.v (Y.assign (up0 rfl rfl rfl) rfl rfl) rfl ?_
  refine OpsFrom.nil ?_
  refine Holds.seq ?_
  refine Holds.reg ?_
  refine OpsFrom.v (Y.move (up0 rfl rfl rfl) rfl rfl) rfl ?_
  refine OpsFrom.v (Y.move (up0 rfl rfl rfl) rfl rfl) rfl ?_
  refine OpsFrom.v (Y.move (up0 rfl rfl rfl) rfl rfl) rfl ?_
  refine OpsFrom.v (Y.mul u64s u64m (up0 rfl rfl rfl) rfl rfl rfl) rfl ?_
  refine OpsFrom.v (Y.add u64s u64m (up0 rfl rfl rfl) rfl rfl rfl) rfl ?_
  refine OpsFrom.v (Y.assign (up0 rfl rfl rfl) rfl rfl) rfl ?_
  refine OpsFrom.nil ?_
  refine Holds.seq ?_
  refine Holds.reg ?_
  refine OpsFrom.v (Y.move (up0 rfl rfl rfl) rfl rfl) rfl ?_
  refine OpsFrom.v (Y.move (up0 rfl rfl rfl) rfl rfl) rfl ?_
  refine OpsFrom.v (Y.mul u64s u64m (up0 rfl rfl rfl) rfl rfl rfl) rfl ?_
  refine OpsFrom.v (Y.move (up0 rfl rfl rfl) rfl rfl) rfl ?_
  refine OpsFrom.v (Y.add u64s u64m (up0 rfl rfl rfl) rfl rfl rfl) rfl ?_
  refine OpsFrom.v (Y.move (up0 rfl rfl rfl) rfl rfl) rfl ?_
  refine OpsFrom.v (Y.shr (b := 32) u64s u64m (up0 rfl rfl rfl) rfl rfl rfl) rfl ?_
  refine OpsFrom.v (Y.add u64s u64m (up0 rfl rfl rfl) rfl rfl rfl) rfl ?_
  refine OpsFrom.v (Y.assign (up0 rfl rfl rfl) rfl rfl) rfl ?_
  refine OpsFrom.nil ?_
  refine Holds.seq ?_
  refine Holds.reg ?_
  refine OpsFrom.v (Y.move (up0 rfl rfl rfl) rfl rfl) rfl ?_
  refine OpsFrom.v (Y.move (up0 rfl rfl rfl) rfl rfl) rfl ?_
  refine OpsFrom.v (Y.mul u64s u64m (up0 rfl rfl rfl) rfl rfl rfl) rfl ?_
  refine OpsFrom.v (Y.assign (up0 rfl rfl rfl) rfl rfl) rfl ?_
  refine OpsFrom.nil ?_
  refine Holds.ret ?_
  exact Holds.ret2 (.inl rfl) rfl (.tmp _ _ rfl) (.tmp _ _ rfl) (.same _) rfl
def put (k : Nat) (a : Nat) (b : Nat) (low : List Nat) (high : List Nat) : (List Nat) × (List Nat) :=
  let v1_ : Nat := ((low.getD k 0) + (a * b % 18446744073709551616) + 0) % 18446744073709551616
  let v2_ : Nat := ((low.getD k 0) + (a * b % 18446744073709551616) + 0) / 18446744073709551616
  let v3_ : Nat := ((high.getD k 0) + (mulHi a b) + v2_) % 18446744073709551616
  (low.set k v1_, high.set k v3_)
theorem put_len0 (k : Nat) (a : Nat) (b : Nat) (low : List Nat) (high : List Nat)  : ((put k a b low high).1).length = low.length := by
  unfold put
  first | (simp [id]; done) | (simp [*, id]; done) | (dsimp only; (repeat' split) <;> simp [*, id])
theorem put_len1 (k : Nat) (a : Nat) (b : Nat) (low : List Nat) (high : List Nat)  : ((put k a b low high).2).length = high.length := by
  unfold put
  first | (simp [id]; done) | (simp [*, id]; done) | (dsimp only; (repeat' split) <;> simp [*, id])
theorem w_put0 (k : Nat) (a : Nat) (b : Nat) (low : List Nat) (high : List Nat) (h_k : k < 5) (l_low : low.length = 5) (l_high : high.length = 5) : UC Try.prog 49 [.one (.n .i64 k), .one (.n .u64 a), .one (.n .u64 b), .one (.p 1000 0), .one (.p 1001 0)] [(1000, .ints .u64 low), (1001, .ints .u64 high)] (.one .u) [(1000, .ints .u64 ((put k a b low high).1)), (1001, .ints .u64 ((put k a b low high).2))] := by
  refine UC.go Try.func49 rfl Try.ntmps49 rfl rfl rfl fun ρ O w => ?_
  refine Holds.ltOwn 1000 rfl u64s u64m (fun b_low => ?_)
  refine Holds.ltOwn 1001 rfl u64s u64m (fun b_high => ?_)
  have bl := b_low k
  refine Holds.seq ?_
  refine Holds.reg ?_
  refine OpsFrom.v (Y.move (up0 rfl rfl rfl) rfl rfl) rfl ?_
  refine OpsFrom.v (Y.move (up0 rfl rfl rfl) rfl rfl) rfl ?_
  refine OpsFrom.v (Y.callV (w50 _ _) fnok50 (up0 rfl rfl rfl) rfl rfl (.cons _ _ _ _ rfl (.cons _ _ _ _ rfl .nil)) (.cons _ _ _ _ (.same _) (.cons _ _ _ _ (.same _) .nil)) rfl rfl) rfl ?_
  refine OpsFrom.v (Y.move (up0 rfl rfl rfl) rfl rfl) rfl ?_
  refine OpsFrom.v (Y.ext0 (up0 rfl rfl rfl) rfl rfl) rfl ?_
  refine OpsFrom.v (Y.ext1 (up0 rfl rfl rfl) rfl rfl) rfl ?_
  refine OpsFrom.v (Y.assign (up0 rfl rfl rfl) rfl rfl) rfl ?_
  refine OpsFrom.v (Y.assign (up0 rfl rfl rfl) rfl rfl) rfl ?_
  refine OpsFrom.nil ?_
  refine Holds.seq ?_
  refine Holds.reg ?_
  refine OpsFrom.v (Y.assign (v := (.one (.n .u64 0))) (up0 rfl rfl rfl) rfl rfl) rfl ?_
  refine OpsFrom.nil ?_
  refine Holds.seq ?_
  refine Holds.reg ?_
  refine OpsFrom.v (Y.move (up0 rfl rfl rfl) rfl rfl) rfl ?_
  refine OpsFrom.v (Y.move (up0 rfl rfl rfl) rfl rfl) rfl ?_
  refine OpsFrom.v (Y.ia0 ty25 ty24 (up0 rfl rfl rfl) rfl rfl rfl (by first | (with_reducible assumption) | omega | (simp only [lens, *]; first | done | omega) | decide | (split <;> simp only [lens, *]) | (with_reducible exact Lt.mono (by assumption) (by decide)) | (simp only [Cs.len]; done) | rfl)) rfl ?_
  refine OpsFrom.v (Y.ldI ty24 rfl (up0 rfl rfl rfl) rfl rfl rfl (by first | (with_reducible assumption) | omega | (simp only [lens, *]; first | done | omega) | decide | (split <;> simp only [lens, *]) | (with_reducible exact Lt.mono (by assumption) (by decide)) | (simp only [Cs.len]; done) | rfl)) rfl ?_
  refine OpsFrom.v (Y.move (up0 rfl rfl rfl) rfl rfl) rfl ?_
  refine OpsFrom.v (Y.add64 (c := 0) ext51 (up0 rfl rfl rfl) rfl rfl rfl rfl rfl (by first | (with_reducible assumption) | omega | (simp only [lens, *]; first | done | omega) | decide | (split <;> simp only [lens, *]) | (with_reducible exact Lt.mono (by assumption) (by decide)) | (simp only [Cs.len]; done) | rfl)) rfl ?_
  refine OpsFrom.v (Y.move (up0 rfl rfl rfl) rfl rfl) rfl ?_
  refine OpsFrom.v (Y.ext0 (up0 rfl rfl rfl) rfl rfl) rfl ?_
  refine OpsFrom.v (Y.ext1 (up0 rfl rfl rfl) rfl rfl) rfl ?_
  refine OpsFrom.v (Y.ia0 ty25 ty24 (up0 rfl rfl rfl) rfl rfl rfl (by first | (with_reducible assumption) | omega | (simp only [lens, *]; first | done | omega) | decide | (split <;> simp only [lens, *]) | (with_reducible exact Lt.mono (by assumption) (by decide)) | (simp only [Cs.len]; done) | rfl)) rfl ?_
  refine OpsFrom.n (Y.stI ty24 (upN rfl rfl) rfl rfl rfl rfl (by first | (with_reducible assumption) | omega | (simp only [lens, *]; first | done | omega) | decide | (split <;> simp only [lens, *]) | (with_reducible exact Lt.mono (by assumption) (by decide)) | (simp only [Cs.len]; done) | rfl)) rfl rfl ?_
  refine OpsFrom.v (Y.assign (up0 rfl rfl rfl) rfl rfl) rfl ?_
  refine OpsFrom.nil ?_
  refine Holds.reg ?_
  refine OpsFrom.v (Y.move (up0 rfl rfl rfl) rfl rfl) rfl ?_
  refine OpsFrom.v (Y.move (up0 rfl rfl rfl) rfl rfl) rfl ?_
  refine OpsFrom.v (Y.ia0 ty25 ty24 (up0 rfl rfl rfl) rfl rfl rfl (by first | (with_reducible assumption) | omega | (simp only [lens, *]; first | done | omega) | decide | (split <;> simp only [lens, *]) | (with_reducible exact Lt.mono (by assumption) (by decide)) | (simp only [Cs.len]; done) | rfl)) rfl ?_
  refine OpsFrom.v (Y.ldI ty24 rfl (up0 rfl rfl rfl) rfl rfl rfl (by first | (with_reducible assumption) | omega | (simp only [lens, *]; first | done | omega) | decide | (split <;> simp only [lens, *]) | (with_reducible exact Lt.mono (by assumption) (by decide)) | (simp only [Cs.len]; done) | rfl)) rfl ?_
  refine OpsFrom.v (Y.move (up0 rfl rfl rfl) rfl rfl) rfl ?_
  refine OpsFrom.v (Y.move (up0 rfl rfl rfl) rfl rfl) rfl ?_
  refine OpsFrom.v (Y.add64 ext51 (up0 rfl rfl rfl) rfl rfl rfl rfl rfl (by first | (with_reducible assumption) | omega | (simp only [lens, *]; first | done | omega) | decide | (split <;> simp only [lens, *]) | (with_reducible exact Lt.mono (by assumption) (by decide)) | (simp only [Cs.len]; done) | rfl)) rfl ?_
  refine OpsFrom.v (Y.move (up0 rfl rfl rfl) rfl rfl) rfl ?_
  refine OpsFrom.v (Y.ext0 (up0 rfl rfl rfl) rfl rfl) rfl ?_
  refine OpsFrom.v (Y.ext1 (up0 rfl rfl rfl) rfl rfl) rfl ?_
  refine OpsFrom.v (Y.ia0 ty25 ty24 (up0 rfl rfl rfl) rfl rfl rfl (by first | (with_reducible assumption) | omega | (simp only [lens, *]; first | done | omega) | decide | (split <;> simp only [lens, *]) | (with_reducible exact Lt.mono (by assumption) (by decide)) | (simp only [Cs.len]; done) | rfl)) rfl ?_
  refine OpsFrom.n (Y.stI ty24 (upN rfl rfl) rfl rfl rfl rfl (by first | (with_reducible assumption) | omega | (simp only [lens, *]; first | done | omega) | decide | (split <;> simp only [lens, *]) | (with_reducible exact Lt.mono (by assumption) (by decide)) | (simp only [Cs.len]; done) | rfl)) rfl rfl ?_
  refine OpsFrom.nil ?_
  exact Holds.retU (nt := 38) (.inr rfl) (fun _ _ _ _ hs => ResL.none.run hs rfl) rfl rfl (by intro x hx; simp only [List.mem_cons, List.mem_singleton, List.not_mem_nil, or_false] at hx; first | (subst hx; refine ⟨rfl, ?_, rfl⟩; simp only [Cs.len]; simp [*, put_len0, put_len1]) | (rcases hx with rfl | rfl <;> (refine ⟨rfl, ?_, rfl⟩; simp only [Cs.len]; simp [*, put_len0, put_len1])))

theorem w_put (id0 id1 : Nat) (hne : id0 ≠ id1) (k : Nat) (a : Nat) (b : Nat) (low : List Nat) (high : List Nat) (h_k : k < 5) (l_low : low.length = 5) (l_high : high.length = 5) : UC Try.prog 49 [.one (.n .i64 k), .one (.n .u64 a), .one (.n .u64 b), .one (.p id0 0), .one (.p id1 0)] [(id0, .ints .u64 low), (id1, .ints .u64 high)] (.one .u) [(id0, .ints .u64 ((put k a b low high).1)), (id1, .ints .u64 ((put k a b low high).2))] :=
  UC.rens [(1000, id0), (1001, id1)] (w_put0 k a b low high h_k l_low l_high) (noids2 rfl rfl) (noids2 rfl rfl) rfl (rens2 hne (by decide))
def mul_s2 (x : List Nat) (y : List Nat) (i1_ : Nat) (m1_ : (List Nat) × (List Nat)) (i2_ : Nat) (m2_ : (List Nat) × (List Nat)) : (List Nat) × (List Nat) :=
  if (i1_ + i2_) < 5 then
    let v67_ : List Nat := (put (i1_ + i2_) (x.getD i1_ 0) (y.getD i2_ 0) m2_.2 m2_.1).1
    let v68_ : List Nat := (put (i1_ + i2_) (x.getD i1_ 0) (y.getD i2_ 0) m2_.2 m2_.1).2
    (v68_, v67_)
  else
    let v69_ : Nat := 19 * (y.getD i2_ 0) % 18446744073709551616
    let v70_ : List Nat := (put ((i1_ + i2_) - 5) (x.getD i1_ 0) v69_ m2_.2 m2_.1).1
    let v71_ : List Nat := (put ((i1_ + i2_) - 5) (x.getD i1_ 0) v69_ m2_.2 m2_.1).2
    (v71_, v70_)
def mul_it2 (x : List Nat) (y : List Nat) (i1_ : Nat) (m1_ : (List Nat) × (List Nat)) (i2_ : Nat) : (List Nat) × (List Nat) := iter (mul_s2 x y i1_ m1_) i2_ (m1_.1, m1_.2)
theorem mul_it2_z (x : List Nat) (y : List Nat) (i1_ : Nat) (m1_ : (List Nat) × (List Nat)) : mul_it2 x y i1_ m1_ 0 = (m1_.1, m1_.2) := rfl
theorem mul_it2_s (x : List Nat) (y : List Nat) (i1_ : Nat) (m1_ : (List Nat) × (List Nat)) (i2_ : Nat) : mul_it2 x y i1_ m1_ (i2_ + 1) = mul_s2 x y i1_ m1_ i2_ (mul_it2 x y i1_ m1_ i2_) := by unfold mul_it2; exact iterS _ _ _
theorem mul_it2_l0 (x : List Nat) (y : List Nat) (i1_ : Nat) (m1_ : (List Nat) × (List Nat)) (i2_ : Nat) : ((mul_it2 x y i1_ m1_ i2_).1).length = (m1_.1 : List Nat).length := iter_inv (fun (s : (List Nat) × (List Nat)) => (s.1).length = (m1_.1 : List Nat).length) (by simp) (fun i s h => by
  unfold mul_s2
  first | (simp [put_len0, put_len1, h]; done) | (dsimp only; (repeat' split) <;> simp [put_len0, put_len1, h])) i2_
theorem mul_it2_l1 (x : List Nat) (y : List Nat) (i1_ : Nat) (m1_ : (List Nat) × (List Nat)) (i2_ : Nat) : ((mul_it2 x y i1_ m1_ i2_).2).length = (m1_.2 : List Nat).length := iter_inv (fun (s : (List Nat) × (List Nat)) => (s.2).length = (m1_.2 : List Nat).length) (by simp) (fun i s h => by
  unfold mul_s2
  first | (simp [put_len0, put_len1, h]; done) | (dsimp only; (repeat' split) <;> simp [put_len0, put_len1, h])) i2_
def mul_s1 (x : List Nat) (y : List Nat) (i1_ : Nat) (m1_ : (List Nat) × (List Nat)) : (List Nat) × (List Nat) :=
  ((mul_it2 x y i1_ m1_ 5).1, (mul_it2 x y i1_ m1_ 5).2)
def mul_it1 (x : List Nat) (y : List Nat) (i1_ : Nat) : (List Nat) × (List Nat) := iter (mul_s1 x y) i1_ (List.replicate 5 0, List.replicate 5 0)
theorem mul_it1_z (x : List Nat) (y : List Nat) : mul_it1 x y 0 = (List.replicate 5 0, List.replicate 5 0) := rfl
theorem mul_it1_s (x : List Nat) (y : List Nat) (i1_ : Nat) : mul_it1 x y (i1_ + 1) = mul_s1 x y i1_ (mul_it1 x y i1_) := by unfold mul_it1; exact iterS _ _ _
theorem mul_it1_l0 (x : List Nat) (y : List Nat) (i1_ : Nat) : ((mul_it1 x y i1_).1).length = (List.replicate 5 0 : List Nat).length := iter_inv (fun (s : (List Nat) × (List Nat)) => (s.1).length = (List.replicate 5 0 : List Nat).length) (by simp) (fun i s h => by
  unfold mul_s1
  first | (simp [put_len0, put_len1, mul_it2_l0, mul_it2_l1, h]; done) | (dsimp only; (repeat' split) <;> simp [put_len0, put_len1, mul_it2_l0, mul_it2_l1, h])) i1_
theorem mul_it1_l1 (x : List Nat) (y : List Nat) (i1_ : Nat) : ((mul_it1 x y i1_).2).length = (List.replicate 5 0 : List Nat).length := iter_inv (fun (s : (List Nat) × (List Nat)) => (s.2).length = (List.replicate 5 0 : List Nat).length) (by simp) (fun i s h => by
  unfold mul_s1
  first | (simp [put_len0, put_len1, mul_it2_l0, mul_it2_l1, h]; done) | (dsimp only; (repeat' split) <;> simp [put_len0, put_len1, mul_it2_l0, mul_it2_l1, h])) i1_
def mul_s3 (x : List Nat) (y : List Nat) (i3_ : Nat) (m3_ : (List Nat) × (List Nat)) : (List Nat) × (List Nat) :=
  let v83_ : Nat := (((mul_it1 x y 5).2).getD i3_ 0) &&& 2251799813685247
  let v84_ : Nat := (((mul_it1 x y 5).1).getD i3_ 0) * 2 ^ 13 % 18446744073709551616
  let v85_ : Nat := (((mul_it1 x y 5).2).getD i3_ 0) / 2 ^ 51
  (m3_.1.set i3_ v83_, m3_.2.set i3_ (v84_ ||| v85_))
def mul_it3 (x : List Nat) (y : List Nat) (i3_ : Nat) : (List Nat) × (List Nat) := iter (mul_s3 x y) i3_ (List.replicate 5 0, List.replicate 5 0)
theorem mul_it3_z (x : List Nat) (y : List Nat) : mul_it3 x y 0 = (List.replicate 5 0, List.replicate 5 0) := rfl
theorem mul_it3_s (x : List Nat) (y : List Nat) (i3_ : Nat) : mul_it3 x y (i3_ + 1) = mul_s3 x y i3_ (mul_it3 x y i3_) := by unfold mul_it3; exact iterS _ _ _
theorem mul_it3_l0 (x : List Nat) (y : List Nat) (i3_ : Nat) : ((mul_it3 x y i3_).1).length = (List.replicate 5 0 : List Nat).length := iter_inv (fun (s : (List Nat) × (List Nat)) => (s.1).length = (List.replicate 5 0 : List Nat).length) (by simp) (fun i s h => by
  unfold mul_s3
  first | (simp [put_len0, put_len1, mul_it2_l0, mul_it2_l1, mul_it1_l0, mul_it1_l1, h]; done) | (dsimp only; (repeat' split) <;> simp [put_len0, put_len1, mul_it2_l0, mul_it2_l1, mul_it1_l0, mul_it1_l1, h])) i3_
theorem mul_it3_l1 (x : List Nat) (y : List Nat) (i3_ : Nat) : ((mul_it3 x y i3_).2).length = (List.replicate 5 0 : List Nat).length := iter_inv (fun (s : (List Nat) × (List Nat)) => (s.2).length = (List.replicate 5 0 : List Nat).length) (by simp) (fun i s h => by
  unfold mul_s3
  first | (simp [put_len0, put_len1, mul_it2_l0, mul_it2_l1, mul_it1_l0, mul_it1_l1, h]; done) | (dsimp only; (repeat' split) <;> simp [put_len0, put_len1, mul_it2_l0, mul_it2_l1, mul_it1_l0, mul_it1_l1, h])) i3_
def mul_s4 (x : List Nat) (y : List Nat) (i4_ : Nat) (m4_ : List Nat) : List Nat :=
  let v95_ : Nat := ((m4_.getD (i4_ + 1) 0) + (((mul_it3 x y 5).2).getD i4_ 0)) % 18446744073709551616
  m4_.set (i4_ + 1) v95_
def mul_it4 (x : List Nat) (y : List Nat) (i4_ : Nat) : List Nat := iter (mul_s4 x y) i4_ (((mul_it3 x y 5).1).set 0 (((((mul_it3 x y 5).1).getD 0 0) + (19 * (((mul_it3 x y 5).2).getD 4 0) % 18446744073709551616)) % 18446744073709551616))
theorem mul_it4_z (x : List Nat) (y : List Nat) : mul_it4 x y 0 = ((mul_it3 x y 5).1).set 0 (((((mul_it3 x y 5).1).getD 0 0) + (19 * (((mul_it3 x y 5).2).getD 4 0) % 18446744073709551616)) % 18446744073709551616) := rfl
theorem mul_it4_s (x : List Nat) (y : List Nat) (i4_ : Nat) : mul_it4 x y (i4_ + 1) = mul_s4 x y i4_ (mul_it4 x y i4_) := by unfold mul_it4; exact iterS _ _ _
theorem mul_it4_l (x : List Nat) (y : List Nat) (i4_ : Nat) : ((mul_it4 x y i4_)).length = (((mul_it3 x y 5).1).set 0 (((((mul_it3 x y 5).1).getD 0 0) + (19 * (((mul_it3 x y 5).2).getD 4 0) % 18446744073709551616)) % 18446744073709551616) : List Nat).length := iter_inv (fun (s : List Nat) => (s).length = (((mul_it3 x y 5).1).set 0 (((((mul_it3 x y 5).1).getD 0 0) + (19 * (((mul_it3 x y 5).2).getD 4 0) % 18446744073709551616)) % 18446744073709551616) : List Nat).length) (by simp) (fun i s h => by
  unfold mul_s4
  first | (simp [put_len0, put_len1, mul_it2_l0, mul_it2_l1, mul_it1_l0, mul_it1_l1, mul_it3_l0, mul_it3_l1, h]; done) | (dsimp only; (repeat' split) <;> simp [put_len0, put_len1, mul_it2_l0, mul_it2_l1, mul_it1_l0, mul_it1_l1, mul_it3_l0, mul_it3_l1, h])) i4_
def mul (x : List Nat) (y : List Nat) : List Nat :=
  (car (mul_it4 x y 4))
theorem mul_len (x : List Nat) (y : List Nat) (l_x : x.length = 5) (l_y : y.length = 5) : ((mul x y)).length = 5 := by
  unfold mul
  first | (simp [put_len0, put_len1, mul_it2_l0, mul_it2_l1, mul_it1_l0, mul_it1_l1, mul_it3_l0, mul_it3_l1, mul_it4_l, car_l]; done) | (simp [*, put_len0, put_len1, mul_it2_l0, mul_it2_l1, mul_it1_l0, mul_it1_l1, mul_it3_l0, mul_it3_l1, mul_it4_l, car_l]; done) | (dsimp only; (repeat' split) <;> simp [*, put_len0, put_len1, mul_it2_l0, mul_it2_l1, mul_it1_l0, mul_it1_l1, mul_it3_l0, mul_it3_l1, mul_it4_l, car_l])
theorem w_mul (x : List Nat) (y : List Nat) (l_x : x.length = 5) (l_y : y.length = 5) : VC Try.prog 28 [.row (.ints .u64 x), .row (.ints .u64 y)] (.row (.ints .u64 (mul x y))) := by
  refine VC.go Try.func28 rfl Try.ntmps28 rfl rfl fun O w => ?_
  refine Holds.seq ?_
  refine Holds.reg ?_
  refine OpsFrom.u (Y.boxR (d := 2) (up0 rfl rfl rfl) rfl rfl rfl) rfl rfl rfl ?_
  refine OpsFrom.u (Y.boxR (d := 3) (up0 rfl rfl rfl) rfl rfl rfl) rfl rfl rfl ?_
  refine OpsFrom.u (Y.alloc (d := 4) ty27 rfl rfl (up0 rfl rfl rfl) rfl) rfl rfl rfl ?_
  refine OpsFrom.nil ?_
  refine Holds.seq ?_
  refine Holds.reg ?_
  refine OpsFrom.u (Y.alloc (d := 5) ty25 rfl rfl (up0 rfl rfl rfl) rfl) rfl rfl rfl ?_
  refine OpsFrom.u (Y.alloc (d := 6) ty25 rfl rfl (up0 rfl rfl rfl) rfl) rfl rfl rfl ?_
  refine OpsFrom.nil ?_
  refine Holds.seq ?_
  refine Holds.reg ?_
  refine OpsFrom.v (Y.mkF (up0 rfl rfl rfl) rfl (.cons _ _ _ _ rfl (.cons _ _ _ _ rfl Caps.nil))) rfl ?_
  refine OpsFrom.v (Y.assign (up0 rfl rfl rfl) rfl rfl) rfl ?_
  refine OpsFrom.nil ?_
  refine Holds.seq ?_
  refine Holds.seq ?_
  refine Holds.reg ?_
  refine OpsFrom.v (Y.move (v := (.one (.n .i64 0))) (up0 rfl rfl rfl) rfl rfl) rfl ?_
  refine OpsFrom.nil ?_
  refine Holds.block ?_
  refine Holds.loop (fun (i1_ : Nat) => ⟨[(2, .one (.p 2 0)), (3, .one (.p 3 0)), (4, .one (.p 4 0)), (5, .one (.p 5 0)), (6, .one (.p 6 0)), (7, .one (.fn 49 [6, 5])), (15, .one (.n .i64 i1_))], [(2, .own (.ints .u64 x)), (3, .own (.ints .u64 y)), (4, .own (.ints .u64 (List.replicate 5 0))), (5, .own (.ints .u64 ((mul_it1 x y i1_).1))), (6, .own (.ints .u64 ((mul_it1 x y i1_).2)))]⟩) (fun (i1_ : Nat) => i1_ ≤ 5) (fun (i1_ : Nat) => 5 - i1_) 0 (by first | (with_reducible assumption) | omega | (simp only [lens, mul_it1_l0, mul_it1_l1, *]; first | done | omega) | decide | (split <;> simp only [lens, mul_it1_l0, mul_it1_l1, *]) | (with_reducible exact Lt.mono (by assumption) (by decide)) | (simp only [Cs.len]; done) | rfl) [] ⟨⟨rfl, rfl, rfl, rfl, rfl, rfl, rfl, trivial⟩, ⟨rfl, rfl, rfl, (hEq (congrArg (fun (s : (List Nat) × (List Nat)) => s.1) (mul_it1_z x y)).symm), (hEq (congrArg (fun (s : (List Nat) × (List Nat)) => s.2) (mul_it1_z x y)).symm), trivial⟩, rfl, rfl⟩ ?_
  intro i1_ k1_
  refine Holds.seq ?_
  refine Holds.reg ?_
  refine OpsFrom.v (Y.lss (b := 5) (up0 rfl rfl rfl) rfl rfl rfl) rfl ?_
  refine OpsFrom.nil ?_
  refine Holds.seq ?_
  refine Holds.condD rfl (fun h16 => ?_) (fun h16 => ?_)
  · refine Holds.skip ?_
    refine Holds.seq ?_
    refine Holds.block ?_
    refine Holds.seq ?_
    refine Holds.reg ?_
    refine OpsFrom.v (Y.move (up0 rfl rfl rfl) rfl rfl) rfl ?_
    refine OpsFrom.v (Y.assign (up0 rfl rfl rfl) rfl rfl) rfl ?_
    refine OpsFrom.nil ?_
    refine Holds.seq ?_
    refine Holds.reg ?_
    refine OpsFrom.v (Y.move (v := (.one (.n .i64 0))) (up0 rfl rfl rfl) rfl rfl) rfl ?_
    refine OpsFrom.nil ?_
    refine Holds.block ?_
    refine Holds.loop (fun (i2_ : Nat) => ⟨[(2, .one (.p 2 0)), (3, .one (.p 3 0)), (4, .one (.p 4 0)), (5, .one (.p 5 0)), (6, .one (.p 6 0)), (7, .one (.fn 49 [6, 5])), (15, .one (.n .i64 i1_)), (16, .one (.b (decide (i1_ < 5)))), (17, .one (.n .i64 i1_)), (8, .one (.n .i64 i1_)), (18, .one (.n .i64 i2_))], [(2, .own (.ints .u64 x)), (3, .own (.ints .u64 y)), (4, .own (.ints .u64 (List.replicate 5 0))), (5, .own (.ints .u64 ((mul_it2 x y i1_ (mul_it1 x y i1_) i2_).1))), (6, .own (.ints .u64 ((mul_it2 x y i1_ (mul_it1 x y i1_) i2_).2)))]⟩) (fun (i2_ : Nat) => i2_ ≤ 5) (fun (i2_ : Nat) => 5 - i2_) 0 (by first | (with_reducible assumption) | omega | (simp only [lens, mul_it1_l0, mul_it1_l1, mul_it2_l0, mul_it2_l1, *]; first | done | omega) | decide | (split <;> simp only [lens, mul_it1_l0, mul_it1_l1, mul_it2_l0, mul_it2_l1, *]) | (with_reducible exact Lt.mono (by assumption) (by decide)) | (simp only [Cs.len]; done) | rfl) [] ⟨⟨rfl, rfl, rfl, rfl, rfl, rfl, rfl, rfl, rfl, rfl, rfl, trivial⟩, ⟨rfl, rfl, rfl, (hEq (congrArg (fun (s : (List Nat) × (List Nat)) => s.1) (mul_it2_z x y i1_ (mul_it1 x y i1_))).symm), (hEq (congrArg (fun (s : (List Nat) × (List Nat)) => s.2) (mul_it2_z x y i1_ (mul_it1 x y i1_))).symm), trivial⟩, rfl, rfl⟩ ?_
    intro i2_ k2_
    refine Holds.seq ?_
    refine Holds.reg ?_
    refine OpsFrom.v (Y.lss (b := 5) (up0 rfl rfl rfl) rfl rfl rfl) rfl ?_
    refine OpsFrom.nil ?_
    refine Holds.seq ?_
    refine Holds.condD rfl (fun h19 => ?_) (fun h19 => ?_)
    · refine Holds.skip ?_
      refine Holds.seq ?_
      refine Holds.block ?_
      refine Holds.seq ?_
      refine Holds.reg ?_
      refine OpsFrom.v (Y.move (up0 rfl rfl rfl) rfl rfl) rfl ?_
      refine OpsFrom.v (Y.assign (up0 rfl rfl rfl) rfl rfl) rfl ?_
      refine OpsFrom.nil ?_
      refine Holds.seq ?_
      refine Holds.reg ?_
      refine OpsFrom.v (Y.move (up0 rfl rfl rfl) rfl rfl) rfl ?_
      refine OpsFrom.v (Y.move (up0 rfl rfl rfl) rfl rfl) rfl ?_
      refine OpsFrom.v (Y.addI (up0 rfl rfl rfl) rfl rfl rfl (by first | (with_reducible assumption) | omega | (simp only [lens, mul_it1_l0, mul_it1_l1, mul_it2_l0, mul_it2_l1, *]; first | done | omega) | decide | (split <;> simp only [lens, mul_it1_l0, mul_it1_l1, mul_it2_l0, mul_it2_l1, *]) | (with_reducible exact Lt.mono (by assumption) (by decide)) | (simp only [Cs.len]; done) | rfl)) rfl ?_
      refine OpsFrom.v (Y.lss (b := 5) (up0 rfl rfl rfl) rfl rfl rfl) rfl ?_
      refine OpsFrom.nil ?_
      refine Holds.condD rfl (fun h24 => ?_) (fun h24 => ?_)
      · refine Holds.dr mx [([25], [26, 27, 28, 29, 30, 31, 32, 33, 34, 35, 36]), ([26], [25, 27, 29, 30, 31, 32, 33, 34, 35, 36]), ([27], [25, 26, 29, 30, 31, 32, 33, 34, 35, 36]), ([28], [25, 29, 30, 31, 32, 33, 34, 35, 36]), ([29], [25, 26, 27, 28, 30, 33, 34, 35, 36]), ([30], [25, 26, 27, 28, 29, 33, 34, 35, 36]), ([31], [25, 26, 27, 28, 33, 34, 35, 36]), ([32], [25, 26, 27, 28, 33, 34, 35, 36]), ([33], [25, 26, 27, 28, 29, 30, 31, 32, 34]), ([34], [25, 26, 27, 28, 29, 30, 31, 32, 33]), ([35], [25, 26, 27, 28, 29, 30, 31, 32]), ([36], [25, 26, 27, 28, 29, 30, 31, 32]), ([37, 6, 5], [])] (by kernel_rfl) ?_
        refine CertK.vd (Y.move (up0 rfl rfl rfl) rfl rfl) rfl rfl ?_
        refine CertK.vd (Y.move (up0 rfl rfl rfl) rfl rfl) rfl rfl ?_
        refine CertK.vd (Y.move (up0 rfl rfl rfl) rfl rfl) rfl rfl ?_
        refine CertK.vd (Y.addI (up0 rfl rfl rfl) rfl rfl rfl (by first | (with_reducible assumption) | omega | (simp only [lens, mul_it1_l0, mul_it1_l1, mul_it2_l0, mul_it2_l1, put_len0, put_len1, *]; first | done | omega) | decide | (split <;> simp only [lens, mul_it1_l0, mul_it1_l1, mul_it2_l0, mul_it2_l1, put_len0, put_len1, *]) | (with_reducible exact Lt.mono (by assumption) (by decide)) | (simp only [Cs.len]; done) | rfl)) rfl rfl ?_
        refine CertK.vd (Y.move (up0 rfl rfl rfl) rfl rfl) rfl rfl ?_
        refine CertK.vd (Y.fa (f := 0) (fld := ⟨ "l", 25, 0, false, "", "fardel/field", 0⟩) ty27 rfl ty25 (by decide) (up0 rfl rfl rfl) rfl rfl) rfl rfl ?_
        refine CertK.vd (Y.ia0 ty25 ty24 (up0 rfl rfl rfl) rfl rfl rfl (by first | (with_reducible assumption) | omega | (simp only [lens, mul_it1_l0, mul_it1_l1, mul_it2_l0, mul_it2_l1, put_len0, put_len1, *]; first | done | omega) | decide | (split <;> simp only [lens, mul_it1_l0, mul_it1_l1, mul_it2_l0, mul_it2_l1, put_len0, put_len1, *]) | (with_reducible exact Lt.mono (by assumption) (by decide)) | (simp only [Cs.len]; done) | rfl)) rfl rfl ?_
        refine CertK.vd (Y.ldI ty24 rfl (up0 rfl rfl rfl) rfl rfl rfl (by first | (with_reducible assumption) | omega | (simp only [lens, mul_it1_l0, mul_it1_l1, mul_it2_l0, mul_it2_l1, put_len0, put_len1, *]; first | done | omega) | decide | (split <;> simp only [lens, mul_it1_l0, mul_it1_l1, mul_it2_l0, mul_it2_l1, put_len0, put_len1, *]) | (with_reducible exact Lt.mono (by assumption) (by decide)) | (simp only [Cs.len]; done) | rfl)) rfl rfl ?_
        refine CertK.vd (Y.move (up0 rfl rfl rfl) rfl rfl) rfl rfl ?_
        refine CertK.vd (Y.fa (f := 0) (fld := ⟨ "l", 25, 0, false, "", "fardel/field", 0⟩) ty27 rfl ty25 (by decide) (up0 rfl rfl rfl) rfl rfl) rfl rfl ?_
        refine CertK.vd (Y.ia0 ty25 ty24 (up0 rfl rfl rfl) rfl rfl rfl (by first | (with_reducible assumption) | omega | (simp only [lens, mul_it1_l0, mul_it1_l1, mul_it2_l0, mul_it2_l1, put_len0, put_len1, *]; first | done | omega) | decide | (split <;> simp only [lens, mul_it1_l0, mul_it1_l1, mul_it2_l0, mul_it2_l1, put_len0, put_len1, *]) | (with_reducible exact Lt.mono (by assumption) (by decide)) | (simp only [Cs.len]; done) | rfl)) rfl rfl ?_
        refine CertK.vd (Y.ldI ty24 rfl (up0 rfl rfl rfl) rfl rfl rfl (by first | (with_reducible assumption) | omega | (simp only [lens, mul_it1_l0, mul_it1_l1, mul_it2_l0, mul_it2_l1, put_len0, put_len1, *]; first | done | omega) | decide | (split <;> simp only [lens, mul_it1_l0, mul_it1_l1, mul_it2_l0, mul_it2_l1, put_len0, put_len1, *]) | (with_reducible exact Lt.mono (by assumption) (by decide)) | (simp only [Cs.len]; done) | rfl)) rfl rfl ?_
        refine CertK.u (Y.callU (vs := [_, _, _]) (ids := [6, 5]) (w_put _ _ (by decide) _ _ _ _ _ (by first | (with_reducible assumption) | omega | (simp only [lens, mul_it1_l0, mul_it1_l1, mul_it2_l0, mul_it2_l1, put_len0, put_len1, *]; first | done | omega) | decide | (split <;> simp only [lens, mul_it1_l0, mul_it1_l1, mul_it2_l0, mul_it2_l1, put_len0, put_len1, *]) | (with_reducible exact Lt.mono (by assumption) (by decide)) | (simp only [Cs.len]; done) | rfl) (by first | (with_reducible assumption) | omega | (simp only [lens, mul_it1_l0, mul_it1_l1, mul_it2_l0, mul_it2_l1, put_len0, put_len1, *]; first | done | omega) | decide | (split <;> simp only [lens, mul_it1_l0, mul_it1_l1, mul_it2_l0, mul_it2_l1, put_len0, put_len1, *]) | (with_reducible exact Lt.mono (by assumption) (by decide)) | (simp only [Cs.len]; done) | rfl) (by first | (with_reducible assumption) | omega | (simp only [lens, mul_it1_l0, mul_it1_l1, mul_it2_l0, mul_it2_l1, put_len0, put_len1, *]; first | done | omega) | decide | (split <;> simp only [lens, mul_it1_l0, mul_it1_l1, mul_it2_l0, mul_it2_l1, put_len0, put_len1, *]) | (with_reducible exact Lt.mono (by assumption) (by decide)) | (simp only [Cs.len]; done) | rfl)) fnok49 (up0 rfl rfl rfl) rfl rfl (.cons _ _ _ _ rfl (.cons _ _ _ _ rfl (.cons _ _ _ _ rfl .nil))) (ownL2 (n := 5) (n' := 5) rfl (by first | (with_reducible assumption) | omega | (simp only [lens, mul_it1_l0, mul_it1_l1, mul_it2_l0, mul_it2_l1, put_len0, put_len1, *]; first | done | omega) | decide | (split <;> simp only [lens, mul_it1_l0, mul_it1_l1, mul_it2_l0, mul_it2_l1, put_len0, put_len1, *]) | (with_reducible exact Lt.mono (by assumption) (by decide)) | (simp only [Cs.len]; done) | rfl) (by decide) rfl (by first | (with_reducible assumption) | omega | (simp only [lens, mul_it1_l0, mul_it1_l1, mul_it2_l0, mul_it2_l1, put_len0, put_len1, *]; first | done | omega) | decide | (split <;> simp only [lens, mul_it1_l0, mul_it1_l1, mul_it2_l0, mul_it2_l1, put_len0, put_len1, *]) | (with_reducible exact Lt.mono (by assumption) (by decide)) | (simp only [Cs.len]; done) | rfl) (by decide)) rfl (by simp) rfl) rfl rfl rfl rfl rfl ?_
        refine CertK.nil ?_
        refine Holds.reg ?_
        refine OpsFrom.v (Y.addI (b := 1) (up0 rfl rfl rfl) rfl rfl rfl (by first | (with_reducible assumption) | omega | (simp only [lens, mul_it1_l0, mul_it1_l1, mul_it2_l0, mul_it2_l1, put_len0, put_len1, *]; first | done | omega) | decide | (split <;> simp only [lens, mul_it1_l0, mul_it1_l1, mul_it2_l0, mul_it2_l1, put_len0, put_len1, *]) | (with_reducible exact Lt.mono (by assumption) (by decide)) | (simp only [Cs.len]; done) | rfl)) rfl ?_
        refine OpsFrom.v (Y.move (up0 rfl rfl rfl) rfl rfl) rfl ?_
        refine OpsFrom.nil ?_
        exact Holds.again (i2_ + 1) (by omega) (by omega) [] ⟨⟨rfl, rfl, rfl, rfl, rfl, rfl, rfl, rfl, rfl, rfl, (nEq (by omega)), trivial⟩, ⟨rfl, rfl, rfl, (hEq (congrArg (fun (s : (List Nat) × (List Nat)) => s.1) ((mul_it2_s x y i1_ (mul_it1 x y i1_) i2_).trans ((if_pos h24)))).symm), (hEq (congrArg (fun (s : (List Nat) × (List Nat)) => s.2) ((mul_it2_s x y i1_ (mul_it1 x y i1_) i2_).trans ((if_pos h24)))).symm), trivial⟩, rfl, rfl⟩
      · refine Holds.dr mx [([38], [39, 40, 41, 42, 43, 44, 45, 46, 47, 48, 49, 50, 51]), ([39], [38, 40, 43, 44, 45, 46, 47, 48, 49, 50, 51]), ([40], [38, 39, 43, 44, 45, 46, 47, 48, 49, 50, 51]), ([41], [38, 43, 44, 45, 46, 47, 48, 49, 50, 51]), ([42], [38, 43, 44, 45, 46, 47, 48, 49, 50, 51]), ([43], [38, 39, 40, 41, 42, 44, 47, 48, 49, 50, 51]), ([44], [38, 39, 40, 41, 42, 43, 47, 48, 49, 50, 51]), ([45], [38, 39, 40, 41, 42, 47, 48, 49, 50, 51]), ([46], [38, 39, 40, 41, 42, 47, 48, 49, 50, 51]), ([47], [38, 39, 40, 41, 42, 43, 44, 45, 46, 48]), ([48], [38, 39, 40, 41, 42, 43, 44, 45, 46, 47]), ([49], [38, 39, 40, 41, 42, 43, 44, 45, 46]), ([50], [38, 39, 40, 41, 42, 43, 44, 45, 46]), ([51], [38, 39, 40, 41, 42, 43, 44, 45, 46]), ([52, 6, 5], [])] (by kernel_rfl) ?_
        refine CertK.vd (Y.move (up0 rfl rfl rfl) rfl rfl) rfl rfl ?_
        refine CertK.vd (Y.move (up0 rfl rfl rfl) rfl rfl) rfl rfl ?_
        refine CertK.vd (Y.move (up0 rfl rfl rfl) rfl rfl) rfl rfl ?_
        refine CertK.vd (Y.addI (up0 rfl rfl rfl) rfl rfl rfl (by first | (with_reducible assumption) | omega | (simp only [lens, mul_it1_l0, mul_it1_l1, mul_it2_l0, mul_it2_l1, put_len0, put_len1, *]; first | done | omega) | decide | (split <;> simp only [lens, mul_it1_l0, mul_it1_l1, mul_it2_l0, mul_it2_l1, put_len0, put_len1, *]) | (with_reducible exact Lt.mono (by assumption) (by decide)) | (simp only [Cs.len]; done) | rfl)) rfl rfl ?_
        refine CertK.vd (Y.subI (b := 5) (up0 rfl rfl rfl) rfl rfl rfl (by first | (with_reducible assumption) | omega | (simp only [lens, mul_it1_l0, mul_it1_l1, mul_it2_l0, mul_it2_l1, put_len0, put_len1, *]; first | done | omega) | decide | (split <;> simp only [lens, mul_it1_l0, mul_it1_l1, mul_it2_l0, mul_it2_l1, put_len0, put_len1, *]) | (with_reducible exact Lt.mono (by assumption) (by decide)) | (simp only [Cs.len]; done) | rfl) (by first | (with_reducible assumption) | omega | (simp only [lens, mul_it1_l0, mul_it1_l1, mul_it2_l0, mul_it2_l1, put_len0, put_len1, *]; first | done | omega) | decide | (split <;> simp only [lens, mul_it1_l0, mul_it1_l1, mul_it2_l0, mul_it2_l1, put_len0, put_len1, *]) | (with_reducible exact Lt.mono (by assumption) (by decide)) | (simp only [Cs.len]; done) | rfl)) rfl rfl ?_
        refine CertK.vd (Y.move (up0 rfl rfl rfl) rfl rfl) rfl rfl ?_
        refine CertK.vd (Y.fa (f := 0) (fld := ⟨ "l", 25, 0, false, "", "fardel/field", 0⟩) ty27 rfl ty25 (by decide) (up0 rfl rfl rfl) rfl rfl) rfl rfl ?_
        refine CertK.vd (Y.ia0 ty25 ty24 (up0 rfl rfl rfl) rfl rfl rfl (by first | (with_reducible assumption) | omega | (simp only [lens, mul_it1_l0, mul_it1_l1, mul_it2_l0, mul_it2_l1, put_len0, put_len1, *]; first | done | omega) | decide | (split <;> simp only [lens, mul_it1_l0, mul_it1_l1, mul_it2_l0, mul_it2_l1, put_len0, put_len1, *]) | (with_reducible exact Lt.mono (by assumption) (by decide)) | (simp only [Cs.len]; done) | rfl)) rfl rfl ?_
        refine CertK.vd (Y.ldI ty24 rfl (up0 rfl rfl rfl) rfl rfl rfl (by first | (with_reducible assumption) | omega | (simp only [lens, mul_it1_l0, mul_it1_l1, mul_it2_l0, mul_it2_l1, put_len0, put_len1, *]; first | done | omega) | decide | (split <;> simp only [lens, mul_it1_l0, mul_it1_l1, mul_it2_l0, mul_it2_l1, put_len0, put_len1, *]) | (with_reducible exact Lt.mono (by assumption) (by decide)) | (simp only [Cs.len]; done) | rfl)) rfl rfl ?_
        refine CertK.vd (Y.move (up0 rfl rfl rfl) rfl rfl) rfl rfl ?_
        refine CertK.vd (Y.fa (f := 0) (fld := ⟨ "l", 25, 0, false, "", "fardel/field", 0⟩) ty27 rfl ty25 (by decide) (up0 rfl rfl rfl) rfl rfl) rfl rfl ?_
        refine CertK.vd (Y.ia0 ty25 ty24 (up0 rfl rfl rfl) rfl rfl rfl (by first | (with_reducible assumption) | omega | (simp only [lens, mul_it1_l0, mul_it1_l1, mul_it2_l0, mul_it2_l1, put_len0, put_len1, *]; first | done | omega) | decide | (split <;> simp only [lens, mul_it1_l0, mul_it1_l1, mul_it2_l0, mul_it2_l1, put_len0, put_len1, *]) | (with_reducible exact Lt.mono (by assumption) (by decide)) | (simp only [Cs.len]; done) | rfl)) rfl rfl ?_
        refine CertK.vd (Y.ldI ty24 rfl (up0 rfl rfl rfl) rfl rfl rfl (by first | (with_reducible assumption) | omega | (simp only [lens, mul_it1_l0, mul_it1_l1, mul_it2_l0, mul_it2_l1, put_len0, put_len1, *]; first | done | omega) | decide | (split <;> simp only [lens, mul_it1_l0, mul_it1_l1, mul_it2_l0, mul_it2_l1, put_len0, put_len1, *]) | (with_reducible exact Lt.mono (by assumption) (by decide)) | (simp only [Cs.len]; done) | rfl)) rfl rfl ?_
        refine CertK.vd (Y.mul (a := 19) u64s u64m (up0 rfl rfl rfl) rfl rfl rfl) rfl rfl ?_
        refine CertK.u (Y.callU (vs := [_, _, _]) (ids := [6, 5]) (w_put _ _ (by decide) _ _ _ _ _ (by first | (with_reducible assumption) | omega | (simp only [lens, mul_it1_l0, mul_it1_l1, mul_it2_l0, mul_it2_l1, put_len0, put_len1, *]; first | done | omega) | decide | (split <;> simp only [lens, mul_it1_l0, mul_it1_l1, mul_it2_l0, mul_it2_l1, put_len0, put_len1, *]) | (with_reducible exact Lt.mono (by assumption) (by decide)) | (simp only [Cs.len]; done) | rfl) (by first | (with_reducible assumption) | omega | (simp only [lens, mul_it1_l0, mul_it1_l1, mul_it2_l0, mul_it2_l1, put_len0, put_len1, *]; first | done | omega) | decide | (split <;> simp only [lens, mul_it1_l0, mul_it1_l1, mul_it2_l0, mul_it2_l1, put_len0, put_len1, *]) | (with_reducible exact Lt.mono (by assumption) (by decide)) | (simp only [Cs.len]; done) | rfl) (by first | (with_reducible assumption) | omega | (simp only [lens, mul_it1_l0, mul_it1_l1, mul_it2_l0, mul_it2_l1, put_len0, put_len1, *]; first | done | omega) | decide | (split <;> simp only [lens, mul_it1_l0, mul_it1_l1, mul_it2_l0, mul_it2_l1, put_len0, put_len1, *]) | (with_reducible exact Lt.mono (by assumption) (by decide)) | (simp only [Cs.len]; done) | rfl)) fnok49 (up0 rfl rfl rfl) rfl rfl (.cons _ _ _ _ rfl (.cons _ _ _ _ rfl (.cons _ _ _ _ rfl .nil))) (ownL2 (n := 5) (n' := 5) rfl (by first | (with_reducible assumption) | omega | (simp only [lens, mul_it1_l0, mul_it1_l1, mul_it2_l0, mul_it2_l1, put_len0, put_len1, *]; first | done | omega) | decide | (split <;> simp only [lens, mul_it1_l0, mul_it1_l1, mul_it2_l0, mul_it2_l1, put_len0, put_len1, *]) | (with_reducible exact Lt.mono (by assumption) (by decide)) | (simp only [Cs.len]; done) | rfl) (by decide) rfl (by first | (with_reducible assumption) | omega | (simp only [lens, mul_it1_l0, mul_it1_l1, mul_it2_l0, mul_it2_l1, put_len0, put_len1, *]; first | done | omega) | decide | (split <;> simp only [lens, mul_it1_l0, mul_it1_l1, mul_it2_l0, mul_it2_l1, put_len0, put_len1, *]) | (with_reducible exact Lt.mono (by assumption) (by decide)) | (simp only [Cs.len]; done) | rfl) (by decide)) rfl (by simp) rfl) rfl rfl rfl rfl rfl ?_
        refine CertK.nil ?_
        refine Holds.reg ?_
        refine OpsFrom.v (Y.addI (b := 1) (up0 rfl rfl rfl) rfl rfl rfl (by first | (with_reducible assumption) | omega | (simp only [lens, mul_it1_l0, mul_it1_l1, mul_it2_l0, mul_it2_l1, put_len0, put_len1, *]; first | done | omega) | decide | (split <;> simp only [lens, mul_it1_l0, mul_it1_l1, mul_it2_l0, mul_it2_l1, put_len0, put_len1, *]) | (with_reducible exact Lt.mono (by assumption) (by decide)) | (simp only [Cs.len]; done) | rfl)) rfl ?_
        refine OpsFrom.v (Y.move (up0 rfl rfl rfl) rfl rfl) rfl ?_
        refine OpsFrom.nil ?_
        exact Holds.again (i2_ + 1) (by omega) (by omega) [] ⟨⟨rfl, rfl, rfl, rfl, rfl, rfl, rfl, rfl, rfl, rfl, (nEq (by omega)), trivial⟩, ⟨rfl, rfl, rfl, (hEq (congrArg (fun (s : (List Nat) × (List Nat)) => s.1) ((mul_it2_s x y i1_ (mul_it1 x y i1_) i2_).trans ((if_neg h24)))).symm), (hEq (congrArg (fun (s : (List Nat) × (List Nat)) => s.2) ((mul_it2_s x y i1_ (mul_it1 x y i1_) i2_).trans ((if_neg h24)))).symm), trivial⟩, rfl, rfl⟩
    · obtain rfl : i2_ = 5 := by omega
      refine Holds.exit ?_
      refine Holds.reg ?_
      refine OpsFrom.v (Y.addI (b := 1) (up0 rfl rfl rfl) rfl rfl rfl (by first | (with_reducible assumption) | omega | (simp only [lens, mul_it1_l0, mul_it1_l1, mul_it2_l0, mul_it2_l1, *]; first | done | omega) | decide | (split <;> simp only [lens, mul_it1_l0, mul_it1_l1, mul_it2_l0, mul_it2_l1, *]) | (with_reducible exact Lt.mono (by assumption) (by decide)) | (simp only [Cs.len]; done) | rfl)) rfl ?_
      refine OpsFrom.v (Y.move (up0 rfl rfl rfl) rfl rfl) rfl ?_
      refine OpsFrom.nil ?_
      exact Holds.again (i1_ + 1) (by omega) (by omega) [] ⟨⟨rfl, rfl, rfl, rfl, rfl, rfl, (nEq (by omega)), trivial⟩, ⟨rfl, rfl, rfl, (hEq (by rw [mul_it1_s]; unfold mul_s1; first | (dsimp only; done) | rfl)), (hEq (by rw [mul_it1_s]; unfold mul_s1; first | (dsimp only; done) | rfl)), trivial⟩, rfl, rfl⟩
  · obtain rfl : i1_ = 5 := by omega
    refine Holds.exit ?_
    refine Holds.seq ?_
    refine Holds.reg ?_
    refine OpsFrom.u (Y.alloc (d := 10) ty25 rfl rfl (up0 rfl rfl rfl) rfl) rfl rfl rfl ?_
    refine OpsFrom.u (Y.alloc (d := 11) ty25 rfl rfl (up0 rfl rfl rfl) rfl) rfl rfl rfl ?_
    refine OpsFrom.nil ?_
    refine Holds.seq ?_
    refine Holds.seq ?_
    refine Holds.reg ?_
    refine OpsFrom.v (Y.move (v := (.one (.n .i64 0))) (up0 rfl rfl rfl) rfl rfl) rfl ?_
    refine OpsFrom.nil ?_
    refine Holds.block ?_
    refine Holds.loop (fun (i3_ : Nat) => ⟨[(4, .one (.p 4 0)), (5, .one (.p 5 0)), (6, .one (.p 6 0)), (10, .one (.p 10 0)), (11, .one (.p 11 0)), (55, .one (.n .i64 i3_))], [(4, .own (.ints .u64 (List.replicate 5 0))), (5, .own (.ints .u64 ((mul_it1 x y 5).1))), (6, .own (.ints .u64 ((mul_it1 x y 5).2))), (10, .own (.ints .u64 ((mul_it3 x y i3_).1))), (11, .own (.ints .u64 ((mul_it3 x y i3_).2)))]⟩) (fun (i3_ : Nat) => i3_ ≤ 5) (fun (i3_ : Nat) => 5 - i3_) 0 (by first | (with_reducible assumption) | omega | (simp only [lens, mul_it1_l0, mul_it1_l1, mul_it3_l0, mul_it3_l1, *]; first | done | omega) | decide | (split <;> simp only [lens, mul_it1_l0, mul_it1_l1, mul_it3_l0, mul_it3_l1, *]) | (with_reducible exact Lt.mono (by assumption) (by decide)) | (simp only [Cs.len]; done) | rfl) [] ⟨⟨rfl, rfl, rfl, rfl, rfl, rfl, trivial⟩, ⟨rfl, rfl, rfl, (hEq (congrArg (fun (s : (List Nat) × (List Nat)) => s.1) (mul_it3_z x y)).symm), (hEq (congrArg (fun (s : (List Nat) × (List Nat)) => s.2) (mul_it3_z x y)).symm), trivial⟩, rfl, rfl⟩ ?_
    intro i3_ k3_
    refine Holds.seq ?_
    refine Holds.reg ?_
    refine OpsFrom.v (Y.lss (b := 5) (up0 rfl rfl rfl) rfl rfl rfl) rfl ?_
    refine OpsFrom.nil ?_
    refine Holds.seq ?_
    refine Holds.condD rfl (fun h56 => ?_) (fun h56 => ?_)
    · refine Holds.skip ?_
      refine Holds.seq ?_
      refine Holds.block ?_
      refine Holds.seq ?_
      refine Holds.reg ?_
      refine OpsFrom.v (Y.move (up0 rfl rfl rfl) rfl rfl) rfl ?_
      refine OpsFrom.v (Y.assign (up0 rfl rfl rfl) rfl rfl) rfl ?_
      refine OpsFrom.nil ?_
      refine Holds.dr mx [([58], [59, 60, 61, 62, 63, 64, 65, 66, 67, 68, 69, 70, 71, 72]), ([59], [58, 60, 61, 62, 63, 64, 65, 66, 67, 68, 69, 70, 71, 72, 73, 10]), ([60], [58, 59, 64, 65, 66, 67, 68, 69, 70, 71, 72]), ([61], [58, 59, 64, 65, 66, 67, 68, 69, 70, 71, 72]), ([62], [58, 59, 64, 65, 66, 67, 68, 69, 70, 71, 72]), ([63], [58, 59, 64, 65, 66, 67, 68, 69, 70, 71, 72]), ([64], [58, 59, 60, 61, 62, 63, 68, 69, 70, 71, 73, 10]), ([65], [58, 59, 60, 61, 62, 63, 68, 69, 70, 71, 73, 10]), ([66], [58, 59, 60, 61, 62, 63, 68, 69, 70, 71, 73, 10]), ([67], [58, 59, 60, 61, 62, 63, 68, 69, 70, 71, 73, 10]), ([68], [58, 59, 60, 61, 62, 63, 64, 65, 66, 67, 73, 10]), ([69], [58, 59, 60, 61, 62, 63, 64, 65, 66, 67, 73, 10]), ([70], [58, 59, 60, 61, 62, 63, 64, 65, 66, 67, 73, 10]), ([71], [58, 59, 60, 61, 62, 63, 64, 65, 66, 67, 73, 10]), ([72], [58, 59, 60, 61, 62, 63, 73, 10]), ([73], [59, 64, 65, 66, 67, 68, 69, 70, 71, 72]), ([10], [59, 64, 65, 66, 67, 68, 69, 70, 71, 72]), ([74], []), ([11], [])] (by kernel_rfl) ?_
      refine CertK.vd (Y.move (up0 rfl rfl rfl) rfl rfl) rfl rfl ?_
      refine CertK.vd (Y.move (up0 rfl rfl rfl) rfl rfl) rfl rfl ?_
      refine CertK.vd (Y.move (up0 rfl rfl rfl) rfl rfl) rfl rfl ?_
      refine CertK.vd (Y.ia0 ty25 ty24 (up0 rfl rfl rfl) rfl rfl rfl (by first | (with_reducible assumption) | omega | (simp only [lens, mul_it1_l0, mul_it1_l1, mul_it3_l0, mul_it3_l1, *]; first | done | omega) | decide | (split <;> simp only [lens, mul_it1_l0, mul_it1_l1, mul_it3_l0, mul_it3_l1, *]) | (with_reducible exact Lt.mono (by assumption) (by decide)) | (simp only [Cs.len]; done) | rfl)) rfl rfl ?_
      refine CertK.vd (Y.ldI ty24 rfl (up0 rfl rfl rfl) rfl rfl rfl (by first | (with_reducible assumption) | omega | (simp only [lens, mul_it1_l0, mul_it1_l1, mul_it3_l0, mul_it3_l1, *]; first | done | omega) | decide | (split <;> simp only [lens, mul_it1_l0, mul_it1_l1, mul_it3_l0, mul_it3_l1, *]) | (with_reducible exact Lt.mono (by assumption) (by decide)) | (simp only [Cs.len]; done) | rfl)) rfl rfl ?_
      refine CertK.vd (Y.and (b := 2251799813685247) u64s u64m (up0 rfl rfl rfl) rfl rfl rfl) rfl rfl ?_
      refine CertK.vd (Y.move (up0 rfl rfl rfl) rfl rfl) rfl rfl ?_
      refine CertK.vd (Y.ia0 ty25 ty24 (up0 rfl rfl rfl) rfl rfl rfl (by first | (with_reducible assumption) | omega | (simp only [lens, mul_it1_l0, mul_it1_l1, mul_it3_l0, mul_it3_l1, *]; first | done | omega) | decide | (split <;> simp only [lens, mul_it1_l0, mul_it1_l1, mul_it3_l0, mul_it3_l1, *]) | (with_reducible exact Lt.mono (by assumption) (by decide)) | (simp only [Cs.len]; done) | rfl)) rfl rfl ?_
      refine CertK.vd (Y.ldI ty24 rfl (up0 rfl rfl rfl) rfl rfl rfl (by first | (with_reducible assumption) | omega | (simp only [lens, mul_it1_l0, mul_it1_l1, mul_it3_l0, mul_it3_l1, *]; first | done | omega) | decide | (split <;> simp only [lens, mul_it1_l0, mul_it1_l1, mul_it3_l0, mul_it3_l1, *]) | (with_reducible exact Lt.mono (by assumption) (by decide)) | (simp only [Cs.len]; done) | rfl)) rfl rfl ?_
      refine CertK.vd (Y.shl (b := 13) u64s u64m (up0 rfl rfl rfl) rfl rfl rfl) rfl rfl ?_
      refine CertK.vd (Y.move (up0 rfl rfl rfl) rfl rfl) rfl rfl ?_
      refine CertK.vd (Y.ia0 ty25 ty24 (up0 rfl rfl rfl) rfl rfl rfl (by first | (with_reducible assumption) | omega | (simp only [lens, mul_it1_l0, mul_it1_l1, mul_it3_l0, mul_it3_l1, *]; first | done | omega) | decide | (split <;> simp only [lens, mul_it1_l0, mul_it1_l1, mul_it3_l0, mul_it3_l1, *]) | (with_reducible exact Lt.mono (by assumption) (by decide)) | (simp only [Cs.len]; done) | rfl)) rfl rfl ?_
      refine CertK.vd (Y.ldI ty24 rfl (up0 rfl rfl rfl) rfl rfl rfl (by first | (with_reducible assumption) | omega | (simp only [lens, mul_it1_l0, mul_it1_l1, mul_it3_l0, mul_it3_l1, *]; first | done | omega) | decide | (split <;> simp only [lens, mul_it1_l0, mul_it1_l1, mul_it3_l0, mul_it3_l1, *]) | (with_reducible exact Lt.mono (by assumption) (by decide)) | (simp only [Cs.len]; done) | rfl)) rfl rfl ?_
      refine CertK.vd (Y.shr (b := 51) u64s u64m (up0 rfl rfl rfl) rfl rfl rfl) rfl rfl ?_
      refine CertK.vd (Y.or u64s u64m (up0 rfl rfl rfl) rfl rfl rfl) rfl rfl ?_
      refine CertK.vd (Y.ia0 ty25 ty24 (up0 rfl rfl rfl) rfl rfl rfl (by first | (with_reducible assumption) | omega | (simp only [lens, mul_it1_l0, mul_it1_l1, mul_it3_l0, mul_it3_l1, *]; first | done | omega) | decide | (split <;> simp only [lens, mul_it1_l0, mul_it1_l1, mul_it3_l0, mul_it3_l1, *]) | (with_reducible exact Lt.mono (by assumption) (by decide)) | (simp only [Cs.len]; done) | rfl)) rfl rfl ?_
      refine CertK.n (Y.stI ty24 (upN rfl rfl) rfl rfl rfl rfl (by first | (with_reducible assumption) | omega | (simp only [lens, mul_it1_l0, mul_it1_l1, mul_it3_l0, mul_it3_l1, *]; first | done | omega) | decide | (split <;> simp only [lens, mul_it1_l0, mul_it1_l1, mul_it3_l0, mul_it3_l1, *]) | (with_reducible exact Lt.mono (by assumption) (by decide)) | (simp only [Cs.len]; done) | rfl)) rfl rfl rfl rfl ?_
      refine CertK.v (Y.ia0 ty25 ty24 (up0 rfl rfl rfl) rfl rfl rfl (by first | (with_reducible assumption) | omega | (simp only [lens, mul_it1_l0, mul_it1_l1, mul_it3_l0, mul_it3_l1, *]; first | done | omega) | decide | (split <;> simp only [lens, mul_it1_l0, mul_it1_l1, mul_it3_l0, mul_it3_l1, *]) | (with_reducible exact Lt.mono (by assumption) (by decide)) | (simp only [Cs.len]; done) | rfl)) rfl ?_
      refine CertK.n (Y.stI ty24 (upN rfl rfl) rfl rfl rfl rfl (by first | (with_reducible assumption) | omega | (simp only [lens, mul_it1_l0, mul_it1_l1, mul_it3_l0, mul_it3_l1, *]; first | done | omega) | decide | (split <;> simp only [lens, mul_it1_l0, mul_it1_l1, mul_it3_l0, mul_it3_l1, *]) | (with_reducible exact Lt.mono (by assumption) (by decide)) | (simp only [Cs.len]; done) | rfl)) rfl rfl rfl rfl ?_
      refine CertK.nil ?_
      refine Holds.reg ?_
      refine OpsFrom.v (Y.addI (b := 1) (up0 rfl rfl rfl) rfl rfl rfl (by first | (with_reducible assumption) | omega | (simp only [lens, mul_it1_l0, mul_it1_l1, mul_it3_l0, mul_it3_l1, *]; first | done | omega) | decide | (split <;> simp only [lens, mul_it1_l0, mul_it1_l1, mul_it3_l0, mul_it3_l1, *]) | (with_reducible exact Lt.mono (by assumption) (by decide)) | (simp only [Cs.len]; done) | rfl)) rfl ?_
      refine OpsFrom.v (Y.move (up0 rfl rfl rfl) rfl rfl) rfl ?_
      refine OpsFrom.nil ?_
      exact Holds.again (i3_ + 1) (by omega) (by omega) [] ⟨⟨rfl, rfl, rfl, rfl, rfl, (nEq (by omega)), trivial⟩, ⟨rfl, rfl, rfl, (hEq (by rw [mul_it3_s]; unfold mul_s3; first | (dsimp only; done) | rfl)), (hEq (by rw [mul_it3_s]; unfold mul_s3; first | (dsimp only; done) | rfl)), trivial⟩, rfl, rfl⟩
    · obtain rfl : i3_ = 5 := by omega
      refine Holds.exit ?_
      refine Holds.seq ?_
      refine Holds.reg ?_
      refine OpsFrom.v (Y.ia0 (i := 0) ty25 ty24 (up0 rfl rfl rfl) rfl rfl rfl (by first | (with_reducible assumption) | omega | (simp only [lens, mul_it1_l0, mul_it1_l1, mul_it3_l0, mul_it3_l1, *]; first | done | omega) | decide | (split <;> simp only [lens, mul_it1_l0, mul_it1_l1, mul_it3_l0, mul_it3_l1, *]) | (with_reducible exact Lt.mono (by assumption) (by decide)) | (simp only [Cs.len]; done) | rfl)) rfl ?_
      refine OpsFrom.v (Y.ldI ty24 rfl (up0 rfl rfl rfl) rfl rfl rfl (by first | (with_reducible assumption) | omega | (simp only [lens, mul_it1_l0, mul_it1_l1, mul_it3_l0, mul_it3_l1, *]; first | done | omega) | decide | (split <;> simp only [lens, mul_it1_l0, mul_it1_l1, mul_it3_l0, mul_it3_l1, *]) | (with_reducible exact Lt.mono (by assumption) (by decide)) | (simp only [Cs.len]; done) | rfl)) rfl ?_
      refine OpsFrom.v (Y.ia0 (i := 4) ty25 ty24 (up0 rfl rfl rfl) rfl rfl rfl (by first | (with_reducible assumption) | omega | (simp only [lens, mul_it1_l0, mul_it1_l1, mul_it3_l0, mul_it3_l1, *]; first | done | omega) | decide | (split <;> simp only [lens, mul_it1_l0, mul_it1_l1, mul_it3_l0, mul_it3_l1, *]) | (with_reducible exact Lt.mono (by assumption) (by decide)) | (simp only [Cs.len]; done) | rfl)) rfl ?_
      refine OpsFrom.v (Y.ldI ty24 rfl (up0 rfl rfl rfl) rfl rfl rfl (by first | (with_reducible assumption) | omega | (simp only [lens, mul_it1_l0, mul_it1_l1, mul_it3_l0, mul_it3_l1, *]; first | done | omega) | decide | (split <;> simp only [lens, mul_it1_l0, mul_it1_l1, mul_it3_l0, mul_it3_l1, *]) | (with_reducible exact Lt.mono (by assumption) (by decide)) | (simp only [Cs.len]; done) | rfl)) rfl ?_
      refine OpsFrom.v (Y.mul (a := 19) u64s u64m (up0 rfl rfl rfl) rfl rfl rfl) rfl ?_
      refine OpsFrom.v (Y.add u64s u64m (up0 rfl rfl rfl) rfl rfl rfl) rfl ?_
      refine OpsFrom.v (Y.ia0 (i := 0) ty25 ty24 (up0 rfl rfl rfl) rfl rfl rfl (by first | (with_reducible assumption) | omega | (simp only [lens, mul_it1_l0, mul_it1_l1, mul_it3_l0, mul_it3_l1, *]; first | done | omega) | decide | (split <;> simp only [lens, mul_it1_l0, mul_it1_l1, mul_it3_l0, mul_it3_l1, *]) | (with_reducible exact Lt.mono (by assumption) (by decide)) | (simp only [Cs.len]; done) | rfl)) rfl ?_
      refine OpsFrom.n (Y.stI ty24 (upN rfl rfl) rfl rfl rfl rfl (by first | (with_reducible assumption) | omega | (simp only [lens, mul_it1_l0, mul_it1_l1, mul_it3_l0, mul_it3_l1, *]; first | done | omega) | decide | (split <;> simp only [lens, mul_it1_l0, mul_it1_l1, mul_it3_l0, mul_it3_l1, *]) | (with_reducible exact Lt.mono (by assumption) (by decide)) | (simp only [Cs.len]; done) | rfl)) rfl rfl ?_
      refine OpsFrom.nil ?_
      refine Holds.seq ?_
      refine Holds.seq ?_
      refine Holds.reg ?_
      refine OpsFrom.v (Y.move (v := (.one (.n .i64 0))) (up0 rfl rfl rfl) rfl rfl) rfl ?_
      refine OpsFrom.nil ?_
      refine Holds.block ?_
      refine Holds.loop (fun (i4_ : Nat) => ⟨[(4, .one (.p 4 0)), (10, .one (.p 10 0)), (11, .one (.p 11 0)), (83, .one (.n .i64 i4_))], [(4, .own (.ints .u64 (List.replicate 5 0))), (10, .own (.ints .u64 (mul_it4 x y i4_))), (11, .own (.ints .u64 ((mul_it3 x y 5).2)))]⟩) (fun (i4_ : Nat) => i4_ ≤ 4) (fun (i4_ : Nat) => 4 - i4_) 0 (by first | (with_reducible assumption) | omega | (simp only [lens, mul_it1_l0, mul_it1_l1, mul_it3_l0, mul_it3_l1, mul_it4_l, *]; first | done | omega) | decide | (split <;> simp only [lens, mul_it1_l0, mul_it1_l1, mul_it3_l0, mul_it3_l1, mul_it4_l, *]) | (with_reducible exact Lt.mono (by assumption) (by decide)) | (simp only [Cs.len]; done) | rfl) [] ⟨⟨rfl, rfl, rfl, rfl, trivial⟩, ⟨rfl, (hEq (congrArg (fun (s : List Nat) => s) (mul_it4_z x y)).symm), rfl, trivial⟩, rfl, rfl⟩ ?_
      intro i4_ k4_
      refine Holds.seq ?_
      refine Holds.reg ?_
      refine OpsFrom.v (Y.lss (b := 4) (up0 rfl rfl rfl) rfl rfl rfl) rfl ?_
      refine OpsFrom.nil ?_
      refine Holds.seq ?_
      refine Holds.condD rfl (fun h84 => ?_) (fun h84 => ?_)
      · refine Holds.skip ?_
        refine Holds.seq ?_
        refine Holds.block ?_
        refine Holds.seq ?_
        refine Holds.reg ?_
        refine OpsFrom.v (Y.move (up0 rfl rfl rfl) rfl rfl) rfl ?_
        refine OpsFrom.v (Y.assign (up0 rfl rfl rfl) rfl rfl) rfl ?_
        refine OpsFrom.nil ?_
        refine Holds.dr mx [([86], [90, 91, 92]), ([87], [90, 91, 92]), ([88], [90, 91, 92]), ([89], [90, 91, 92]), ([90], [86, 87, 88, 89]), ([91], [86, 87, 88, 89]), ([92], [86, 87, 88, 89]), ([93], []), ([94], []), ([10], [])] (by kernel_rfl) ?_
        refine CertK.vd (Y.move (up0 rfl rfl rfl) rfl rfl) rfl rfl ?_
        refine CertK.vd (Y.addI (b := 1) (up0 rfl rfl rfl) rfl rfl rfl (by first | (with_reducible assumption) | omega | (simp only [lens, mul_it1_l0, mul_it1_l1, mul_it3_l0, mul_it3_l1, mul_it4_l, *]; first | done | omega) | decide | (split <;> simp only [lens, mul_it1_l0, mul_it1_l1, mul_it3_l0, mul_it3_l1, mul_it4_l, *]) | (with_reducible exact Lt.mono (by assumption) (by decide)) | (simp only [Cs.len]; done) | rfl)) rfl rfl ?_
        refine CertK.vd (Y.ia0 ty25 ty24 (up0 rfl rfl rfl) rfl rfl rfl (by first | (with_reducible assumption) | omega | (simp only [lens, mul_it1_l0, mul_it1_l1, mul_it3_l0, mul_it3_l1, mul_it4_l, *]; first | done | omega) | decide | (split <;> simp only [lens, mul_it1_l0, mul_it1_l1, mul_it3_l0, mul_it3_l1, mul_it4_l, *]) | (with_reducible exact Lt.mono (by assumption) (by decide)) | (simp only [Cs.len]; done) | rfl)) rfl rfl ?_
        refine CertK.vd (Y.ldI ty24 rfl (up0 rfl rfl rfl) rfl rfl rfl (by first | (with_reducible assumption) | omega | (simp only [lens, mul_it1_l0, mul_it1_l1, mul_it3_l0, mul_it3_l1, mul_it4_l, *]; first | done | omega) | decide | (split <;> simp only [lens, mul_it1_l0, mul_it1_l1, mul_it3_l0, mul_it3_l1, mul_it4_l, *]) | (with_reducible exact Lt.mono (by assumption) (by decide)) | (simp only [Cs.len]; done) | rfl)) rfl rfl ?_
        refine CertK.vd (Y.move (up0 rfl rfl rfl) rfl rfl) rfl rfl ?_
        refine CertK.vd (Y.ia0 ty25 ty24 (up0 rfl rfl rfl) rfl rfl rfl (by first | (with_reducible assumption) | omega | (simp only [lens, mul_it1_l0, mul_it1_l1, mul_it3_l0, mul_it3_l1, mul_it4_l, *]; first | done | omega) | decide | (split <;> simp only [lens, mul_it1_l0, mul_it1_l1, mul_it3_l0, mul_it3_l1, mul_it4_l, *]) | (with_reducible exact Lt.mono (by assumption) (by decide)) | (simp only [Cs.len]; done) | rfl)) rfl rfl ?_
        refine CertK.vd (Y.ldI ty24 rfl (up0 rfl rfl rfl) rfl rfl rfl (by first | (with_reducible assumption) | omega | (simp only [lens, mul_it1_l0, mul_it1_l1, mul_it3_l0, mul_it3_l1, mul_it4_l, *]; first | done | omega) | decide | (split <;> simp only [lens, mul_it1_l0, mul_it1_l1, mul_it3_l0, mul_it3_l1, mul_it4_l, *]) | (with_reducible exact Lt.mono (by assumption) (by decide)) | (simp only [Cs.len]; done) | rfl)) rfl rfl ?_
        refine CertK.v (Y.add u64s u64m (up0 rfl rfl rfl) rfl rfl rfl) rfl ?_
        refine CertK.v (Y.ia0 ty25 ty24 (up0 rfl rfl rfl) rfl rfl rfl (by first | (with_reducible assumption) | omega | (simp only [lens, mul_it1_l0, mul_it1_l1, mul_it3_l0, mul_it3_l1, mul_it4_l, *]; first | done | omega) | decide | (split <;> simp only [lens, mul_it1_l0, mul_it1_l1, mul_it3_l0, mul_it3_l1, mul_it4_l, *]) | (with_reducible exact Lt.mono (by assumption) (by decide)) | (simp only [Cs.len]; done) | rfl)) rfl ?_
        refine CertK.n (Y.stI ty24 (upN rfl rfl) rfl rfl rfl rfl (by first | (with_reducible assumption) | omega | (simp only [lens, mul_it1_l0, mul_it1_l1, mul_it3_l0, mul_it3_l1, mul_it4_l, *]; first | done | omega) | decide | (split <;> simp only [lens, mul_it1_l0, mul_it1_l1, mul_it3_l0, mul_it3_l1, mul_it4_l, *]) | (with_reducible exact Lt.mono (by assumption) (by decide)) | (simp only [Cs.len]; done) | rfl)) rfl rfl rfl rfl ?_
        refine CertK.nil ?_
        refine Holds.reg ?_
        refine OpsFrom.v (Y.addI (b := 1) (up0 rfl rfl rfl) rfl rfl rfl (by first | (with_reducible assumption) | omega | (simp only [lens, mul_it1_l0, mul_it1_l1, mul_it3_l0, mul_it3_l1, mul_it4_l, *]; first | done | omega) | decide | (split <;> simp only [lens, mul_it1_l0, mul_it1_l1, mul_it3_l0, mul_it3_l1, mul_it4_l, *]) | (with_reducible exact Lt.mono (by assumption) (by decide)) | (simp only [Cs.len]; done) | rfl)) rfl ?_
        refine OpsFrom.v (Y.move (up0 rfl rfl rfl) rfl rfl) rfl ?_
        refine OpsFrom.nil ?_
        exact Holds.again (i4_ + 1) (by omega) (by omega) [] ⟨⟨rfl, rfl, rfl, (nEq (by omega)), trivial⟩, ⟨rfl, (hEq (by rw [mul_it4_s]; unfold mul_s4; first | (dsimp only; done) | rfl)), rfl, trivial⟩, rfl, rfl⟩
      · obtain rfl : i4_ = 4 := by omega
        refine Holds.exit ?_
        refine Holds.seq ?_
        refine Holds.reg ?_
        refine OpsFrom.v (Y.ldAll ty25 rfl (up0 rfl rfl rfl) rfl rfl rfl (by first | (with_reducible assumption) | omega | (simp only [lens, mul_it1_l0, mul_it1_l1, mul_it3_l0, mul_it3_l1, mul_it4_l, *]; first | done | omega) | decide | (split <;> simp only [lens, mul_it1_l0, mul_it1_l1, mul_it3_l0, mul_it3_l1, mul_it4_l, *]) | (with_reducible exact Lt.mono (by assumption) (by decide)) | (simp only [Cs.len]; done) | rfl) (by decide)) rfl ?_
        refine OpsFrom.v (Y.callV (w_car _ (by first | (with_reducible assumption) | omega | (simp only [lens, mul_it1_l0, mul_it1_l1, mul_it3_l0, mul_it3_l1, mul_it4_l, car_l, *]; first | done | omega) | decide | (split <;> simp only [lens, mul_it1_l0, mul_it1_l1, mul_it3_l0, mul_it3_l1, mul_it4_l, car_l, *]) | (with_reducible exact Lt.mono (by assumption) (by decide)) | (simp only [Cs.len]; done) | rfl)) fnok44 (up0 rfl rfl rfl) rfl rfl (.cons _ _ _ _ rfl .nil) (.cons _ _ _ _ (.same _) .nil) rfl rfl) rfl ?_
        refine OpsFrom.n (Y.stR ty27 (upN rfl rfl) rfl rfl rfl rfl rfl (by first | (with_reducible assumption) | omega | (simp only [lens, mul_it1_l0, mul_it1_l1, mul_it3_l0, mul_it3_l1, mul_it4_l, car_l, *]; first | done | omega) | decide | (split <;> simp only [lens, mul_it1_l0, mul_it1_l1, mul_it3_l0, mul_it3_l1, mul_it4_l, car_l, *]) | (with_reducible exact Lt.mono (by assumption) (by decide)) | (simp only [Cs.len]; done) | rfl) (by first | (with_reducible assumption) | omega | (simp only [lens, mul_it1_l0, mul_it1_l1, mul_it3_l0, mul_it3_l1, mul_it4_l, car_l, *]; first | done | omega) | decide | (split <;> simp only [lens, mul_it1_l0, mul_it1_l1, mul_it3_l0, mul_it3_l1, mul_it4_l, car_l, *]) | (with_reducible exact Lt.mono (by assumption) (by decide)) | (simp only [Cs.len]; done) | rfl) (by decide)) rfl rfl ?_
        refine OpsFrom.nil ?_
        refine Holds.ret ?_
        exact Holds.ret1 (.inl rfl) rfl (.rowN rfl rfl ty27 rfl (by first | (with_reducible assumption) | omega | (simp only [lens, mul_it1_l0, mul_it1_l1, mul_it3_l0, mul_it3_l1, mul_it4_l, car_l, *]; first | done | omega) | decide | (split <;> simp only [lens, mul_it1_l0, mul_it1_l1, mul_it3_l0, mul_it3_l1, mul_it4_l, car_l, *]) | (with_reducible exact Lt.mono (by assumption) (by decide)) | (simp only [Cs.len]; done) | rfl) (by decide)) (.same _) rfl

theorem mul_l (x y : List Nat) : (mul x y).length = 5 := by
  unfold mul
  rw [car_len _ (by rw [mul_it4_l, List.length_set, mul_it3_l0]; rfl)]
attribute [irreducible] mul put mulHi

end Go.Proofs.Ytnfiiclmbiiokaa
