/-
  Walks: loading, bytes, sums.
-/
import Derived.Test.YtnfiiclmbiiokaaWa
namespace Go.Proofs.Ytnfiiclmbiiokaa
open Go Go.Fx
set_option linter.unusedVariables false
set_option linter.unusedSimpArgs false
def load (b : List Nat) : List Nat :=
  let v1_ : List Nat := ((((List.replicate 4 0).set 0 (wrd ((b.drop 0).take (8 - 0)))).set 1 (wrd ((b.drop 8).take (16 - 8)))).set 2 (wrd ((b.drop 16).take (24 - 16)))).set 3 (wrd ((b.drop 24).take (32 - 24)))
  let v2_ : Nat := (v1_.getD 1 0) * 2 ^ 13 % 18446744073709551616
  let v3_ : Nat := (((v1_.getD 0 0) / 2 ^ 51) ||| v2_) &&& 2251799813685247
  let v4_ : Nat := (v1_.getD 2 0) * 2 ^ 26 % 18446744073709551616
  let v5_ : Nat := (((v1_.getD 1 0) / 2 ^ 38) ||| v4_) &&& 2251799813685247
  let v6_ : Nat := (v1_.getD 3 0) * 2 ^ 39 % 18446744073709551616
  let v7_ : Nat := (((v1_.getD 2 0) / 2 ^ 25) ||| v6_) &&& 2251799813685247
  let v8_ : List Nat := (((((List.replicate 5 0).set 0 ((v1_.getD 0 0) &&& 2251799813685247)).set 1 v3_).set 2 v5_).set 3 v7_).set 4 ((v1_.getD 3 0) / 2 ^ 12)
  (car v8_)
theorem load_len (b : List Nat) (l_b : b.length = 32) : ((load b)).length = 5 := by
  unfold load
  first | (simp [car_l]; done) | (simp [*, car_l]; done) | (dsimp only; (repeat' split) <;> simp [*, car_l])
theorem w_load (b : List Nat) (l_b : b.length = 32) : VC Try.prog 16 [.row (.ints .u8 b)] (.row (.ints .u64 (load b))) := by
  refine VC.go Try.func16 rfl Try.ntmps16 rfl rfl fun O w => ?_
  refine Holds.seq ?_
  refine Holds.reg ?_
  refine OpsFrom.u (Y.boxR (d := 1) (up0 rfl rfl rfl) rfl rfl rfl) rfl rfl rfl ?_
  refine OpsFrom.u (Y.alloc (d := 2) ty27 rfl rfl (up0 rfl rfl rfl) rfl) rfl rfl rfl ?_
  refine OpsFrom.nil ?_
  refine Holds.seq ?_
  refine Holds.dr mx [([4], [6, 8, 10, 3]), ([5], [6, 8, 10, 3]), ([6], [4, 5, 8, 10, 3]), ([7], [8, 10, 3]), ([8], [4, 5, 6, 7, 10, 3]), ([9], [10, 3]), ([10], [4, 5, 6, 7, 8, 9, 3]), ([11], [3]), ([12], [3]), ([3], [4, 5, 6, 7, 8, 9, 10, 11, 12]), ([3], [])] (by kernel_rfl) ?_
  refine CertK.vd (Y.slArr0 ty22 ty5 (up0 rfl rfl rfl) rfl rfl rfl (by first | (with_reducible assumption) | omega | (simp only [lens, *]; first | done | omega) | decide | (split <;> simp only [lens, *]) | (with_reducible exact Lt.mono (by assumption) (by decide)) | (simp only [Cs.len]; done) | rfl) (bnd1 (v := 0) rfl) (bnd1 (v := 8) rfl) (by first | (with_reducible assumption) | omega | (simp only [lens, *]; first | done | omega) | decide | (split <;> simp only [lens, *]) | (with_reducible exact Lt.mono (by assumption) (by decide)) | (simp only [Cs.len]; done) | rfl) (by first | (with_reducible assumption) | omega | (simp only [lens, *]; first | done | omega) | decide | (split <;> simp only [lens, *]) | (with_reducible exact Lt.mono (by assumption) (by decide)) | (simp only [Cs.len]; done) | rfl)) rfl rfl ?_
  refine CertK.vd (Y.callV (w_wrd _ (by first | (with_reducible assumption) | omega | (simp only [lens, *]; first | done | omega) | decide | (split <;> simp only [lens, *]) | (with_reducible exact Lt.mono (by assumption) (by decide)) | (simp only [Cs.len]; done) | rfl)) fnok43 (up0 rfl rfl rfl) rfl rfl (.cons _ _ _ _ rfl .nil) (.cons _ _ _ _ (.sg _ _ _ _ _ _ rfl rfl (by first | (with_reducible assumption) | omega | (simp only [lens, *]; first | done | omega) | decide | (split <;> simp only [lens, *]) | (with_reducible exact Lt.mono (by assumption) (by decide)) | (simp only [Cs.len]; done) | rfl)) .nil) rfl rfl) rfl rfl ?_
  refine CertK.vd (Y.slArr0 ty22 ty5 (up0 rfl rfl rfl) rfl rfl rfl (by first | (with_reducible assumption) | omega | (simp only [lens, *]; first | done | omega) | decide | (split <;> simp only [lens, *]) | (with_reducible exact Lt.mono (by assumption) (by decide)) | (simp only [Cs.len]; done) | rfl) (bnd1 (v := 8) rfl) (bnd1 (v := 16) rfl) (by first | (with_reducible assumption) | omega | (simp only [lens, *]; first | done | omega) | decide | (split <;> simp only [lens, *]) | (with_reducible exact Lt.mono (by assumption) (by decide)) | (simp only [Cs.len]; done) | rfl) (by first | (with_reducible assumption) | omega | (simp only [lens, *]; first | done | omega) | decide | (split <;> simp only [lens, *]) | (with_reducible exact Lt.mono (by assumption) (by decide)) | (simp only [Cs.len]; done) | rfl)) rfl rfl ?_
  refine CertK.vd (Y.callV (w_wrd _ (by first | (with_reducible assumption) | omega | (simp only [lens, *]; first | done | omega) | decide | (split <;> simp only [lens, *]) | (with_reducible exact Lt.mono (by assumption) (by decide)) | (simp only [Cs.len]; done) | rfl)) fnok43 (up0 rfl rfl rfl) rfl rfl (.cons _ _ _ _ rfl .nil) (.cons _ _ _ _ (.sg _ _ _ _ _ _ rfl rfl (by first | (with_reducible assumption) | omega | (simp only [lens, *]; first | done | omega) | decide | (split <;> simp only [lens, *]) | (with_reducible exact Lt.mono (by assumption) (by decide)) | (simp only [Cs.len]; done) | rfl)) .nil) rfl rfl) rfl rfl ?_
  refine CertK.vd (Y.slArr0 ty22 ty5 (up0 rfl rfl rfl) rfl rfl rfl (by first | (with_reducible assumption) | omega | (simp only [lens, *]; first | done | omega) | decide | (split <;> simp only [lens, *]) | (with_reducible exact Lt.mono (by assumption) (by decide)) | (simp only [Cs.len]; done) | rfl) (bnd1 (v := 16) rfl) (bnd1 (v := 24) rfl) (by first | (with_reducible assumption) | omega | (simp only [lens, *]; first | done | omega) | decide | (split <;> simp only [lens, *]) | (with_reducible exact Lt.mono (by assumption) (by decide)) | (simp only [Cs.len]; done) | rfl) (by first | (with_reducible assumption) | omega | (simp only [lens, *]; first | done | omega) | decide | (split <;> simp only [lens, *]) | (with_reducible exact Lt.mono (by assumption) (by decide)) | (simp only [Cs.len]; done) | rfl)) rfl rfl ?_
  refine CertK.vd (Y.callV (w_wrd _ (by first | (with_reducible assumption) | omega | (simp only [lens, *]; first | done | omega) | decide | (split <;> simp only [lens, *]) | (with_reducible exact Lt.mono (by assumption) (by decide)) | (simp only [Cs.len]; done) | rfl)) fnok43 (up0 rfl rfl rfl) rfl rfl (.cons _ _ _ _ rfl .nil) (.cons _ _ _ _ (.sg _ _ _ _ _ _ rfl rfl (by first | (with_reducible assumption) | omega | (simp only [lens, *]; first | done | omega) | decide | (split <;> simp only [lens, *]) | (with_reducible exact Lt.mono (by assumption) (by decide)) | (simp only [Cs.len]; done) | rfl)) .nil) rfl rfl) rfl rfl ?_
  refine CertK.vd (Y.slArr0 ty22 ty5 (up0 rfl rfl rfl) rfl rfl rfl (by first | (with_reducible assumption) | omega | (simp only [lens, *]; first | done | omega) | decide | (split <;> simp only [lens, *]) | (with_reducible exact Lt.mono (by assumption) (by decide)) | (simp only [Cs.len]; done) | rfl) (bnd1 (v := 24) rfl) (bnd1 (v := 32) rfl) (by first | (with_reducible assumption) | omega | (simp only [lens, *]; first | done | omega) | decide | (split <;> simp only [lens, *]) | (with_reducible exact Lt.mono (by assumption) (by decide)) | (simp only [Cs.len]; done) | rfl) (by first | (with_reducible assumption) | omega | (simp only [lens, *]; first | done | omega) | decide | (split <;> simp only [lens, *]) | (with_reducible exact Lt.mono (by assumption) (by decide)) | (simp only [Cs.len]; done) | rfl)) rfl rfl ?_
  refine CertK.vd (Y.callV (w_wrd _ (by first | (with_reducible assumption) | omega | (simp only [lens, *]; first | done | omega) | decide | (split <;> simp only [lens, *]) | (with_reducible exact Lt.mono (by assumption) (by decide)) | (simp only [Cs.len]; done) | rfl)) fnok43 (up0 rfl rfl rfl) rfl rfl (.cons _ _ _ _ rfl .nil) (.cons _ _ _ _ (.sg _ _ _ _ _ _ rfl rfl (by first | (with_reducible assumption) | omega | (simp only [lens, *]; first | done | omega) | decide | (split <;> simp only [lens, *]) | (with_reducible exact Lt.mono (by assumption) (by decide)) | (simp only [Cs.len]; done) | rfl)) .nil) rfl rfl) rfl rfl ?_
  refine CertK.vd (Y.buildA ty68 ty24 rfl (up0 rfl rfl rfl) rfl (.cons _ _ _ _ _ _ _ _ _ rfl rfl rfl rfl (Spl.n (by first | decide | (simp; done))) (.cons _ _ _ _ _ _ _ _ _ rfl rfl rfl rfl (Spl.n (by first | decide | (simp; done))) (.cons _ _ _ _ _ _ _ _ _ rfl rfl rfl rfl (Spl.n (by first | decide | (simp; done))) (.cons _ _ _ _ _ _ _ _ _ rfl rfl rfl rfl (Spl.n (by first | decide | (simp; done))) (.nil _)))))) rfl rfl ?_
  refine CertK.u (Y.alloc (d := 3) ty68 rfl rfl (up0 rfl rfl rfl) rfl) rfl rfl rfl rfl rfl ?_
  refine CertK.n (Y.stR ty68 (upN rfl rfl) rfl rfl rfl rfl rfl (by first | (with_reducible assumption) | omega | (simp only [lens, *]; first | done | omega) | decide | (split <;> simp only [lens, *]) | (with_reducible exact Lt.mono (by assumption) (by decide)) | (simp only [Cs.len]; done) | rfl) (by first | (with_reducible assumption) | omega | (simp only [lens, *]; first | done | omega) | decide | (split <;> simp only [lens, *]) | (with_reducible exact Lt.mono (by assumption) (by decide)) | (simp only [Cs.len]; done) | rfl) (by decide)) rfl rfl rfl rfl ?_
  refine CertK.nil ?_
  refine Holds.seq ?_
  refine Holds.reg ?_
  refine OpsFrom.v (Y.ia0 (i := 0) ty68 ty24 (up0 rfl rfl rfl) rfl rfl rfl (by first | (with_reducible assumption) | omega | (simp only [lens, *]; first | done | omega) | decide | (split <;> simp only [lens, *]) | (with_reducible exact Lt.mono (by assumption) (by decide)) | (simp only [Cs.len]; done) | rfl)) rfl ?_
  refine OpsFrom.v (Y.ldI ty24 rfl (up0 rfl rfl rfl) rfl rfl rfl (by first | (with_reducible assumption) | omega | (simp only [lens, *]; first | done | omega) | decide | (split <;> simp only [lens, *]) | (with_reducible exact Lt.mono (by assumption) (by decide)) | (simp only [Cs.len]; done) | rfl)) rfl ?_
  refine OpsFrom.v (Y.and (b := 2251799813685247) u64s u64m (up0 rfl rfl rfl) rfl rfl rfl) rfl ?_
  refine OpsFrom.v (Y.ia0 (i := 0) ty68 ty24 (up0 rfl rfl rfl) rfl rfl rfl (by first | (with_reducible assumption) | omega | (simp only [lens, *]; first | done | omega) | decide | (split <;> simp only [lens, *]) | (with_reducible exact Lt.mono (by assumption) (by decide)) | (simp only [Cs.len]; done) | rfl)) rfl ?_
  refine OpsFrom.v (Y.ldI ty24 rfl (up0 rfl rfl rfl) rfl rfl rfl (by first | (with_reducible assumption) | omega | (simp only [lens, *]; first | done | omega) | decide | (split <;> simp only [lens, *]) | (with_reducible exact Lt.mono (by assumption) (by decide)) | (simp only [Cs.len]; done) | rfl)) rfl ?_
  refine OpsFrom.v (Y.shr (b := 51) u64s u64m (up0 rfl rfl rfl) rfl rfl rfl) rfl ?_
  refine OpsFrom.v (Y.ia0 (i := 1) ty68 ty24 (up0 rfl rfl rfl) rfl rfl rfl (by first | (with_reducible assumption) | omega | (simp only [lens, *]; first | done | omega) | decide | (split <;> simp only [lens, *]) | (with_reducible exact Lt.mono (by assumption) (by decide)) | (simp only [Cs.len]; done) | rfl)) rfl ?_
  refine OpsFrom.v (Y.ldI ty24 rfl (up0 rfl rfl rfl) rfl rfl rfl (by first | (with_reducible assumption) | omega | (simp only [lens, *]; first | done | omega) | decide | (split <;> simp only [lens, *]) | (with_reducible exact Lt.mono (by assumption) (by decide)) | (simp only [Cs.len]; done) | rfl)) rfl ?_
  refine OpsFrom.v (Y.shl (b := 13) u64s u64m (up0 rfl rfl rfl) rfl rfl rfl) rfl ?_
  refine OpsFrom.v (Y.or u64s u64m (up0 rfl rfl rfl) rfl rfl rfl) rfl ?_
  refine OpsFrom.v (Y.and (b := 2251799813685247) u64s u64m (up0 rfl rfl rfl) rfl rfl rfl) rfl ?_
  refine OpsFrom.v (Y.ia0 (i := 1) ty68 ty24 (up0 rfl rfl rfl) rfl rfl rfl (by first | (with_reducible assumption) | omega | (simp only [lens, *]; first | done | omega) | decide | (split <;> simp only [lens, *]) | (with_reducible exact Lt.mono (by assumption) (by decide)) | (simp only [Cs.len]; done) | rfl)) rfl ?_
  refine OpsFrom.v (Y.ldI ty24 rfl (up0 rfl rfl rfl) rfl rfl rfl (by first | (with_reducible assumption) | omega | (simp only [lens, *]; first | done | omega) | decide | (split <;> simp only [lens, *]) | (with_reducible exact Lt.mono (by assumption) (by decide)) | (simp only [Cs.len]; done) | rfl)) rfl ?_
  refine OpsFrom.v (Y.shr (b := 38) u64s u64m (up0 rfl rfl rfl) rfl rfl rfl) rfl ?_
  refine OpsFrom.v (Y.ia0 (i := 2) ty68 ty24 (up0 rfl rfl rfl) rfl rfl rfl (by first | (with_reducible assumption) | omega | (simp only [lens, *]; first | done | omega) | decide | (split <;> simp only [lens, *]) | (with_reducible exact Lt.mono (by assumption) (by decide)) | (simp only [Cs.len]; done) | rfl)) rfl ?_
  refine OpsFrom.v (Y.ldI ty24 rfl (up0 rfl rfl rfl) rfl rfl rfl (by first | (with_reducible assumption) | omega | (simp only [lens, *]; first | done | omega) | decide | (split <;> simp only [lens, *]) | (with_reducible exact Lt.mono (by assumption) (by decide)) | (simp only [Cs.len]; done) | rfl)) rfl ?_
  refine OpsFrom.v (Y.shl (b := 26) u64s u64m (up0 rfl rfl rfl) rfl rfl rfl) rfl ?_
  refine OpsFrom.v (Y.or u64s u64m (up0 rfl rfl rfl) rfl rfl rfl) rfl ?_
  refine OpsFrom.v (Y.and (b := 2251799813685247) u64s u64m (up0 rfl rfl rfl) rfl rfl rfl) rfl ?_
  refine OpsFrom.v (Y.ia0 (i := 2) ty68 ty24 (up0 rfl rfl rfl) rfl rfl rfl (by first | (with_reducible assumption) | omega | (simp only [lens, *]; first | done | omega) | decide | (split <;> simp only [lens, *]) | (with_reducible exact Lt.mono (by assumption) (by decide)) | (simp only [Cs.len]; done) | rfl)) rfl ?_
  refine OpsFrom.v (Y.ldI ty24 rfl (up0 rfl rfl rfl) rfl rfl rfl (by first | (with_reducible assumption) | omega | (simp only [lens, *]; first | done | omega) | decide | (split <;> simp only [lens, *]) | (with_reducible exact Lt.mono (by assumption) (by decide)) | (simp only [Cs.len]; done) | rfl)) rfl ?_
  refine OpsFrom.v (Y.shr (b := 25) u64s u64m (up0 rfl rfl rfl) rfl rfl rfl) rfl ?_
  refine OpsFrom.v (Y.ia0 (i := 3) ty68 ty24 (up0 rfl rfl rfl) rfl rfl rfl (by first | (with_reducible assumption) | omega | (simp only [lens, *]; first | done | omega) | decide | (split <;> simp only [lens, *]) | (with_reducible exact Lt.mono (by assumption) (by decide)) | (simp only [Cs.len]; done) | rfl)) rfl ?_
  refine OpsFrom.v (Y.ldI ty24 rfl (up0 rfl rfl rfl) rfl rfl rfl (by first | (with_reducible assumption) | omega | (simp only [lens, *]; first | done | omega) | decide | (split <;> simp only [lens, *]) | (with_reducible exact Lt.mono (by assumption) (by decide)) | (simp only [Cs.len]; done) | rfl)) rfl ?_
  refine OpsFrom.v (Y.shl (b := 39) u64s u64m (up0 rfl rfl rfl) rfl rfl rfl) rfl ?_
  refine OpsFrom.v (Y.or u64s u64m (up0 rfl rfl rfl) rfl rfl rfl) rfl ?_
  refine OpsFrom.v (Y.and (b := 2251799813685247) u64s u64m (up0 rfl rfl rfl) rfl rfl rfl) rfl ?_
  refine OpsFrom.v (Y.ia0 (i := 3) ty68 ty24 (up0 rfl rfl rfl) rfl rfl rfl (by first | (with_reducible assumption) | omega | (simp only [lens, *]; first | done | omega) | decide | (split <;> simp only [lens, *]) | (with_reducible exact Lt.mono (by assumption) (by decide)) | (simp only [Cs.len]; done) | rfl)) rfl ?_
  refine OpsFrom.v (Y.ldI ty24 rfl (up0 rfl rfl rfl) rfl rfl rfl (by first | (with_reducible assumption) | omega | (simp only [lens, *]; first | done | omega) | decide | (split <;> simp only [lens, *]) | (with_reducible exact Lt.mono (by assumption) (by decide)) | (simp only [Cs.len]; done) | rfl)) rfl ?_
  refine OpsFrom.v (Y.shr (b := 12) u64s u64m (up0 rfl rfl rfl) rfl rfl rfl) rfl ?_
  refine OpsFrom.v (Y.buildA ty25 ty24 rfl (up0 rfl rfl rfl) rfl (.cons _ _ _ _ _ _ _ _ _ rfl rfl rfl rfl (Spl.n (by first | decide | (simp; done))) (.cons _ _ _ _ _ _ _ _ _ rfl rfl rfl rfl (Spl.n (by first | decide | (simp; done))) (.cons _ _ _ _ _ _ _ _ _ rfl rfl rfl rfl (Spl.n (by first | decide | (simp; done))) (.cons _ _ _ _ _ _ _ _ _ rfl rfl rfl rfl (Spl.n (by first | decide | (simp; done))) (.cons _ _ _ _ _ _ _ _ _ rfl rfl rfl rfl (Spl.n (by first | decide | (simp; done))) (.nil _))))))) rfl ?_
  refine OpsFrom.v (Y.callV (w_car _ (by first | (with_reducible assumption) | omega | (simp only [lens, car_l, *]; first | done | omega) | decide | (split <;> simp only [lens, car_l, *]) | (with_reducible exact Lt.mono (by assumption) (by decide)) | (simp only [Cs.len]; done) | rfl)) fnok44 (up0 rfl rfl rfl) rfl rfl (.cons _ _ _ _ rfl .nil) (.cons _ _ _ _ (.same _) .nil) rfl rfl) rfl ?_
  refine OpsFrom.n (Y.stR ty27 (upN rfl rfl) rfl rfl rfl rfl rfl (by first | (with_reducible assumption) | omega | (simp only [lens, car_l, *]; first | done | omega) | decide | (split <;> simp only [lens, car_l, *]) | (with_reducible exact Lt.mono (by assumption) (by decide)) | (simp only [Cs.len]; done) | rfl) (by first | (with_reducible assumption) | omega | (simp only [lens, car_l, *]; first | done | omega) | decide | (split <;> simp only [lens, car_l, *]) | (with_reducible exact Lt.mono (by assumption) (by decide)) | (simp only [Cs.len]; done) | rfl) (by decide)) rfl rfl ?_
  refine OpsFrom.nil ?_
  refine Holds.ret ?_
  exact Holds.ret1 (.inl rfl) rfl (.rowN rfl rfl ty27 rfl (by first | (with_reducible assumption) | omega | (simp only [lens, car_l, *]; first | done | omega) | decide | (split <;> simp only [lens, car_l, *]) | (with_reducible exact Lt.mono (by assumption) (by decide)) | (simp only [Cs.len]; done) | rfl) (by decide)) (.same _) rfl

def fbytes_s1 (x : List Nat) (i1_ : Nat) (m1_ : List Nat) : List Nat :=
  let v8_ : Nat := ((((((List.replicate 4 0).set 0 (((least x).getD 0 0) ||| (((least x).getD 1 0) * 2 ^ 51 % 18446744073709551616))).set 1 ((((least x).getD 1 0) / 2 ^ 13) ||| (((least x).getD 2 0) * 2 ^ 38 % 18446744073709551616))).set 2 ((((least x).getD 2 0) / 2 ^ 26) ||| (((least x).getD 3 0) * 2 ^ 25 % 18446744073709551616))).set 3 ((((least x).getD 3 0) / 2 ^ 39) ||| (((least x).getD 4 0) * 2 ^ 12 % 18446744073709551616))).getD (i1_ / 8) 0) / 2 ^ (8 * (i1_ % 8))
  m1_.set i1_ (v8_ % 256)
def fbytes_it1 (x : List Nat) (i1_ : Nat) : List Nat := iter (fbytes_s1 x) i1_ (List.replicate 32 0)
theorem fbytes_it1_z (x : List Nat) : fbytes_it1 x 0 = List.replicate 32 0 := rfl
theorem fbytes_it1_s (x : List Nat) (i1_ : Nat) : fbytes_it1 x (i1_ + 1) = fbytes_s1 x i1_ (fbytes_it1 x i1_) := by unfold fbytes_it1; exact iterS _ _ _
theorem fbytes_it1_l (x : List Nat) (i1_ : Nat) : ((fbytes_it1 x i1_)).length = (List.replicate 32 0 : List Nat).length := iter_inv (fun (s : List Nat) => (s).length = (List.replicate 32 0 : List Nat).length) (by simp) (fun i s h => by
  unfold fbytes_s1
  first | (simp [least_len, h]; done) | (dsimp only; (repeat' split) <;> simp [least_len, h])) i1_
def fbytes (x : List Nat) : List Nat :=
  (fbytes_it1 x 32)
theorem fbytes_len (x : List Nat) (l_x : x.length = 5) : ((fbytes x)).length = 32 := by
  unfold fbytes
  first | (simp [least_len, fbytes_it1_l]; done) | (simp [*, least_len, fbytes_it1_l]; done) | (dsimp only; (repeat' split) <;> simp [*, least_len, fbytes_it1_l])
theorem w_fbytes (x : List Nat) (l_x : x.length = 5) : VC Try.prog 19 [.row (.ints .u64 x)] (.row (.ints .u8 (fbytes x))) := by
  refine VC.go Try.func19 rfl Try.ntmps19 rfl rfl fun O w => ?_
  refine Holds.seq ?_
  refine Holds.reg ?_
  refine OpsFrom.u (Y.boxR (d := 1) (up0 rfl rfl rfl) rfl rfl rfl) rfl rfl rfl ?_
  refine OpsFrom.u (Y.alloc (d := 2) ty22 rfl rfl (up0 rfl rfl rfl) rfl) rfl rfl rfl ?_
  refine OpsFrom.nil ?_
  refine Holds.seq ?_
  refine Holds.reg ?_
  refine OpsFrom.v (Y.ldAll ty27 rfl (up0 rfl rfl rfl) rfl rfl rfl (by first | (with_reducible assumption) | omega | (simp only [lens, *]; first | done | omega) | decide | (split <;> simp only [lens, *]) | (with_reducible exact Lt.mono (by assumption) (by decide)) | (simp only [Cs.len]; done) | rfl) (by decide)) rfl ?_
  refine OpsFrom.v (Y.callV (w_least _ (by first | (with_reducible assumption) | omega | (simp only [lens, least_len, *]; first | done | omega) | decide | (split <;> simp only [lens, least_len, *]) | (with_reducible exact Lt.mono (by assumption) (by decide)) | (simp only [Cs.len]; done) | rfl)) fnok46 (up0 rfl rfl rfl) rfl rfl (.cons _ _ _ _ rfl .nil) (.cons _ _ _ _ (.same _) .nil) rfl rfl) rfl ?_
  refine OpsFrom.u (Y.alloc (d := 3) ty25 rfl rfl (up0 rfl rfl rfl) rfl) rfl rfl rfl ?_
  refine OpsFrom.n (Y.stR ty25 (upN rfl rfl) rfl rfl rfl rfl rfl (by first | (with_reducible assumption) | omega | (simp only [lens, least_len, *]; first | done | omega) | decide | (split <;> simp only [lens, least_len, *]) | (with_reducible exact Lt.mono (by assumption) (by decide)) | (simp only [Cs.len]; done) | rfl) (by first | (with_reducible assumption) | omega | (simp only [lens, least_len, *]; first | done | omega) | decide | (split <;> simp only [lens, least_len, *]) | (with_reducible exact Lt.mono (by assumption) (by decide)) | (simp only [Cs.len]; done) | rfl) (by decide)) rfl rfl ?_
  refine OpsFrom.nil ?_
  refine Holds.seq ?_
  refine Holds.reg ?_
  refine OpsFrom.v (Y.ia0 (i := 0) ty25 ty24 (up0 rfl rfl rfl) rfl rfl rfl (by first | (with_reducible assumption) | omega | (simp only [lens, least_len, *]; first | done | omega) | decide | (split <;> simp only [lens, least_len, *]) | (with_reducible exact Lt.mono (by assumption) (by decide)) | (simp only [Cs.len]; done) | rfl)) rfl ?_
  refine OpsFrom.v (Y.ldI ty24 rfl (up0 rfl rfl rfl) rfl rfl rfl (by first | (with_reducible assumption) | omega | (simp only [lens, least_len, *]; first | done | omega) | decide | (split <;> simp only [lens, least_len, *]) | (with_reducible exact Lt.mono (by assumption) (by decide)) | (simp only [Cs.len]; done) | rfl)) rfl ?_
  refine OpsFrom.v (Y.ia0 (i := 1) ty25 ty24 (up0 rfl rfl rfl) rfl rfl rfl (by first | (with_reducible assumption) | omega | (simp only [lens, least_len, *]; first | done | omega) | decide | (split <;> simp only [lens, least_len, *]) | (with_reducible exact Lt.mono (by assumption) (by decide)) | (simp only [Cs.len]; done) | rfl)) rfl ?_
  refine OpsFrom.v (Y.ldI ty24 rfl (up0 rfl rfl rfl) rfl rfl rfl (by first | (with_reducible assumption) | omega | (simp only [lens, least_len, *]; first | done | omega) | decide | (split <;> simp only [lens, least_len, *]) | (with_reducible exact Lt.mono (by assumption) (by decide)) | (simp only [Cs.len]; done) | rfl)) rfl ?_
  refine OpsFrom.v (Y.shl (b := 51) u64s u64m (up0 rfl rfl rfl) rfl rfl rfl) rfl ?_
  refine OpsFrom.v (Y.or u64s u64m (up0 rfl rfl rfl) rfl rfl rfl) rfl ?_
  refine OpsFrom.v (Y.ia0 (i := 1) ty25 ty24 (up0 rfl rfl rfl) rfl rfl rfl (by first | (with_reducible assumption) | omega | (simp only [lens, least_len, *]; first | done | omega) | decide | (split <;> simp only [lens, least_len, *]) | (with_reducible exact Lt.mono (by assumption) (by decide)) | (simp only [Cs.len]; done) | rfl)) rfl ?_
  refine OpsFrom.v (Y.ldI ty24 rfl (up0 rfl rfl rfl) rfl rfl rfl (by first | (with_reducible assumption) | omega | (simp only [lens, least_len, *]; first | done | omega) | decide | (split <;> simp only [lens, least_len, *]) | (with_reducible exact Lt.mono (by assumption) (by decide)) | (simp only [Cs.len]; done) | rfl)) rfl ?_
  refine OpsFrom.v (Y.shr (b := 13) u64s u64m (up0 rfl rfl rfl) rfl rfl rfl) rfl ?_
  refine OpsFrom.v (Y.ia0 (i := 2) ty25 ty24 (up0 rfl rfl rfl) rfl rfl rfl (by first | (with_reducible assumption) | omega | (simp only [lens, least_len, *]; first | done | omega) | decide | (split <;> simp only [lens, least_len, *]) | (with_reducible exact Lt.mono (by assumption) (by decide)) | (simp only [Cs.len]; done) | rfl)) rfl ?_
  refine OpsFrom.v (Y.ldI ty24 rfl (up0 rfl rfl rfl) rfl rfl rfl (by first | (with_reducible assumption) | omega | (simp only [lens, least_len, *]; first | done | omega) | decide | (split <;> simp only [lens, least_len, *]) | (with_reducible exact Lt.mono (by assumption) (by decide)) | (simp only [Cs.len]; done) | rfl)) rfl ?_
  refine OpsFrom.v (Y.shl (b := 38) u64s u64m (up0 rfl rfl rfl) rfl rfl rfl) rfl ?_
  refine OpsFrom.v (Y.or u64s u64m (up0 rfl rfl rfl) rfl rfl rfl) rfl ?_
  refine OpsFrom.v (Y.ia0 (i := 2) ty25 ty24 (up0 rfl rfl rfl) rfl rfl rfl (by first | (with_reducible assumption) | omega | (simp only [lens, least_len, *]; first | done | omega) | decide | (split <;> simp only [lens, least_len, *]) | (with_reducible exact Lt.mono (by assumption) (by decide)) | (simp only [Cs.len]; done) | rfl)) rfl ?_
  refine OpsFrom.v (Y.ldI ty24 rfl (up0 rfl rfl rfl) rfl rfl rfl (by first | (with_reducible assumption) | omega | (simp only [lens, least_len, *]; first | done | omega) | decide | (split <;> simp only [lens, least_len, *]) | (with_reducible exact Lt.mono (by assumption) (by decide)) | (simp only [Cs.len]; done) | rfl)) rfl ?_
  refine OpsFrom.v (Y.shr (b := 26) u64s u64m (up0 rfl rfl rfl) rfl rfl rfl) rfl ?_
  refine OpsFrom.v (Y.ia0 (i := 3) ty25 ty24 (up0 rfl rfl rfl) rfl rfl rfl (by first | (with_reducible assumption) | omega | (simp only [lens, least_len, *]; first | done | omega) | decide | (split <;> simp only [lens, least_len, *]) | (with_reducible exact Lt.mono (by assumption) (by decide)) | (simp only [Cs.len]; done) | rfl)) rfl ?_
  refine OpsFrom.v (Y.ldI ty24 rfl (up0 rfl rfl rfl) rfl rfl rfl (by first | (with_reducible assumption) | omega | (simp only [lens, least_len, *]; first | done | omega) | decide | (split <;> simp only [lens, least_len, *]) | (with_reducible exact Lt.mono (by assumption) (by decide)) | (simp only [Cs.len]; done) | rfl)) rfl ?_
  refine OpsFrom.v (Y.shl (b := 25) u64s u64m (up0 rfl rfl rfl) rfl rfl rfl) rfl ?_
  refine OpsFrom.v (Y.or u64s u64m (up0 rfl rfl rfl) rfl rfl rfl) rfl ?_
  refine OpsFrom.v (Y.ia0 (i := 3) ty25 ty24 (up0 rfl rfl rfl) rfl rfl rfl (by first | (with_reducible assumption) | omega | (simp only [lens, least_len, *]; first | done | omega) | decide | (split <;> simp only [lens, least_len, *]) | (with_reducible exact Lt.mono (by assumption) (by decide)) | (simp only [Cs.len]; done) | rfl)) rfl ?_
  refine OpsFrom.v (Y.ldI ty24 rfl (up0 rfl rfl rfl) rfl rfl rfl (by first | (with_reducible assumption) | omega | (simp only [lens, least_len, *]; first | done | omega) | decide | (split <;> simp only [lens, least_len, *]) | (with_reducible exact Lt.mono (by assumption) (by decide)) | (simp only [Cs.len]; done) | rfl)) rfl ?_
  refine OpsFrom.v (Y.shr (b := 39) u64s u64m (up0 rfl rfl rfl) rfl rfl rfl) rfl ?_
  refine OpsFrom.v (Y.ia0 (i := 4) ty25 ty24 (up0 rfl rfl rfl) rfl rfl rfl (by first | (with_reducible assumption) | omega | (simp only [lens, least_len, *]; first | done | omega) | decide | (split <;> simp only [lens, least_len, *]) | (with_reducible exact Lt.mono (by assumption) (by decide)) | (simp only [Cs.len]; done) | rfl)) rfl ?_
  refine OpsFrom.v (Y.ldI ty24 rfl (up0 rfl rfl rfl) rfl rfl rfl (by first | (with_reducible assumption) | omega | (simp only [lens, least_len, *]; first | done | omega) | decide | (split <;> simp only [lens, least_len, *]) | (with_reducible exact Lt.mono (by assumption) (by decide)) | (simp only [Cs.len]; done) | rfl)) rfl ?_
  refine OpsFrom.v (Y.shl (b := 12) u64s u64m (up0 rfl rfl rfl) rfl rfl rfl) rfl ?_
  refine OpsFrom.v (Y.or u64s u64m (up0 rfl rfl rfl) rfl rfl rfl) rfl ?_
  refine OpsFrom.v (Y.buildA ty68 ty24 rfl (up0 rfl rfl rfl) rfl (.cons _ _ _ _ _ _ _ _ _ rfl rfl rfl rfl (Spl.n (by first | decide | (simp; done))) (.cons _ _ _ _ _ _ _ _ _ rfl rfl rfl rfl (Spl.n (by first | decide | (simp; done))) (.cons _ _ _ _ _ _ _ _ _ rfl rfl rfl rfl (Spl.n (by first | decide | (simp; done))) (.cons _ _ _ _ _ _ _ _ _ rfl rfl rfl rfl (Spl.n (by first | decide | (simp; done))) (.nil _)))))) rfl ?_
  refine OpsFrom.u (Y.alloc (d := 4) ty68 rfl rfl (up0 rfl rfl rfl) rfl) rfl rfl rfl ?_
  refine OpsFrom.n (Y.stR ty68 (upN rfl rfl) rfl rfl rfl rfl rfl (by first | (with_reducible assumption) | omega | (simp only [lens, least_len, *]; first | done | omega) | decide | (split <;> simp only [lens, least_len, *]) | (with_reducible exact Lt.mono (by assumption) (by decide)) | (simp only [Cs.len]; done) | rfl) (by first | (with_reducible assumption) | omega | (simp only [lens, least_len, *]; first | done | omega) | decide | (split <;> simp only [lens, least_len, *]) | (with_reducible exact Lt.mono (by assumption) (by decide)) | (simp only [Cs.len]; done) | rfl) (by decide)) rfl rfl ?_
  refine OpsFrom.nil ?_
  refine Holds.seq ?_
  refine Holds.seq ?_
  refine Holds.reg ?_
  refine OpsFrom.v (Y.move (v := (.one (.n .i64 0))) (up0 rfl rfl rfl) rfl rfl) rfl ?_
  refine OpsFrom.nil ?_
  refine Holds.block ?_
  refine Holds.loop (fun (i1_ : Nat) => ⟨[(2, .one (.p 2 0)), (4, .one (.p 4 0)), (36, .one (.n .i64 i1_))], [(2, .own (.ints .u8 (fbytes_it1 x i1_))), (4, .own (.ints .u64 (((((List.replicate 4 0).set 0 (((least x).getD 0 0) ||| (((least x).getD 1 0) * 2 ^ 51 % 18446744073709551616))).set 1 ((((least x).getD 1 0) / 2 ^ 13) ||| (((least x).getD 2 0) * 2 ^ 38 % 18446744073709551616))).set 2 ((((least x).getD 2 0) / 2 ^ 26) ||| (((least x).getD 3 0) * 2 ^ 25 % 18446744073709551616))).set 3 ((((least x).getD 3 0) / 2 ^ 39) ||| (((least x).getD 4 0) * 2 ^ 12 % 18446744073709551616)))))]⟩) (fun (i1_ : Nat) => i1_ ≤ 32) (fun (i1_ : Nat) => 32 - i1_) 0 (by first | (with_reducible assumption) | omega | (simp only [lens, least_len, fbytes_it1_l, *]; first | done | omega) | decide | (split <;> simp only [lens, least_len, fbytes_it1_l, *]) | (with_reducible exact Lt.mono (by assumption) (by decide)) | (simp only [Cs.len]; done) | rfl) [] ⟨⟨rfl, rfl, rfl, trivial⟩, ⟨(hEq (congrArg (fun (s : List Nat) => s) (fbytes_it1_z x)).symm), rfl, trivial⟩, rfl, rfl⟩ ?_
  intro i1_ k1_
  refine Holds.seq ?_
  refine Holds.reg ?_
  refine OpsFrom.v (Y.lss (b := 32) (up0 rfl rfl rfl) rfl rfl rfl) rfl ?_
  refine OpsFrom.nil ?_
  refine Holds.seq ?_
  refine Holds.condD rfl (fun h37 => ?_) (fun h37 => ?_)
  · refine Holds.skip ?_
    refine Holds.seq ?_
    refine Holds.block ?_
    refine Holds.seq ?_
    refine Holds.reg ?_
    refine OpsFrom.v (Y.move (up0 rfl rfl rfl) rfl rfl) rfl ?_
    refine OpsFrom.v (Y.assign (up0 rfl rfl rfl) rfl rfl) rfl ?_
    refine OpsFrom.nil ?_
    refine Holds.reg ?_
    refine OpsFrom.v (Y.move (up0 rfl rfl rfl) rfl rfl) rfl ?_
    refine OpsFrom.v (Y.move (up0 rfl rfl rfl) rfl rfl) rfl ?_
    refine OpsFrom.v (Y.quoI (b := 8) (up0 rfl rfl rfl) rfl rfl rfl (by first | (with_reducible assumption) | omega | (simp only [lens, least_len, fbytes_it1_l, *]; first | done | omega) | decide | (split <;> simp only [lens, least_len, fbytes_it1_l, *]) | (with_reducible exact Lt.mono (by assumption) (by decide)) | (simp only [Cs.len]; done) | rfl) (by decide)) rfl ?_
    refine OpsFrom.v (Y.ia0 ty68 ty24 (up0 rfl rfl rfl) rfl rfl rfl (by first | (with_reducible assumption) | omega | (simp only [lens, least_len, fbytes_it1_l, *]; first | done | omega) | decide | (split <;> simp only [lens, least_len, fbytes_it1_l, *]) | (with_reducible exact Lt.mono (by assumption) (by decide)) | (simp only [Cs.len]; done) | rfl)) rfl ?_
    refine OpsFrom.v (Y.ldI ty24 rfl (up0 rfl rfl rfl) rfl rfl rfl (by first | (with_reducible assumption) | omega | (simp only [lens, least_len, fbytes_it1_l, *]; first | done | omega) | decide | (split <;> simp only [lens, least_len, fbytes_it1_l, *]) | (with_reducible exact Lt.mono (by assumption) (by decide)) | (simp only [Cs.len]; done) | rfl)) rfl ?_
    refine OpsFrom.v (Y.move (up0 rfl rfl rfl) rfl rfl) rfl ?_
    refine OpsFrom.v (Y.rem (b := 8) (up0 rfl rfl rfl) rfl rfl rfl (by decide)) rfl ?_
    refine OpsFrom.v (Y.mulI (a := 8) (up0 rfl rfl rfl) rfl rfl rfl (by first | (with_reducible assumption) | omega | (simp only [lens, least_len, fbytes_it1_l, *]; first | done | omega) | decide | (split <;> simp only [lens, least_len, fbytes_it1_l, *]) | (with_reducible exact Lt.mono (by assumption) (by decide)) | (simp only [Cs.len]; done) | rfl)) rfl ?_
    refine OpsFrom.v (Y.shr u64s u64m (up0 rfl rfl rfl) rfl rfl rfl) rfl ?_
    refine OpsFrom.v (Y.conv ty24.u ty5.u u8s u8m (up0 rfl rfl rfl) rfl rfl) rfl ?_
    refine OpsFrom.v (Y.ia0 ty22 ty5 (up0 rfl rfl rfl) rfl rfl rfl (by first | (with_reducible assumption) | omega | (simp only [lens, least_len, fbytes_it1_l, *]; first | done | omega) | decide | (split <;> simp only [lens, least_len, fbytes_it1_l, *]) | (with_reducible exact Lt.mono (by assumption) (by decide)) | (simp only [Cs.len]; done) | rfl)) rfl ?_
    refine OpsFrom.n (Y.stI ty5 (upN rfl rfl) rfl rfl rfl rfl (by first | (with_reducible assumption) | omega | (simp only [lens, least_len, fbytes_it1_l, *]; first | done | omega) | decide | (split <;> simp only [lens, least_len, fbytes_it1_l, *]) | (with_reducible exact Lt.mono (by assumption) (by decide)) | (simp only [Cs.len]; done) | rfl)) rfl rfl ?_
    refine OpsFrom.nil ?_
    refine Holds.reg ?_
    refine OpsFrom.v (Y.addI (b := 1) (up0 rfl rfl rfl) rfl rfl rfl (by first | (with_reducible assumption) | omega | (simp only [lens, least_len, fbytes_it1_l, *]; first | done | omega) | decide | (split <;> simp only [lens, least_len, fbytes_it1_l, *]) | (with_reducible exact Lt.mono (by assumption) (by decide)) | (simp only [Cs.len]; done) | rfl)) rfl ?_
    refine OpsFrom.v (Y.move (up0 rfl rfl rfl) rfl rfl) rfl ?_
    refine OpsFrom.nil ?_
    exact Holds.again (i1_ + 1) (by omega) (by omega) [] ⟨⟨rfl, rfl, (nEq (by omega)), trivial⟩, ⟨(hEq (by rw [fbytes_it1_s]; unfold fbytes_s1; first | (dsimp only; done) | rfl)), rfl, trivial⟩, rfl, rfl⟩
  · obtain rfl : i1_ = 32 := by omega
    refine Holds.exit ?_
    refine Holds.seq ?_
    refine Holds.reg ?_
    refine OpsFrom.v (Y.ldAll ty22 rfl (up0 rfl rfl rfl) rfl rfl rfl (by first | (with_reducible assumption) | omega | (simp only [lens, least_len, fbytes_it1_l, *]; first | done | omega) | decide | (split <;> simp only [lens, least_len, fbytes_it1_l, *]) | (with_reducible exact Lt.mono (by assumption) (by decide)) | (simp only [Cs.len]; done) | rfl) (by decide)) rfl ?_
    refine OpsFrom.n (Y.stR ty22 (upN rfl rfl) rfl rfl rfl rfl rfl (by first | (with_reducible assumption) | omega | (simp only [lens, least_len, fbytes_it1_l, *]; first | done | omega) | decide | (split <;> simp only [lens, least_len, fbytes_it1_l, *]) | (with_reducible exact Lt.mono (by assumption) (by decide)) | (simp only [Cs.len]; done) | rfl) (by first | (with_reducible assumption) | omega | (simp only [lens, least_len, fbytes_it1_l, *]; first | done | omega) | decide | (split <;> simp only [lens, least_len, fbytes_it1_l, *]) | (with_reducible exact Lt.mono (by assumption) (by decide)) | (simp only [Cs.len]; done) | rfl) (by decide)) rfl rfl ?_
    refine OpsFrom.nil ?_
    refine Holds.ret ?_
    exact Holds.ret1 (.inl rfl) rfl (.rowN rfl rfl ty22 rfl (by first | (with_reducible assumption) | omega | (simp only [lens, least_len, fbytes_it1_l, *]; first | done | omega) | decide | (split <;> simp only [lens, least_len, fbytes_it1_l, *]) | (with_reducible exact Lt.mono (by assumption) (by decide)) | (simp only [Cs.len]; done) | rfl) (by decide)) (.same _) rfl

def odd (x : List Nat) : Bool :=
  let v1_ : Bool := decide ((((fbytes x).getD 0 0) &&& 1) = 1)
  v1_
theorem w_odd (x : List Nat) (l_x : x.length = 5) : VC Try.prog 20 [.row (.ints .u64 x)] (.one (.b (odd x))) := by
  refine VC.go Try.func20 rfl Try.ntmps20 rfl rfl fun O w => ?_
  refine Holds.seq ?_
  refine Holds.reg ?_
  refine OpsFrom.u (Y.boxR (d := 1) (up0 rfl rfl rfl) rfl rfl rfl) rfl rfl rfl ?_
  refine OpsFrom.v (Y.assign (up0 rfl rfl rfl) rfl rfl) rfl ?_
  refine OpsFrom.nil ?_
  refine Holds.seq ?_
  refine Holds.reg ?_
  refine OpsFrom.v (Y.ldAll ty27 rfl (up0 rfl rfl rfl) rfl rfl rfl (by first | (with_reducible assumption) | omega | (simp only [lens, *]; first | done | omega) | decide | (split <;> simp only [lens, *]) | (with_reducible exact Lt.mono (by assumption) (by decide)) | (simp only [Cs.len]; done) | rfl) (by decide)) rfl ?_
  refine OpsFrom.v (Y.callV (w_fbytes _ (by first | (with_reducible assumption) | omega | (simp only [lens, fbytes_len, *]; first | done | omega) | decide | (split <;> simp only [lens, fbytes_len, *]) | (with_reducible exact Lt.mono (by assumption) (by decide)) | (simp only [Cs.len]; done) | rfl)) fnok19 (up0 rfl rfl rfl) rfl rfl (.cons _ _ _ _ rfl .nil) (.cons _ _ _ _ (.same _) .nil) rfl rfl) rfl ?_
  refine OpsFrom.v (Y.idxI (i := 0) ty22 ty5 rfl (up0 rfl rfl rfl) rfl rfl rfl (by first | (with_reducible assumption) | omega | (simp only [lens, fbytes_len, *]; first | done | omega) | decide | (split <;> simp only [lens, fbytes_len, *]) | (with_reducible exact Lt.mono (by assumption) (by decide)) | (simp only [Cs.len]; done) | rfl) (by first | (with_reducible assumption) | omega | (simp only [lens, fbytes_len, *]; first | done | omega) | decide | (split <;> simp only [lens, fbytes_len, *]) | (with_reducible exact Lt.mono (by assumption) (by decide)) | (simp only [Cs.len]; done) | rfl)) rfl ?_
  refine OpsFrom.v (Y.and (b := 1) u8s u8m (up0 rfl rfl rfl) rfl rfl rfl) rfl ?_
  refine OpsFrom.v (Y.eql (b := 1) (up0 rfl rfl rfl) rfl rfl rfl) rfl ?_
  refine OpsFrom.v (Y.assign (up0 rfl rfl rfl) rfl rfl) rfl ?_
  refine OpsFrom.nil ?_
  refine Holds.ret ?_
  exact Holds.ret1 (.inl rfl) rfl (.tmp _ _ rfl) (.same _) rfl

def same (x : List Nat) (y : List Nat) : Bool :=
  decide ((fbytes x) = (fbytes y))
theorem w_same (x : List Nat) (y : List Nat) (l_x : x.length = 5) (l_y : y.length = 5) : VC Try.prog 21 [.row (.ints .u64 x), .row (.ints .u64 y)] (.one (.b (same x y))) := by
  refine VC.go Try.func21 rfl Try.ntmps21 rfl rfl fun O w => ?_
  refine Holds.seq ?_
  refine Holds.reg ?_
  refine OpsFrom.u (Y.boxR (d := 2) (up0 rfl rfl rfl) rfl rfl rfl) rfl rfl rfl ?_
  refine OpsFrom.u (Y.boxR (d := 3) (up0 rfl rfl rfl) rfl rfl rfl) rfl rfl rfl ?_
  refine OpsFrom.v (Y.assign (up0 rfl rfl rfl) rfl rfl) rfl ?_
  refine OpsFrom.nil ?_
  refine Holds.seq ?_
  refine Holds.dr mx [([5], [7]), ([6], [7]), ([7], [5, 6]), ([8], []), ([9], []), ([4], [])] (by kernel_rfl) ?_
  refine CertK.vd (Y.ldAll ty27 rfl (up0 rfl rfl rfl) rfl rfl rfl (by first | (with_reducible assumption) | omega | (simp only [lens, fbytes_len, *]; first | done | omega) | decide | (split <;> simp only [lens, fbytes_len, *]) | (with_reducible exact Lt.mono (by assumption) (by decide)) | (simp only [Cs.len]; done) | rfl) (by decide)) rfl rfl ?_
  refine CertK.vd (Y.callV (w_fbytes _ (by first | (with_reducible assumption) | omega | (simp only [lens, fbytes_len, *]; first | done | omega) | decide | (split <;> simp only [lens, fbytes_len, *]) | (with_reducible exact Lt.mono (by assumption) (by decide)) | (simp only [Cs.len]; done) | rfl)) fnok19 (up0 rfl rfl rfl) rfl rfl (.cons _ _ _ _ rfl .nil) (.cons _ _ _ _ (.same _) .nil) rfl rfl) rfl rfl ?_
  refine CertK.vd (Y.ldAll ty27 rfl (up0 rfl rfl rfl) rfl rfl rfl (by first | (with_reducible assumption) | omega | (simp only [lens, fbytes_len, *]; first | done | omega) | decide | (split <;> simp only [lens, fbytes_len, *]) | (with_reducible exact Lt.mono (by assumption) (by decide)) | (simp only [Cs.len]; done) | rfl) (by decide)) rfl rfl ?_
  refine CertK.v (Y.callV (w_fbytes _ (by first | (with_reducible assumption) | omega | (simp only [lens, fbytes_len, *]; first | done | omega) | decide | (split <;> simp only [lens, fbytes_len, *]) | (with_reducible exact Lt.mono (by assumption) (by decide)) | (simp only [Cs.len]; done) | rfl)) fnok19 (up0 rfl rfl rfl) rfl rfl (.cons _ _ _ _ rfl .nil) (.cons _ _ _ _ (.same _) .nil) rfl rfl) rfl ?_
  refine CertK.v (Y.eqR ty22 ty5 (by kernel_rfl) (up0 rfl rfl rfl) rfl rfl rfl (by first | (with_reducible assumption) | omega | (simp only [lens, fbytes_len, *]; first | done | omega) | decide | (split <;> simp only [lens, fbytes_len, *]) | (with_reducible exact Lt.mono (by assumption) (by decide)) | (simp only [Cs.len]; done) | rfl) (by first | (with_reducible assumption) | omega | (simp only [lens, fbytes_len, *]; first | done | omega) | decide | (split <;> simp only [lens, fbytes_len, *]) | (with_reducible exact Lt.mono (by assumption) (by decide)) | (simp only [Cs.len]; done) | rfl)) rfl ?_
  refine CertK.v (Y.assign (up0 rfl rfl rfl) rfl rfl) rfl ?_
  refine CertK.nil ?_
  refine Holds.ret ?_
  exact Holds.ret1 (.inl rfl) rfl (.tmp _ _ rfl) (.same _) rfl

def pick_s1 (x : List Nat) (y : List Nat) (first : Bool) (i1_ : Nat) (m1_ : List Nat) : List Nat :=
  let v6_ : Nat := (if first = true then ((0 + (18446744073709551616 - 1)) % 18446744073709551616) else 0) &&& ((x.getD i1_ 0) ^^^ (m1_.getD i1_ 0))
  m1_.set i1_ ((m1_.getD i1_ 0) ^^^ v6_)
def pick_it1 (x : List Nat) (y : List Nat) (first : Bool) (i1_ : Nat) : List Nat := iter (pick_s1 x y first) i1_ y
theorem pick_it1_z (x : List Nat) (y : List Nat) (first : Bool) : pick_it1 x y first 0 = y := rfl
theorem pick_it1_s (x : List Nat) (y : List Nat) (first : Bool) (i1_ : Nat) : pick_it1 x y first (i1_ + 1) = pick_s1 x y first i1_ (pick_it1 x y first i1_) := by unfold pick_it1; exact iterS _ _ _
theorem pick_it1_l (x : List Nat) (y : List Nat) (first : Bool) (i1_ : Nat) : ((pick_it1 x y first i1_)).length = (y : List Nat).length := iter_inv (fun (s : List Nat) => (s).length = (y : List Nat).length) (by simp) (fun i s h => by
  unfold pick_s1
  first | (simp [h]; done) | (dsimp only; (repeat' split) <;> simp [h])) i1_
def pick (x : List Nat) (y : List Nat) (first : Bool) : List Nat :=
  (pick_it1 x y first 5)
theorem pick_len (x : List Nat) (y : List Nat) (first : Bool) (l_x : x.length = 5) (l_y : y.length = 5) : ((pick x y first)).length = 5 := by
  unfold pick
  first | (simp [pick_it1_l]; done) | (simp [*, pick_it1_l]; done) | (dsimp only; (repeat' split) <;> simp [*, pick_it1_l])
theorem w_pick (x : List Nat) (y : List Nat) (first : Bool) (l_x : x.length = 5) (l_y : y.length = 5) : VC Try.prog 22 [.row (.ints .u64 x), .row (.ints .u64 y), .one (.b first)] (.row (.ints .u64 (pick x y first))) := by
  refine VC.go Try.func22 rfl Try.ntmps22 rfl rfl fun O w => ?_
  refine Holds.seq ?_
  refine Holds.reg ?_
  refine OpsFrom.u (Y.boxR (d := 3) (up0 rfl rfl rfl) rfl rfl rfl) rfl rfl rfl ?_
  refine OpsFrom.u (Y.boxR (d := 4) (up0 rfl rfl rfl) rfl rfl rfl) rfl rfl rfl ?_
  refine OpsFrom.u (Y.alloc (d := 6) ty27 rfl rfl (up0 rfl rfl rfl) rfl) rfl rfl rfl ?_
  refine OpsFrom.nil ?_
  refine Holds.seq ?_
  refine Holds.reg ?_
  refine OpsFrom.v (Y.assign (v := (.one (.n .u64 0))) (up0 rfl rfl rfl) rfl rfl) rfl ?_
  refine OpsFrom.nil ?_
  refine Holds.seqJoin ⟨[(3, .one (.p 3 0)), (4, .one (.p 4 0)), (6, .one (.p 6 0)), (7, .one (.n .u64 (if first = true then ((0 + (18446744073709551616 - 1)) % 18446744073709551616) else 0)))], [(3, .own (.ints .u64 x)), (4, .own (.ints .u64 y)), (6, .own (.ints .u64 (List.replicate 5 0)))]⟩ ?_ (fun join => ?_)
  · refine Holds.seq ?_
    refine Holds.seq ?_
    refine Holds.reg ?_
    refine OpsFrom.v (Y.move (v := (.one (.n .i64 0))) (up0 rfl rfl rfl) rfl rfl) rfl ?_
    refine OpsFrom.nil ?_
    refine Holds.block ?_
    refine Holds.loop (fun (i1_ : Nat) => ⟨[(3, .one (.p 3 0)), (4, .one (.p 4 0)), (6, .one (.p 6 0)), (7, .one (.n .u64 (if first = true then ((0 + (18446744073709551616 - 1)) % 18446744073709551616) else 0))), (12, .one (.n .i64 i1_))], [(3, .own (.ints .u64 x)), (4, .own (.ints .u64 (pick_it1 x y first i1_))), (6, .own (.ints .u64 (List.replicate 5 0)))]⟩) (fun (i1_ : Nat) => i1_ ≤ 5) (fun (i1_ : Nat) => 5 - i1_) 0 (by first | (with_reducible assumption) | omega | (simp only [lens, pick_it1_l, *]; first | done | omega) | decide | (split <;> simp only [lens, pick_it1_l, *]) | (with_reducible exact Lt.mono (by assumption) (by decide)) | (simp only [Cs.len]; done) | rfl) [] ⟨⟨rfl, rfl, rfl, rfl, rfl, trivial⟩, ⟨rfl, (hEq (congrArg (fun (s : List Nat) => s) (pick_it1_z x y first)).symm), rfl, trivial⟩, rfl, rfl⟩ ?_
    intro i1_ k1_
    refine Holds.seq ?_
    refine Holds.reg ?_
    refine OpsFrom.v (Y.lss (b := 5) (up0 rfl rfl rfl) rfl rfl rfl) rfl ?_
    refine OpsFrom.nil ?_
    refine Holds.seq ?_
    refine Holds.condD rfl (fun h13 => ?_) (fun h13 => ?_)
    · refine Holds.skip ?_
      refine Holds.seq ?_
      refine Holds.block ?_
      refine Holds.seq ?_
      refine Holds.reg ?_
      refine OpsFrom.v (Y.move (up0 rfl rfl rfl) rfl rfl) rfl ?_
      refine OpsFrom.v (Y.assign (up0 rfl rfl rfl) rfl rfl) rfl ?_
      refine OpsFrom.nil ?_
      refine Holds.dr mx [([15], [16, 19, 20, 21, 22, 23, 24, 25, 26, 27, 28, 29, 31]), ([16], [15, 19, 20, 21, 22, 23, 24, 25, 26, 27, 28, 29, 31]), ([17], [19, 20, 21, 22, 23, 24, 25, 26, 27, 28, 29, 31]), ([18], [19, 20, 21, 22, 23, 24, 25, 26, 27, 28, 29, 31]), ([19], [15, 16, 17, 18, 20, 21, 22, 23, 24, 25, 26, 27, 28, 31]), ([20], [15, 16, 17, 18, 19, 21, 24, 25, 26, 27, 31]), ([21], [15, 16, 17, 18, 19, 20, 24, 25, 26, 27, 31]), ([22], [15, 16, 17, 18, 19, 24, 25, 26, 27, 31]), ([23], [15, 16, 17, 18, 19, 24, 25, 26, 27, 31]), ([24], [15, 16, 17, 18, 19, 20, 21, 22, 23, 25, 31]), ([25], [15, 16, 17, 18, 19, 20, 21, 22, 23, 24, 31]), ([26], [15, 16, 17, 18, 19, 20, 21, 22, 23, 31]), ([27], [15, 16, 17, 18, 19, 20, 21, 22, 23, 31]), ([28], [15, 16, 17, 18, 19, 31]), ([29], [15, 16, 17, 18, 31]), ([30], [31]), ([31], [15, 16, 17, 18, 19, 20, 21, 22, 23, 24, 25, 26, 27, 28, 29, 30]), ([32], []), ([4], [])] (by kernel_rfl) ?_
      refine CertK.vd (Y.move (up0 rfl rfl rfl) rfl rfl) rfl rfl ?_
      refine CertK.vd (Y.fa (f := 0) (fld := ⟨ "l", 25, 0, false, "", "fardel/field", 0⟩) ty27 rfl ty25 (by decide) (up0 rfl rfl rfl) rfl rfl) rfl rfl ?_
      refine CertK.vd (Y.ia0 ty25 ty24 (up0 rfl rfl rfl) rfl rfl rfl (by first | (with_reducible assumption) | omega | (simp only [lens, pick_it1_l, *]; first | done | omega) | decide | (split <;> simp only [lens, pick_it1_l, *]) | (with_reducible exact Lt.mono (by assumption) (by decide)) | (simp only [Cs.len]; done) | rfl)) rfl rfl ?_
      refine CertK.vd (Y.ldI ty24 rfl (up0 rfl rfl rfl) rfl rfl rfl (by first | (with_reducible assumption) | omega | (simp only [lens, pick_it1_l, *]; first | done | omega) | decide | (split <;> simp only [lens, pick_it1_l, *]) | (with_reducible exact Lt.mono (by assumption) (by decide)) | (simp only [Cs.len]; done) | rfl)) rfl rfl ?_
      refine CertK.vd (Y.move (up0 rfl rfl rfl) rfl rfl) rfl rfl ?_
      refine CertK.vd (Y.move (up0 rfl rfl rfl) rfl rfl) rfl rfl ?_
      refine CertK.vd (Y.fa (f := 0) (fld := ⟨ "l", 25, 0, false, "", "fardel/field", 0⟩) ty27 rfl ty25 (by decide) (up0 rfl rfl rfl) rfl rfl) rfl rfl ?_
      refine CertK.vd (Y.ia0 ty25 ty24 (up0 rfl rfl rfl) rfl rfl rfl (by first | (with_reducible assumption) | omega | (simp only [lens, pick_it1_l, *]; first | done | omega) | decide | (split <;> simp only [lens, pick_it1_l, *]) | (with_reducible exact Lt.mono (by assumption) (by decide)) | (simp only [Cs.len]; done) | rfl)) rfl rfl ?_
      refine CertK.vd (Y.ldI ty24 rfl (up0 rfl rfl rfl) rfl rfl rfl (by first | (with_reducible assumption) | omega | (simp only [lens, pick_it1_l, *]; first | done | omega) | decide | (split <;> simp only [lens, pick_it1_l, *]) | (with_reducible exact Lt.mono (by assumption) (by decide)) | (simp only [Cs.len]; done) | rfl)) rfl rfl ?_
      refine CertK.vd (Y.move (up0 rfl rfl rfl) rfl rfl) rfl rfl ?_
      refine CertK.vd (Y.fa (f := 0) (fld := ⟨ "l", 25, 0, false, "", "fardel/field", 0⟩) ty27 rfl ty25 (by decide) (up0 rfl rfl rfl) rfl rfl) rfl rfl ?_
      refine CertK.vd (Y.ia0 ty25 ty24 (up0 rfl rfl rfl) rfl rfl rfl (by first | (with_reducible assumption) | omega | (simp only [lens, pick_it1_l, *]; first | done | omega) | decide | (split <;> simp only [lens, pick_it1_l, *]) | (with_reducible exact Lt.mono (by assumption) (by decide)) | (simp only [Cs.len]; done) | rfl)) rfl rfl ?_
      refine CertK.vd (Y.ldI ty24 rfl (up0 rfl rfl rfl) rfl rfl rfl (by first | (with_reducible assumption) | omega | (simp only [lens, pick_it1_l, *]; first | done | omega) | decide | (split <;> simp only [lens, pick_it1_l, *]) | (with_reducible exact Lt.mono (by assumption) (by decide)) | (simp only [Cs.len]; done) | rfl)) rfl rfl ?_
      refine CertK.vd (Y.xor u64s u64m (up0 rfl rfl rfl) rfl rfl rfl) rfl rfl ?_
      refine CertK.vd (Y.and u64s u64m (up0 rfl rfl rfl) rfl rfl rfl) rfl rfl ?_
      refine CertK.vd (Y.xor u64s u64m (up0 rfl rfl rfl) rfl rfl rfl) rfl rfl ?_
      refine CertK.vd (Y.fa (f := 0) (fld := ⟨ "l", 25, 0, false, "", "fardel/field", 0⟩) ty27 rfl ty25 (by decide) (up0 rfl rfl rfl) rfl rfl) rfl rfl ?_
      refine CertK.v (Y.ia0 ty25 ty24 (up0 rfl rfl rfl) rfl rfl rfl (by first | (with_reducible assumption) | omega | (simp only [lens, pick_it1_l, *]; first | done | omega) | decide | (split <;> simp only [lens, pick_it1_l, *]) | (with_reducible exact Lt.mono (by assumption) (by decide)) | (simp only [Cs.len]; done) | rfl)) rfl ?_
      refine CertK.n (Y.stI ty24 (upN rfl rfl) rfl rfl rfl rfl (by first | (with_reducible assumption) | omega | (simp only [lens, pick_it1_l, *]; first | done | omega) | decide | (split <;> simp only [lens, pick_it1_l, *]) | (with_reducible exact Lt.mono (by assumption) (by decide)) | (simp only [Cs.len]; done) | rfl)) rfl rfl rfl rfl ?_
      refine CertK.nil ?_
      refine Holds.reg ?_
      refine OpsFrom.v (Y.addI (b := 1) (up0 rfl rfl rfl) rfl rfl rfl (by first | (with_reducible assumption) | omega | (simp only [lens, pick_it1_l, *]; first | done | omega) | decide | (split <;> simp only [lens, pick_it1_l, *]) | (with_reducible exact Lt.mono (by assumption) (by decide)) | (simp only [Cs.len]; done) | rfl)) rfl ?_
      refine OpsFrom.v (Y.move (up0 rfl rfl rfl) rfl rfl) rfl ?_
      refine OpsFrom.nil ?_
      exact Holds.again (i1_ + 1) (by omega) (by omega) [] ⟨⟨rfl, rfl, rfl, rfl, (nEq (by omega)), trivial⟩, ⟨rfl, (hEq (by rw [pick_it1_s]; unfold pick_s1; first | (dsimp only; done) | rfl)), rfl, trivial⟩, rfl, rfl⟩
    · obtain rfl : i1_ = 5 := by omega
      refine Holds.exit ?_
      refine Holds.seq ?_
      refine Holds.reg ?_
      refine OpsFrom.v (Y.ldAll ty27 rfl (up0 rfl rfl rfl) rfl rfl rfl (by first | (with_reducible assumption) | omega | (simp only [lens, pick_it1_l, *]; first | done | omega) | decide | (split <;> simp only [lens, pick_it1_l, *]) | (with_reducible exact Lt.mono (by assumption) (by decide)) | (simp only [Cs.len]; done) | rfl) (by decide)) rfl ?_
      refine OpsFrom.n (Y.stR ty27 (upN rfl rfl) rfl rfl rfl rfl rfl (by first | (with_reducible assumption) | omega | (simp only [lens, pick_it1_l, *]; first | done | omega) | decide | (split <;> simp only [lens, pick_it1_l, *]) | (with_reducible exact Lt.mono (by assumption) (by decide)) | (simp only [Cs.len]; done) | rfl) (by first | (with_reducible assumption) | omega | (simp only [lens, pick_it1_l, *]; first | done | omega) | decide | (split <;> simp only [lens, pick_it1_l, *]) | (with_reducible exact Lt.mono (by assumption) (by decide)) | (simp only [Cs.len]; done) | rfl) (by decide)) rfl rfl ?_
      refine OpsFrom.nil ?_
      refine Holds.ret ?_
      exact Holds.ret1 (.inl rfl) rfl (.rowN rfl rfl ty27 rfl (by first | (with_reducible assumption) | omega | (simp only [lens, pick_it1_l, *]; first | done | omega) | decide | (split <;> simp only [lens, pick_it1_l, *]) | (with_reducible exact Lt.mono (by assumption) (by decide)) | (simp only [Cs.len]; done) | rfl) (by decide)) (.same _) rfl
  · refine Holds.seq ?_
    refine Holds.reg ?_
    refine OpsFrom.v (Y.move (up0 rfl rfl rfl) rfl rfl) rfl ?_
    refine OpsFrom.nil ?_
    refine Holds.cond _ rfl (fun h9 => ?_) (fun h9 => ?_)
    · refine Holds.reg ?_
      refine OpsFrom.v (Y.move (up0 rfl rfl rfl) rfl rfl) rfl ?_
      refine OpsFrom.v (Y.sub (b := 1) u64s u64m (up0 rfl rfl rfl) rfl rfl rfl) rfl ?_
      refine OpsFrom.v (Y.assign (up0 rfl rfl rfl) rfl rfl) rfl ?_
      refine OpsFrom.nil ?_
      exact join _ [] ⟨⟨rfl, rfl, rfl, (nEq (if_pos h9).symm), trivial⟩, ⟨rfl, rfl, rfl, trivial⟩, rfl, rfl⟩
    · refine Holds.skip ?_
      exact join _ [] ⟨⟨rfl, rfl, rfl, (nEq (if_neg (by simp [h9])).symm), trivial⟩, ⟨rfl, rfl, rfl, trivial⟩, rfl, rfl⟩

def add_s1 (x : List Nat) (y : List Nat) (i1_ : Nat) (m1_ : List Nat) : List Nat :=
  let v3_ : Nat := ((m1_.getD i1_ 0) + (y.getD i1_ 0)) % 18446744073709551616
  m1_.set i1_ v3_
def add_it1 (x : List Nat) (y : List Nat) (i1_ : Nat) : List Nat := iter (add_s1 x y) i1_ x
theorem add_it1_z (x : List Nat) (y : List Nat) : add_it1 x y 0 = x := rfl
theorem add_it1_s (x : List Nat) (y : List Nat) (i1_ : Nat) : add_it1 x y (i1_ + 1) = add_s1 x y i1_ (add_it1 x y i1_) := by unfold add_it1; exact iterS _ _ _
theorem add_it1_l (x : List Nat) (y : List Nat) (i1_ : Nat) : ((add_it1 x y i1_)).length = (x : List Nat).length := iter_inv (fun (s : List Nat) => (s).length = (x : List Nat).length) (by simp) (fun i s h => by
  unfold add_s1
  first | (simp [h]; done) | (dsimp only; (repeat' split) <;> simp [h])) i1_
def add (x : List Nat) (y : List Nat) : List Nat :=
  (car (add_it1 x y 5))
theorem add_len (x : List Nat) (y : List Nat) (l_x : x.length = 5) (l_y : y.length = 5) : ((add x y)).length = 5 := by
  unfold add
  first | (simp [add_it1_l, car_l]; done) | (simp [*, add_it1_l, car_l]; done) | (dsimp only; (repeat' split) <;> simp [*, add_it1_l, car_l])
theorem w_add (x : List Nat) (y : List Nat) (l_x : x.length = 5) (l_y : y.length = 5) : VC Try.prog 24 [.row (.ints .u64 x), .row (.ints .u64 y)] (.row (.ints .u64 (add x y))) := by
  refine VC.go Try.func24 rfl Try.ntmps24 rfl rfl fun O w => ?_
  refine Holds.seq ?_
  refine Holds.reg ?_
  refine OpsFrom.u (Y.boxR (d := 2) (up0 rfl rfl rfl) rfl rfl rfl) rfl rfl rfl ?_
  refine OpsFrom.u (Y.boxR (d := 3) (up0 rfl rfl rfl) rfl rfl rfl) rfl rfl rfl ?_
  refine OpsFrom.u (Y.alloc (d := 4) ty27 rfl rfl (up0 rfl rfl rfl) rfl) rfl rfl rfl ?_
  refine OpsFrom.nil ?_
  refine Holds.seq ?_
  refine Holds.seq ?_
  refine Holds.reg ?_
  refine OpsFrom.v (Y.move (v := (.one (.n .i64 0))) (up0 rfl rfl rfl) rfl rfl) rfl ?_
  refine OpsFrom.nil ?_
  refine Holds.block ?_
  refine Holds.loop (fun (i1_ : Nat) => ⟨[(2, .one (.p 2 0)), (3, .one (.p 3 0)), (4, .one (.p 4 0)), (6, .one (.n .i64 i1_))], [(2, .own (.ints .u64 (add_it1 x y i1_))), (3, .own (.ints .u64 y)), (4, .own (.ints .u64 (List.replicate 5 0)))]⟩) (fun (i1_ : Nat) => i1_ ≤ 5) (fun (i1_ : Nat) => 5 - i1_) 0 (by first | (with_reducible assumption) | omega | (simp only [lens, add_it1_l, *]; first | done | omega) | decide | (split <;> simp only [lens, add_it1_l, *]) | (with_reducible exact Lt.mono (by assumption) (by decide)) | (simp only [Cs.len]; done) | rfl) [] ⟨⟨rfl, rfl, rfl, rfl, trivial⟩, ⟨(hEq (congrArg (fun (s : List Nat) => s) (add_it1_z x y)).symm), rfl, rfl, trivial⟩, rfl, rfl⟩ ?_
  intro i1_ k1_
  refine Holds.seq ?_
  refine Holds.reg ?_
  refine OpsFrom.v (Y.lss (b := 5) (up0 rfl rfl rfl) rfl rfl rfl) rfl ?_
  refine OpsFrom.nil ?_
  refine Holds.seq ?_
  refine Holds.condD rfl (fun h7 => ?_) (fun h7 => ?_)
  · refine Holds.skip ?_
    refine Holds.seq ?_
    refine Holds.block ?_
    refine Holds.seq ?_
    refine Holds.reg ?_
    refine OpsFrom.v (Y.move (up0 rfl rfl rfl) rfl rfl) rfl ?_
    refine OpsFrom.v (Y.assign (up0 rfl rfl rfl) rfl rfl) rfl ?_
    refine OpsFrom.nil ?_
    refine Holds.dr mx [([9], [10, 13, 14, 15, 16, 18]), ([10], [9, 13, 14, 15, 16, 18]), ([11], [13, 14, 15, 16, 18]), ([12], [13, 14, 15, 16, 18]), ([13], [9, 10, 11, 12, 14, 18]), ([14], [9, 10, 11, 12, 13, 18]), ([15], [9, 10, 11, 12, 18]), ([16], [9, 10, 11, 12, 18]), ([17], [18]), ([18], [9, 10, 11, 12, 13, 14, 15, 16, 17]), ([19], []), ([2], [])] (by kernel_rfl) ?_
    refine CertK.vd (Y.move (up0 rfl rfl rfl) rfl rfl) rfl rfl ?_
    refine CertK.vd (Y.fa (f := 0) (fld := ⟨ "l", 25, 0, false, "", "fardel/field", 0⟩) ty27 rfl ty25 (by decide) (up0 rfl rfl rfl) rfl rfl) rfl rfl ?_
    refine CertK.vd (Y.ia0 ty25 ty24 (up0 rfl rfl rfl) rfl rfl rfl (by first | (with_reducible assumption) | omega | (simp only [lens, add_it1_l, *]; first | done | omega) | decide | (split <;> simp only [lens, add_it1_l, *]) | (with_reducible exact Lt.mono (by assumption) (by decide)) | (simp only [Cs.len]; done) | rfl)) rfl rfl ?_
    refine CertK.vd (Y.ldI ty24 rfl (up0 rfl rfl rfl) rfl rfl rfl (by first | (with_reducible assumption) | omega | (simp only [lens, add_it1_l, *]; first | done | omega) | decide | (split <;> simp only [lens, add_it1_l, *]) | (with_reducible exact Lt.mono (by assumption) (by decide)) | (simp only [Cs.len]; done) | rfl)) rfl rfl ?_
    refine CertK.vd (Y.move (up0 rfl rfl rfl) rfl rfl) rfl rfl ?_
    refine CertK.vd (Y.fa (f := 0) (fld := ⟨ "l", 25, 0, false, "", "fardel/field", 0⟩) ty27 rfl ty25 (by decide) (up0 rfl rfl rfl) rfl rfl) rfl rfl ?_
    refine CertK.vd (Y.ia0 ty25 ty24 (up0 rfl rfl rfl) rfl rfl rfl (by first | (with_reducible assumption) | omega | (simp only [lens, add_it1_l, *]; first | done | omega) | decide | (split <;> simp only [lens, add_it1_l, *]) | (with_reducible exact Lt.mono (by assumption) (by decide)) | (simp only [Cs.len]; done) | rfl)) rfl rfl ?_
    refine CertK.vd (Y.ldI ty24 rfl (up0 rfl rfl rfl) rfl rfl rfl (by first | (with_reducible assumption) | omega | (simp only [lens, add_it1_l, *]; first | done | omega) | decide | (split <;> simp only [lens, add_it1_l, *]) | (with_reducible exact Lt.mono (by assumption) (by decide)) | (simp only [Cs.len]; done) | rfl)) rfl rfl ?_
    refine CertK.vd (Y.add u64s u64m (up0 rfl rfl rfl) rfl rfl rfl) rfl rfl ?_
    refine CertK.vd (Y.fa (f := 0) (fld := ⟨ "l", 25, 0, false, "", "fardel/field", 0⟩) ty27 rfl ty25 (by decide) (up0 rfl rfl rfl) rfl rfl) rfl rfl ?_
    refine CertK.v (Y.ia0 ty25 ty24 (up0 rfl rfl rfl) rfl rfl rfl (by first | (with_reducible assumption) | omega | (simp only [lens, add_it1_l, *]; first | done | omega) | decide | (split <;> simp only [lens, add_it1_l, *]) | (with_reducible exact Lt.mono (by assumption) (by decide)) | (simp only [Cs.len]; done) | rfl)) rfl ?_
    refine CertK.n (Y.stI ty24 (upN rfl rfl) rfl rfl rfl rfl (by first | (with_reducible assumption) | omega | (simp only [lens, add_it1_l, *]; first | done | omega) | decide | (split <;> simp only [lens, add_it1_l, *]) | (with_reducible exact Lt.mono (by assumption) (by decide)) | (simp only [Cs.len]; done) | rfl)) rfl rfl rfl rfl ?_
    refine CertK.nil ?_
    refine Holds.reg ?_
    refine OpsFrom.v (Y.addI (b := 1) (up0 rfl rfl rfl) rfl rfl rfl (by first | (with_reducible assumption) | omega | (simp only [lens, add_it1_l, *]; first | done | omega) | decide | (split <;> simp only [lens, add_it1_l, *]) | (with_reducible exact Lt.mono (by assumption) (by decide)) | (simp only [Cs.len]; done) | rfl)) rfl ?_
    refine OpsFrom.v (Y.move (up0 rfl rfl rfl) rfl rfl) rfl ?_
    refine OpsFrom.nil ?_
    exact Holds.again (i1_ + 1) (by omega) (by omega) [] ⟨⟨rfl, rfl, rfl, (nEq (by omega)), trivial⟩, ⟨(hEq (by rw [add_it1_s]; unfold add_s1; first | (dsimp only; done) | rfl)), rfl, rfl, trivial⟩, rfl, rfl⟩
  · obtain rfl : i1_ = 5 := by omega
    refine Holds.exit ?_
    refine Holds.seq ?_
    refine Holds.reg ?_
    refine OpsFrom.v (Y.fa (f := 0) (fld := ⟨ "l", 25, 0, false, "", "fardel/field", 0⟩) ty27 rfl ty25 (by decide) (up0 rfl rfl rfl) rfl rfl) rfl ?_
    refine OpsFrom.v (Y.ldAll ty25 rfl (up0 rfl rfl rfl) rfl rfl rfl (by first | (with_reducible assumption) | omega | (simp only [lens, add_it1_l, *]; first | done | omega) | decide | (split <;> simp only [lens, add_it1_l, *]) | (with_reducible exact Lt.mono (by assumption) (by decide)) | (simp only [Cs.len]; done) | rfl) (by decide)) rfl ?_
    refine OpsFrom.v (Y.callV (w_car _ (by first | (with_reducible assumption) | omega | (simp only [lens, add_it1_l, car_l, *]; first | done | omega) | decide | (split <;> simp only [lens, add_it1_l, car_l, *]) | (with_reducible exact Lt.mono (by assumption) (by decide)) | (simp only [Cs.len]; done) | rfl)) fnok44 (up0 rfl rfl rfl) rfl rfl (.cons _ _ _ _ rfl .nil) (.cons _ _ _ _ (.same _) .nil) rfl rfl) rfl ?_
    refine OpsFrom.n (Y.stR ty27 (upN rfl rfl) rfl rfl rfl rfl rfl (by first | (with_reducible assumption) | omega | (simp only [lens, add_it1_l, car_l, *]; first | done | omega) | decide | (split <;> simp only [lens, add_it1_l, car_l, *]) | (with_reducible exact Lt.mono (by assumption) (by decide)) | (simp only [Cs.len]; done) | rfl) (by first | (with_reducible assumption) | omega | (simp only [lens, add_it1_l, car_l, *]; first | done | omega) | decide | (split <;> simp only [lens, add_it1_l, car_l, *]) | (with_reducible exact Lt.mono (by assumption) (by decide)) | (simp only [Cs.len]; done) | rfl) (by decide)) rfl rfl ?_
    refine OpsFrom.nil ?_
    refine Holds.ret ?_
    exact Holds.ret1 (.inl rfl) rfl (.rowN rfl rfl ty27 rfl (by first | (with_reducible assumption) | omega | (simp only [lens, add_it1_l, car_l, *]; first | done | omega) | decide | (split <;> simp only [lens, add_it1_l, car_l, *]) | (with_reducible exact Lt.mono (by assumption) (by decide)) | (simp only [Cs.len]; done) | rfl) (by decide)) (.same _) rfl

def sub_s1 (x : List Nat) (y : List Nat) (i1_ : Nat) (m1_ : List Nat) : List Nat :=
  let v7_ : Nat := (9007199254740988 + (18446744073709551616 - (y.getD (i1_ + 1) 0))) % 18446744073709551616
  let v8_ : Nat := ((m1_.getD (i1_ + 1) 0) + v7_) % 18446744073709551616
  m1_.set (i1_ + 1) v8_
def sub_it1 (x : List Nat) (y : List Nat) (i1_ : Nat) : List Nat := iter (sub_s1 x y) i1_ (x.set 0 (((x.getD 0 0) + ((9007199254740916 + (18446744073709551616 - (y.getD 0 0))) % 18446744073709551616)) % 18446744073709551616))
theorem sub_it1_z (x : List Nat) (y : List Nat) : sub_it1 x y 0 = x.set 0 (((x.getD 0 0) + ((9007199254740916 + (18446744073709551616 - (y.getD 0 0))) % 18446744073709551616)) % 18446744073709551616) := rfl
theorem sub_it1_s (x : List Nat) (y : List Nat) (i1_ : Nat) : sub_it1 x y (i1_ + 1) = sub_s1 x y i1_ (sub_it1 x y i1_) := by unfold sub_it1; exact iterS _ _ _
theorem sub_it1_l (x : List Nat) (y : List Nat) (i1_ : Nat) : ((sub_it1 x y i1_)).length = (x.set 0 (((x.getD 0 0) + ((9007199254740916 + (18446744073709551616 - (y.getD 0 0))) % 18446744073709551616)) % 18446744073709551616) : List Nat).length := iter_inv (fun (s : List Nat) => (s).length = (x.set 0 (((x.getD 0 0) + ((9007199254740916 + (18446744073709551616 - (y.getD 0 0))) % 18446744073709551616)) % 18446744073709551616) : List Nat).length) (by simp) (fun i s h => by
  unfold sub_s1
  first | (simp [h]; done) | (dsimp only; (repeat' split) <;> simp [h])) i1_
def sub (x : List Nat) (y : List Nat) : List Nat :=
  (car (sub_it1 x y 4))
theorem sub_len (x : List Nat) (y : List Nat) (l_x : x.length = 5) (l_y : y.length = 5) : ((sub x y)).length = 5 := by
  unfold sub
  first | (simp [sub_it1_l, car_l]; done) | (simp [*, sub_it1_l, car_l]; done) | (dsimp only; (repeat' split) <;> simp [*, sub_it1_l, car_l])
theorem w_sub (x : List Nat) (y : List Nat) (l_x : x.length = 5) (l_y : y.length = 5) : VC Try.prog 26 [.row (.ints .u64 x), .row (.ints .u64 y)] (.row (.ints .u64 (sub x y))) := by
  refine VC.go Try.func26 rfl Try.ntmps26 rfl rfl fun O w => ?_
  refine Holds.seq ?_
  refine Holds.reg ?_
  refine OpsFrom.u (Y.boxR (d := 2) (up0 rfl rfl rfl) rfl rfl rfl) rfl rfl rfl ?_
  refine OpsFrom.u (Y.boxR (d := 3) (up0 rfl rfl rfl) rfl rfl rfl) rfl rfl rfl ?_
  refine OpsFrom.u (Y.alloc (d := 4) ty27 rfl rfl (up0 rfl rfl rfl) rfl) rfl rfl rfl ?_
  refine OpsFrom.nil ?_
  refine Holds.seq ?_
  refine Holds.reg ?_
  refine OpsFrom.v (Y.fa (f := 0) (fld := ⟨ "l", 25, 0, false, "", "fardel/field", 0⟩) ty27 rfl ty25 (by decide) (up0 rfl rfl rfl) rfl rfl) rfl ?_
  refine OpsFrom.v (Y.ia0 (i := 0) ty25 ty24 (up0 rfl rfl rfl) rfl rfl rfl (by first | (with_reducible assumption) | omega | (simp only [lens, *]; first | done | omega) | decide | (split <;> simp only [lens, *]) | (with_reducible exact Lt.mono (by assumption) (by decide)) | (simp only [Cs.len]; done) | rfl)) rfl ?_
  refine OpsFrom.v (Y.ldI ty24 rfl (up0 rfl rfl rfl) rfl rfl rfl (by first | (with_reducible assumption) | omega | (simp only [lens, *]; first | done | omega) | decide | (split <;> simp only [lens, *]) | (with_reducible exact Lt.mono (by assumption) (by decide)) | (simp only [Cs.len]; done) | rfl)) rfl ?_
  refine OpsFrom.v (Y.fa (f := 0) (fld := ⟨ "l", 25, 0, false, "", "fardel/field", 0⟩) ty27 rfl ty25 (by decide) (up0 rfl rfl rfl) rfl rfl) rfl ?_
  refine OpsFrom.v (Y.ia0 (i := 0) ty25 ty24 (up0 rfl rfl rfl) rfl rfl rfl (by first | (with_reducible assumption) | omega | (simp only [lens, *]; first | done | omega) | decide | (split <;> simp only [lens, *]) | (with_reducible exact Lt.mono (by assumption) (by decide)) | (simp only [Cs.len]; done) | rfl)) rfl ?_
  refine OpsFrom.v (Y.ldI ty24 rfl (up0 rfl rfl rfl) rfl rfl rfl (by first | (with_reducible assumption) | omega | (simp only [lens, *]; first | done | omega) | decide | (split <;> simp only [lens, *]) | (with_reducible exact Lt.mono (by assumption) (by decide)) | (simp only [Cs.len]; done) | rfl)) rfl ?_
  refine OpsFrom.v (Y.sub (a := 9007199254740916) u64s u64m (up0 rfl rfl rfl) rfl rfl rfl) rfl ?_
  refine OpsFrom.v (Y.add u64s u64m (up0 rfl rfl rfl) rfl rfl rfl) rfl ?_
  refine OpsFrom.v (Y.fa (f := 0) (fld := ⟨ "l", 25, 0, false, "", "fardel/field", 0⟩) ty27 rfl ty25 (by decide) (up0 rfl rfl rfl) rfl rfl) rfl ?_
  refine OpsFrom.v (Y.ia0 (i := 0) ty25 ty24 (up0 rfl rfl rfl) rfl rfl rfl (by first | (with_reducible assumption) | omega | (simp only [lens, *]; first | done | omega) | decide | (split <;> simp only [lens, *]) | (with_reducible exact Lt.mono (by assumption) (by decide)) | (simp only [Cs.len]; done) | rfl)) rfl ?_
  refine OpsFrom.n (Y.stI ty24 (upN rfl rfl) rfl rfl rfl rfl (by first | (with_reducible assumption) | omega | (simp only [lens, *]; first | done | omega) | decide | (split <;> simp only [lens, *]) | (with_reducible exact Lt.mono (by assumption) (by decide)) | (simp only [Cs.len]; done) | rfl)) rfl rfl ?_
  refine OpsFrom.nil ?_
  refine Holds.seq ?_
  refine Holds.seq ?_
  refine Holds.reg ?_
  refine OpsFrom.v (Y.move (v := (.one (.n .i64 0))) (up0 rfl rfl rfl) rfl rfl) rfl ?_
  refine OpsFrom.nil ?_
  refine Holds.block ?_
  refine Holds.loop (fun (i1_ : Nat) => ⟨[(2, .one (.p 2 0)), (3, .one (.p 3 0)), (4, .one (.p 4 0)), (16, .one (.n .i64 i1_))], [(2, .own (.ints .u64 (sub_it1 x y i1_))), (3, .own (.ints .u64 y)), (4, .own (.ints .u64 (List.replicate 5 0)))]⟩) (fun (i1_ : Nat) => i1_ ≤ 4) (fun (i1_ : Nat) => 4 - i1_) 0 (by first | (with_reducible assumption) | omega | (simp only [lens, sub_it1_l, *]; first | done | omega) | decide | (split <;> simp only [lens, sub_it1_l, *]) | (with_reducible exact Lt.mono (by assumption) (by decide)) | (simp only [Cs.len]; done) | rfl) [] ⟨⟨rfl, rfl, rfl, rfl, trivial⟩, ⟨(hEq (congrArg (fun (s : List Nat) => s) (sub_it1_z x y)).symm), rfl, rfl, trivial⟩, rfl, rfl⟩ ?_
  intro i1_ k1_
  refine Holds.seq ?_
  refine Holds.reg ?_
  refine OpsFrom.v (Y.lss (b := 4) (up0 rfl rfl rfl) rfl rfl rfl) rfl ?_
  refine OpsFrom.nil ?_
  refine Holds.seq ?_
  refine Holds.condD rfl (fun h17 => ?_) (fun h17 => ?_)
  · refine Holds.skip ?_
    refine Holds.seq ?_
    refine Holds.block ?_
    refine Holds.seq ?_
    refine Holds.reg ?_
    refine OpsFrom.v (Y.move (up0 rfl rfl rfl) rfl rfl) rfl ?_
    refine OpsFrom.v (Y.assign (up0 rfl rfl rfl) rfl rfl) rfl ?_
    refine OpsFrom.nil ?_
    refine Holds.dr mx [([19], [21, 24, 25, 26, 27, 28, 29, 31]), ([20], [21, 24, 25, 26, 27, 28, 29, 31]), ([21], [19, 20, 24, 25, 26, 27, 28, 29, 31]), ([22], [24, 25, 26, 27, 28, 29, 31]), ([23], [24, 25, 26, 27, 28, 29, 31]), ([24], [19, 20, 21, 22, 23, 26, 31]), ([25], [19, 20, 21, 22, 23, 26, 31]), ([26], [19, 20, 21, 22, 23, 24, 25, 31]), ([27], [19, 20, 21, 22, 23, 31]), ([28], [19, 20, 21, 22, 23, 31]), ([29], [19, 20, 21, 22, 23, 31]), ([30], [31]), ([31], [19, 20, 21, 22, 23, 24, 25, 26, 27, 28, 29, 30]), ([32], []), ([2], [])] (by kernel_rfl) ?_
    refine CertK.vd (Y.move (up0 rfl rfl rfl) rfl rfl) rfl rfl ?_
    refine CertK.vd (Y.addI (b := 1) (up0 rfl rfl rfl) rfl rfl rfl (by first | (with_reducible assumption) | omega | (simp only [lens, sub_it1_l, *]; first | done | omega) | decide | (split <;> simp only [lens, sub_it1_l, *]) | (with_reducible exact Lt.mono (by assumption) (by decide)) | (simp only [Cs.len]; done) | rfl)) rfl rfl ?_
    refine CertK.vd (Y.fa (f := 0) (fld := ⟨ "l", 25, 0, false, "", "fardel/field", 0⟩) ty27 rfl ty25 (by decide) (up0 rfl rfl rfl) rfl rfl) rfl rfl ?_
    refine CertK.vd (Y.ia0 ty25 ty24 (up0 rfl rfl rfl) rfl rfl rfl (by first | (with_reducible assumption) | omega | (simp only [lens, sub_it1_l, *]; first | done | omega) | decide | (split <;> simp only [lens, sub_it1_l, *]) | (with_reducible exact Lt.mono (by assumption) (by decide)) | (simp only [Cs.len]; done) | rfl)) rfl rfl ?_
    refine CertK.vd (Y.ldI ty24 rfl (up0 rfl rfl rfl) rfl rfl rfl (by first | (with_reducible assumption) | omega | (simp only [lens, sub_it1_l, *]; first | done | omega) | decide | (split <;> simp only [lens, sub_it1_l, *]) | (with_reducible exact Lt.mono (by assumption) (by decide)) | (simp only [Cs.len]; done) | rfl)) rfl rfl ?_
    refine CertK.vd (Y.move (up0 rfl rfl rfl) rfl rfl) rfl rfl ?_
    refine CertK.vd (Y.addI (b := 1) (up0 rfl rfl rfl) rfl rfl rfl (by first | (with_reducible assumption) | omega | (simp only [lens, sub_it1_l, *]; first | done | omega) | decide | (split <;> simp only [lens, sub_it1_l, *]) | (with_reducible exact Lt.mono (by assumption) (by decide)) | (simp only [Cs.len]; done) | rfl)) rfl rfl ?_
    refine CertK.vd (Y.fa (f := 0) (fld := ⟨ "l", 25, 0, false, "", "fardel/field", 0⟩) ty27 rfl ty25 (by decide) (up0 rfl rfl rfl) rfl rfl) rfl rfl ?_
    refine CertK.vd (Y.ia0 ty25 ty24 (up0 rfl rfl rfl) rfl rfl rfl (by first | (with_reducible assumption) | omega | (simp only [lens, sub_it1_l, *]; first | done | omega) | decide | (split <;> simp only [lens, sub_it1_l, *]) | (with_reducible exact Lt.mono (by assumption) (by decide)) | (simp only [Cs.len]; done) | rfl)) rfl rfl ?_
    refine CertK.vd (Y.ldI ty24 rfl (up0 rfl rfl rfl) rfl rfl rfl (by first | (with_reducible assumption) | omega | (simp only [lens, sub_it1_l, *]; first | done | omega) | decide | (split <;> simp only [lens, sub_it1_l, *]) | (with_reducible exact Lt.mono (by assumption) (by decide)) | (simp only [Cs.len]; done) | rfl)) rfl rfl ?_
    refine CertK.vd (Y.sub (a := 9007199254740988) u64s u64m (up0 rfl rfl rfl) rfl rfl rfl) rfl rfl ?_
    refine CertK.vd (Y.add u64s u64m (up0 rfl rfl rfl) rfl rfl rfl) rfl rfl ?_
    refine CertK.vd (Y.fa (f := 0) (fld := ⟨ "l", 25, 0, false, "", "fardel/field", 0⟩) ty27 rfl ty25 (by decide) (up0 rfl rfl rfl) rfl rfl) rfl rfl ?_
    refine CertK.v (Y.ia0 ty25 ty24 (up0 rfl rfl rfl) rfl rfl rfl (by first | (with_reducible assumption) | omega | (simp only [lens, sub_it1_l, *]; first | done | omega) | decide | (split <;> simp only [lens, sub_it1_l, *]) | (with_reducible exact Lt.mono (by assumption) (by decide)) | (simp only [Cs.len]; done) | rfl)) rfl ?_
    refine CertK.n (Y.stI ty24 (upN rfl rfl) rfl rfl rfl rfl (by first | (with_reducible assumption) | omega | (simp only [lens, sub_it1_l, *]; first | done | omega) | decide | (split <;> simp only [lens, sub_it1_l, *]) | (with_reducible exact Lt.mono (by assumption) (by decide)) | (simp only [Cs.len]; done) | rfl)) rfl rfl rfl rfl ?_
    refine CertK.nil ?_
    refine Holds.reg ?_
    refine OpsFrom.v (Y.addI (b := 1) (up0 rfl rfl rfl) rfl rfl rfl (by first | (with_reducible assumption) | omega | (simp only [lens, sub_it1_l, *]; first | done | omega) | decide | (split <;> simp only [lens, sub_it1_l, *]) | (with_reducible exact Lt.mono (by assumption) (by decide)) | (simp only [Cs.len]; done) | rfl)) rfl ?_
    refine OpsFrom.v (Y.move (up0 rfl rfl rfl) rfl rfl) rfl ?_
    refine OpsFrom.nil ?_
    exact Holds.again (i1_ + 1) (by omega) (by omega) [] ⟨⟨rfl, rfl, rfl, (nEq (by omega)), trivial⟩, ⟨(hEq (by rw [sub_it1_s]; unfold sub_s1; first | (dsimp only; done) | rfl)), rfl, rfl, trivial⟩, rfl, rfl⟩
  · obtain rfl : i1_ = 4 := by omega
    refine Holds.exit ?_
    refine Holds.seq ?_
    refine Holds.reg ?_
    refine OpsFrom.v (Y.fa (f := 0) (fld := ⟨ "l", 25, 0, false, "", "fardel/field", 0⟩) ty27 rfl ty25 (by decide) (up0 rfl rfl rfl) rfl rfl) rfl ?_
    refine OpsFrom.v (Y.ldAll ty25 rfl (up0 rfl rfl rfl) rfl rfl rfl (by first | (with_reducible assumption) | omega | (simp only [lens, sub_it1_l, *]; first | done | omega) | decide | (split <;> simp only [lens, sub_it1_l, *]) | (with_reducible exact Lt.mono (by assumption) (by decide)) | (simp only [Cs.len]; done) | rfl) (by decide)) rfl ?_
    refine OpsFrom.v (Y.callV (w_car _ (by first | (with_reducible assumption) | omega | (simp only [lens, sub_it1_l, car_l, *]; first | done | omega) | decide | (split <;> simp only [lens, sub_it1_l, car_l, *]) | (with_reducible exact Lt.mono (by assumption) (by decide)) | (simp only [Cs.len]; done) | rfl)) fnok44 (up0 rfl rfl rfl) rfl rfl (.cons _ _ _ _ rfl .nil) (.cons _ _ _ _ (.same _) .nil) rfl rfl) rfl ?_
    refine OpsFrom.n (Y.stR ty27 (upN rfl rfl) rfl rfl rfl rfl rfl (by first | (with_reducible assumption) | omega | (simp only [lens, sub_it1_l, car_l, *]; first | done | omega) | decide | (split <;> simp only [lens, sub_it1_l, car_l, *]) | (with_reducible exact Lt.mono (by assumption) (by decide)) | (simp only [Cs.len]; done) | rfl) (by first | (with_reducible assumption) | omega | (simp only [lens, sub_it1_l, car_l, *]; first | done | omega) | decide | (split <;> simp only [lens, sub_it1_l, car_l, *]) | (with_reducible exact Lt.mono (by assumption) (by decide)) | (simp only [Cs.len]; done) | rfl) (by decide)) rfl rfl ?_
    refine OpsFrom.nil ?_
    refine Holds.ret ?_
    exact Holds.ret1 (.inl rfl) rfl (.rowN rfl rfl ty27 rfl (by first | (with_reducible assumption) | omega | (simp only [lens, sub_it1_l, car_l, *]; first | done | omega) | decide | (split <;> simp only [lens, sub_it1_l, car_l, *]) | (with_reducible exact Lt.mono (by assumption) (by decide)) | (simp only [Cs.len]; done) | rfl) (by decide)) (.same _) rfl

def neg (x : List Nat) : List Nat :=
  (sub (List.replicate 5 0) x)
theorem neg_len (x : List Nat) (l_x : x.length = 5) : ((neg x)).length = 5 := by
  unfold neg
  first | (simp [sub_len]; done) | (simp [*, sub_len]; done) | (dsimp only; (repeat' split) <;> simp [*, sub_len])
theorem w_neg (x : List Nat) (l_x : x.length = 5) : VC Try.prog 31 [.row (.ints .u64 x)] (.row (.ints .u64 (neg x))) := by
  refine VC.go Try.func31 rfl Try.ntmps31 rfl rfl fun O w => ?_
  refine Holds.seq ?_
  refine Holds.reg ?_
  refine OpsFrom.u (Y.boxR (d := 1) (up0 rfl rfl rfl) rfl rfl rfl) rfl rfl rfl ?_
  refine OpsFrom.u (Y.alloc (d := 2) ty27 rfl rfl (up0 rfl rfl rfl) rfl) rfl rfl rfl ?_
  refine OpsFrom.nil ?_
  refine Holds.seq ?_
  refine Holds.reg ?_
  refine OpsFrom.v (Y.buildT [(0, 5)] ty27 rfl (by kernel_rfl) (up0 rfl rfl rfl) rfl (.nil _)) rfl ?_
  refine OpsFrom.v (Y.ldAll ty27 rfl (up0 rfl rfl rfl) rfl rfl rfl (by first | (with_reducible assumption) | omega | (simp only [lens, *]; first | done | omega) | decide | (split <;> simp only [lens, *]) | (with_reducible exact Lt.mono (by assumption) (by decide)) | (simp only [Cs.len]; done) | rfl) (by decide)) rfl ?_
  refine OpsFrom.v (Y.callV (w_sub _ _ (by first | (with_reducible assumption) | omega | (simp only [lens, sub_len, *]; first | done | omega) | decide | (split <;> simp only [lens, sub_len, *]) | (with_reducible exact Lt.mono (by assumption) (by decide)) | (simp only [Cs.len]; done) | rfl) (by first | (with_reducible assumption) | omega | (simp only [lens, sub_len, *]; first | done | omega) | decide | (split <;> simp only [lens, sub_len, *]) | (with_reducible exact Lt.mono (by assumption) (by decide)) | (simp only [Cs.len]; done) | rfl)) fnok26 (up0 rfl rfl rfl) rfl rfl (.cons _ _ _ _ rfl (.cons _ _ _ _ rfl .nil)) (.cons _ _ _ _ (.same _) (.cons _ _ _ _ (.same _) .nil)) rfl rfl) rfl ?_
  refine OpsFrom.n (Y.stR ty27 (upN rfl rfl) rfl rfl rfl rfl rfl (by first | (with_reducible assumption) | omega | (simp only [lens, sub_len, *]; first | done | omega) | decide | (split <;> simp only [lens, sub_len, *]) | (with_reducible exact Lt.mono (by assumption) (by decide)) | (simp only [Cs.len]; done) | rfl) (by first | (with_reducible assumption) | omega | (simp only [lens, sub_len, *]; first | done | omega) | decide | (split <;> simp only [lens, sub_len, *]) | (with_reducible exact Lt.mono (by assumption) (by decide)) | (simp only [Cs.len]; done) | rfl) (by decide)) rfl rfl ?_
  refine OpsFrom.nil ?_
  refine Holds.ret ?_
  exact Holds.ret1 (.inl rfl) rfl (.rowN rfl rfl ty27 rfl (by first | (with_reducible assumption) | omega | (simp only [lens, sub_len, *]; first | done | omega) | decide | (split <;> simp only [lens, sub_len, *]) | (with_reducible exact Lt.mono (by assumption) (by decide)) | (simp only [Cs.len]; done) | rfl) (by decide)) (.same _) rfl

theorem load_l (b : List Nat) : (load b).length = 5 := by unfold load; exact car_len _ rfl
theorem fbytes_l (x : List Nat) : (fbytes x).length = 32 := by unfold fbytes; rw [fbytes_it1_l]; rfl
theorem neg_l (x : List Nat) : (neg x).length = 5 := by
  unfold neg sub
  rw [car_len _ (by rw [sub_it1_l, List.length_set]; rfl)]
theorem add_l (x y : List Nat) : (add x y).length = x.length := by unfold add; rw [car_l, add_it1_l]
theorem sub_l (x y : List Nat) : (sub x y).length = x.length := by unfold sub; rw [car_l, sub_it1_l, List.length_set]
theorem pick_l (x y : List Nat) (f : Bool) : (pick x y f).length = y.length := by unfold pick; exact pick_it1_l _ _ _ _
attribute [irreducible] load fbytes odd same pick add sub neg

end Go.Proofs.Ytnfiiclmbiiokaa
