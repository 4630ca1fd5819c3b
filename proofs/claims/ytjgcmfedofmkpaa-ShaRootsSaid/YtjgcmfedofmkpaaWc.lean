/-
  Walks: the document: a block.
-/
import Derived.Test.YtjgcmfedofmkpaaWb
namespace Go.Proofs.Ytjgcmfedofmkpaa
open Go Go.Fx
set_option linter.unusedVariables false
set_option linter.unusedSimpArgs false
def rblock_s1 (h : List Nat) (b : List Nat) (k : List Nat) (i1_ : Nat) (m1_ : List Nat) : List Nat :=
  let v24_ : Nat := (rturn (m1_.getD 4 0) 14) ^^^ (rturn (m1_.getD 4 0) 18)
  let v25_ : Nat := ((m1_.getD 7 0) + (v24_ ^^^ (rturn (m1_.getD 4 0) 41))) % 18446744073709551616
  let v26_ : Nat := 18446744073709551616 - 1 - (m1_.getD 4 0)
  let v27_ : Nat := ((m1_.getD 4 0) &&& (m1_.getD 5 0)) ^^^ (v26_ &&& (m1_.getD 6 0))
  let v28_ : Nat := (((v25_ + v27_) % 18446744073709551616) + (k.getD i1_ 0)) % 18446744073709551616
  let v29_ : Nat := (v28_ + ((rwords b).getD i1_ 0)) % 18446744073709551616
  let v30_ : Nat := (rturn (m1_.getD 0 0) 28) ^^^ (rturn (m1_.getD 0 0) 34)
  let v31_ : Nat := ((m1_.getD 0 0) &&& (m1_.getD 1 0)) ^^^ ((m1_.getD 0 0) &&& (m1_.getD 2 0))
  let v32_ : Nat := v31_ ^^^ ((m1_.getD 1 0) &&& (m1_.getD 2 0))
  let v33_ : Nat := ((v30_ ^^^ (rturn (m1_.getD 0 0) 39)) + v32_) % 18446744073709551616
  let v34_ : Nat := ((m1_.getD 3 0) + v29_) % 18446744073709551616
  let v35_ : List Nat := ((((((((List.replicate 8 0).set 0 ((v29_ + v33_) % 18446744073709551616)).set 1 (m1_.getD 0 0)).set 2 (m1_.getD 1 0)).set 3 (m1_.getD 2 0)).set 4 v34_).set 5 (m1_.getD 4 0)).set 6 (m1_.getD 5 0)).set 7 (m1_.getD 6 0)
  v35_
def rblock_it1 (h : List Nat) (b : List Nat) (k : List Nat) (i1_ : Nat) : List Nat := iter (rblock_s1 h b k) i1_ h
theorem rblock_it1_z (h : List Nat) (b : List Nat) (k : List Nat) : rblock_it1 h b k 0 = h := rfl
theorem rblock_it1_s (h : List Nat) (b : List Nat) (k : List Nat) (i1_ : Nat) : rblock_it1 h b k (i1_ + 1) = rblock_s1 h b k i1_ (rblock_it1 h b k i1_) := by unfold rblock_it1; exact iterS _ _ _
theorem rblock_n {h : List Nat} (lh : h.length = 8) (b k : List Nat) : ∀ i, (rblock_it1 h b k i).length = 8
  | 0 => lh
  | i + 1 => by
    rw [rblock_it1_s]
    unfold rblock_s1
    dsimp only
    simp only [List.length_set, List.length_replicate]
def rblock_s2 (h : List Nat) (b : List Nat) (k : List Nat) (i2_ : Nat) (m2_ : List Nat) : List Nat :=
  let v50_ : Nat := ((m2_.getD i2_ 0) + ((rblock_it1 h b k 80).getD i2_ 0)) % 18446744073709551616
  m2_.set i2_ v50_
def rblock_it2 (h : List Nat) (b : List Nat) (k : List Nat) (i2_ : Nat) : List Nat := iter (rblock_s2 h b k) i2_ h
theorem rblock_it2_z (h : List Nat) (b : List Nat) (k : List Nat) : rblock_it2 h b k 0 = h := rfl
theorem rblock_it2_s (h : List Nat) (b : List Nat) (k : List Nat) (i2_ : Nat) : rblock_it2 h b k (i2_ + 1) = rblock_s2 h b k i2_ (rblock_it2 h b k i2_) := by unfold rblock_it2; exact iterS _ _ _
theorem rblock_it2_l (h : List Nat) (b : List Nat) (k : List Nat) (i2_ : Nat) : ((rblock_it2 h b k i2_)).length = (h : List Nat).length := iter_inv (fun (s : List Nat) => (s).length = (h : List Nat).length) (by simp) (fun i s h => by
  unfold rblock_s2
  first | (simp [rwords_l, h]; done) | (dsimp only; (repeat' split) <;> simp [rwords_l, h])) i2_
def rblock (h : List Nat) (b : List Nat) (k : List Nat) : List Nat :=
  (rblock_it2 h b k 8)
theorem rblock_len (h : List Nat) (b : List Nat) (k : List Nat) (l_h : h.length = 8) (l_k : k.length = 80) (l_b : b.length = 128) : ((rblock h b k)).length = 8 := by
  unfold rblock
  first | (simp [rwords_l, rblock_it2_l]; done) | (simp [*, rwords_l, rblock_it2_l]; done) | (dsimp only; (repeat' split) <;> simp [*, rwords_l, rblock_it2_l])
theorem w_rblock (h : List Nat) (b : List Nat) (k : List Nat) (l_h : h.length = 8) (l_k : k.length = 80) (l_b : b.length = 128) : VC Try.prog 44 [.row (.ints .u64 h), .one (.bs false .u8 b), .row (.ints .u64 k)] (.row (.ints .u64 (rblock h b k))) := by
  refine VC.go Try.func44 rfl Try.ntmps44 rfl rfl fun O w => ?_
  refine Holds.seq ?_
  refine Holds.reg ?_
  refine OpsFrom.u (Y.boxR (d := 3) (up0 rfl rfl rfl) rfl rfl rfl) rfl rfl rfl ?_
  refine OpsFrom.u (Y.boxR (d := 5) (up0 rfl rfl rfl) rfl rfl rfl) rfl rfl rfl ?_
  refine OpsFrom.u (Y.alloc (d := 6) ty28 rfl rfl (up0 rfl rfl rfl) rfl) rfl rfl rfl ?_
  refine OpsFrom.nil ?_
  refine Holds.seq ?_
  refine Holds.reg ?_
  refine OpsFrom.v (Y.move (up0 rfl rfl rfl) rfl rfl) rfl ?_
  refine OpsFrom.v (Y.callV (w_rwords _ (by first | (with_reducible assumption) | omega | (simp only [lens, rwords_l, *]; first | done | omega) | decide | (split <;> simp only [lens, rwords_l, *]) | (with_reducible exact Lt.mono (by assumption) (by decide)) | (simp only [Cs.len]; done) | rfl)) fnok51 (up0 rfl rfl rfl) rfl rfl (.cons _ _ _ _ rfl .nil) (.cons _ _ _ _ (.same _) .nil) rfl rfl) rfl ?_
  refine OpsFrom.u (Y.alloc (d := 7) ty35 rfl rfl (up0 rfl rfl rfl) rfl) rfl rfl rfl ?_
  refine OpsFrom.n (Y.stR ty35 (upN rfl rfl) rfl rfl rfl rfl rfl (by first | (with_reducible assumption) | omega | (simp only [lens, rwords_l, *]; first | done | omega) | decide | (split <;> simp only [lens, rwords_l, *]) | (with_reducible exact Lt.mono (by assumption) (by decide)) | (simp only [Cs.len]; done) | rfl) (by first | (with_reducible assumption) | omega | (simp only [lens, rwords_l, *]; first | done | omega) | decide | (split <;> simp only [lens, rwords_l, *]) | (with_reducible exact Lt.mono (by assumption) (by decide)) | (simp only [Cs.len]; done) | rfl) (by decide)) rfl rfl ?_
  refine OpsFrom.nil ?_
  refine Holds.seq ?_
  refine Holds.reg ?_
  refine OpsFrom.v (Y.ldAll ty28 rfl (up0 rfl rfl rfl) rfl rfl rfl (by first | (with_reducible assumption) | omega | (simp only [lens, rwords_l, *]; first | done | omega) | decide | (split <;> simp only [lens, rwords_l, *]) | (with_reducible exact Lt.mono (by assumption) (by decide)) | (simp only [Cs.len]; done) | rfl) (by decide)) rfl ?_
  refine OpsFrom.u (Y.alloc (d := 8) ty28 rfl rfl (up0 rfl rfl rfl) rfl) rfl rfl rfl ?_
  refine OpsFrom.n (Y.stR ty28 (upN rfl rfl) rfl rfl rfl rfl rfl (by first | (with_reducible assumption) | omega | (simp only [lens, rwords_l, *]; first | done | omega) | decide | (split <;> simp only [lens, rwords_l, *]) | (with_reducible exact Lt.mono (by assumption) (by decide)) | (simp only [Cs.len]; done) | rfl) (by first | (with_reducible assumption) | omega | (simp only [lens, rwords_l, *]; first | done | omega) | decide | (split <;> simp only [lens, rwords_l, *]) | (with_reducible exact Lt.mono (by assumption) (by decide)) | (simp only [Cs.len]; done) | rfl) (by decide)) rfl rfl ?_
  refine OpsFrom.nil ?_
  refine Holds.seq ?_
  refine Holds.seq ?_
  refine Holds.reg ?_
  refine OpsFrom.v (Y.assign (v := (.one (.n .i64 0))) (up0 rfl rfl rfl) rfl rfl) rfl ?_
  refine OpsFrom.nil ?_
  refine Holds.block ?_
  refine Holds.loop (fun (i1_ : Nat) => ⟨[(3, .one (.p 3 0)), (5, .one (.p 5 0)), (6, .one (.p 6 0)), (7, .one (.p 7 0)), (8, .one (.p 8 0)), (9, .one (.n .i64 i1_))], [(3, .own (.ints .u64 h)), (5, .own (.ints .u64 k)), (6, .own (.ints .u64 (List.replicate 8 0))), (7, .own (.ints .u64 (rwords b))), (8, .own (.ints .u64 (rblock_it1 h b k i1_)))]⟩) (fun (i1_ : Nat) => i1_ ≤ 80) (fun (i1_ : Nat) => 80 - i1_) 0 (by first | (with_reducible assumption) | omega | (simp only [lens, rwords_l, *]; first | done | omega) | decide | (split <;> simp only [lens, rwords_l, *]) | (with_reducible exact Lt.mono (by assumption) (by decide)) | (simp only [Cs.len]; done) | rfl) [] ⟨⟨rfl, rfl, rfl, rfl, rfl, rfl, trivial⟩, ⟨rfl, rfl, rfl, rfl, (hEq (congrArg (fun (s : List Nat) => s) (rblock_it1_z h b k)).symm), trivial⟩, rfl, rfl⟩ ?_
  intro i1_ k1_
  have hn1 := rblock_n l_h b k i1_
  refine Holds.seq ?_
  refine Holds.seq ?_
  refine Holds.reg ?_
  refine OpsFrom.v (Y.move (up0 rfl rfl rfl) rfl rfl) rfl ?_
  refine OpsFrom.v (Y.lss (b := 80) (up0 rfl rfl rfl) rfl rfl rfl) rfl ?_
  refine OpsFrom.nil ?_
  refine Holds.condD rfl (fun h17 => ?_) (fun h17 => ?_)
  · refine Holds.skip ?_
    refine Holds.seq ?_
    refine Holds.block ?_
    refine Holds.seq ?_
    refine Holds.dr mx [([20], [22, 23, 24, 25, 26, 27, 28, 29, 30, 31, 32, 34, 35, 36, 37, 38, 39, 40, 41, 42, 43, 44, 45, 47, 48, 49, 51, 52, 53]), ([21], [22, 23, 24, 25, 26, 27, 28, 29, 30, 31, 32, 34, 35, 36, 37, 38, 39, 40, 41, 42, 43, 44, 45, 47, 48, 49, 51, 52, 53]), ([22], [20, 21, 25, 26, 29, 30, 34, 35, 36, 37, 38, 39, 40, 41, 42, 43, 44, 45, 47, 48, 49, 51, 52, 53]), ([23], [20, 21, 25, 26, 29, 30, 34, 35, 36, 37, 38, 39, 40, 41, 42, 43, 44, 45, 47, 48, 49, 51, 52, 53]), ([24], [20, 21, 25, 26, 29, 30, 34, 35, 36, 37, 38, 39, 40, 41, 42, 43, 44, 45, 47, 48, 49, 51, 52, 53]), ([25], [20, 21, 22, 23, 24, 29, 30, 34, 35, 36, 37, 38, 39, 40, 41, 42, 43, 44, 45, 47, 48, 49, 51, 52, 53]), ([26], [20, 21, 22, 23, 24, 29, 30, 34, 35, 36, 37, 38, 39, 40, 41, 42, 43, 44, 45, 47, 48, 49, 51, 52, 53]), ([27], [20, 21, 29, 30, 34, 35, 36, 37, 38, 39, 40, 41, 42, 43, 44, 45, 47, 48, 49, 51, 52, 53]), ([28], [20, 21, 29, 30, 31, 34, 35, 36, 37, 38, 39, 40, 41, 42, 43, 44, 45, 47, 48, 49, 51, 52, 53]), ([29], [20, 21, 22, 23, 24, 25, 26, 27, 28, 34, 35, 36, 37, 38, 39, 40, 41, 42, 43, 44, 45, 47, 48, 49, 51, 52, 53]), ([30], [20, 21, 22, 23, 24, 25, 26, 27, 28, 34, 35, 36, 37, 38, 39, 40, 41, 42, 43, 44, 45, 47, 48, 49, 51, 52, 53]), ([31], [20, 21, 28, 34, 35, 36, 37, 38, 39, 40, 41, 42, 43, 44, 45, 47, 48, 49, 51, 52, 53]), ([32], [20, 21, 34, 35, 36, 37, 38, 39, 40, 41, 42, 43, 44, 45, 47, 48, 49, 51, 52, 53]), ([33], [34, 35, 36, 37, 38, 39, 40, 41, 42, 43, 44, 45, 47, 48, 49, 51, 52, 53]), ([34], [20, 21, 22, 23, 24, 25, 26, 27, 28, 29, 30, 31, 32, 33, 36, 37, 39, 40, 41, 42, 43, 44, 47, 48, 49, 51, 52, 53]), ([35], [20, 21, 22, 23, 24, 25, 26, 27, 28, 29, 30, 31, 32, 33, 36, 37, 39, 40, 41, 42, 43, 44, 47, 48, 49, 51, 52, 53]), ([36], [20, 21, 22, 23, 24, 25, 26, 27, 28, 29, 30, 31, 32, 33, 34, 35, 39, 40, 41, 42, 43, 44, 47, 48, 49, 51, 52, 53]), ([37], [20, 21, 22, 23, 24, 25, 26, 27, 28, 29, 30, 31, 32, 33, 34, 35, 39, 40, 41, 42, 43, 44, 47, 48, 49, 51, 52, 53]), ([38], [20, 21, 22, 23, 24, 25, 26, 27, 28, 29, 30, 31, 32, 33, 39, 40, 41, 42, 43, 44, 47, 48, 49, 51, 52, 53]), ([39], [20, 21, 22, 23, 24, 25, 26, 27, 28, 29, 30, 31, 32, 33, 34, 35, 36, 37, 38, 42, 43, 47, 48, 49, 51, 52, 53]), ([40], [20, 21, 22, 23, 24, 25, 26, 27, 28, 29, 30, 31, 32, 33, 34, 35, 36, 37, 38, 42, 43, 47, 48, 49, 51, 52, 53]), ([41], [20, 21, 22, 23, 24, 25, 26, 27, 28, 29, 30, 31, 32, 33, 34, 35, 36, 37, 38, 42, 43, 47, 48, 49, 51, 52, 53]), ([42], [20, 21, 22, 23, 24, 25, 26, 27, 28, 29, 30, 31, 32, 33, 34, 35, 36, 37, 38, 39, 40, 41, 47, 48, 49, 51, 52, 53]), ([43], [20, 21, 22, 23, 24, 25, 26, 27, 28, 29, 30, 31, 32, 33, 34, 35, 36, 37, 38, 39, 40, 41, 47, 48, 49, 51, 52, 53]), ([44], [20, 21, 22, 23, 24, 25, 26, 27, 28, 29, 30, 31, 32, 33, 34, 35, 36, 37, 38, 47, 48, 49, 51, 52, 53]), ([45], [20, 21, 22, 23, 24, 25, 26, 27, 28, 29, 30, 31, 32, 33, 47, 48, 49, 51, 52, 53]), ([46], [47, 48, 49, 51, 52, 53]), ([47], [20, 21, 22, 23, 24, 25, 26, 27, 28, 29, 30, 31, 32, 33, 34, 35, 36, 37, 38, 39, 40, 41, 42, 43, 44, 45, 46, 51, 52, 53]), ([48], [20, 21, 22, 23, 24, 25, 26, 27, 28, 29, 30, 31, 32, 33, 34, 35, 36, 37, 38, 39, 40, 41, 42, 43, 44, 45, 46, 51, 52, 53]), ([49], [20, 21, 22, 23, 24, 25, 26, 27, 28, 29, 30, 31, 32, 33, 34, 35, 36, 37, 38, 39, 40, 41, 42, 43, 44, 45, 46, 51, 52, 53]), ([50], [51, 52, 53]), ([51], [20, 21, 22, 23, 24, 25, 26, 27, 28, 29, 30, 31, 32, 33, 34, 35, 36, 37, 38, 39, 40, 41, 42, 43, 44, 45, 46, 47, 48, 49, 50]), ([52], [20, 21, 22, 23, 24, 25, 26, 27, 28, 29, 30, 31, 32, 33, 34, 35, 36, 37, 38, 39, 40, 41, 42, 43, 44, 45, 46, 47, 48, 49, 50]), ([53], [20, 21, 22, 23, 24, 25, 26, 27, 28, 29, 30, 31, 32, 33, 34, 35, 36, 37, 38, 39, 40, 41, 42, 43, 44, 45, 46, 47, 48, 49, 50]), ([54], []), ([10], [])] (by kernel_rfl) ?_
    refine CertK.vd (Y.ia0 (i := 7) ty28 ty27 (up0 rfl rfl rfl) rfl rfl rfl (by first | (with_reducible assumption) | omega | (simp only [lens, rwords_l, *]; first | done | omega) | decide | (split <;> simp only [lens, rwords_l, *]) | (with_reducible exact Lt.mono (by assumption) (by decide)) | (simp only [Cs.len]; done) | rfl)) rfl rfl ?_
    refine CertK.vd (Y.ldI ty27 rfl (up0 rfl rfl rfl) rfl rfl rfl (by first | (with_reducible assumption) | omega | (simp only [lens, rwords_l, *]; first | done | omega) | decide | (split <;> simp only [lens, rwords_l, *]) | (with_reducible exact Lt.mono (by assumption) (by decide)) | (simp only [Cs.len]; done) | rfl)) rfl rfl ?_
    refine CertK.vd (Y.ia0 (i := 4) ty28 ty27 (up0 rfl rfl rfl) rfl rfl rfl (by first | (with_reducible assumption) | omega | (simp only [lens, rwords_l, *]; first | done | omega) | decide | (split <;> simp only [lens, rwords_l, *]) | (with_reducible exact Lt.mono (by assumption) (by decide)) | (simp only [Cs.len]; done) | rfl)) rfl rfl ?_
    refine CertK.vd (Y.ldI ty27 rfl (up0 rfl rfl rfl) rfl rfl rfl (by first | (with_reducible assumption) | omega | (simp only [lens, rwords_l, *]; first | done | omega) | decide | (split <;> simp only [lens, rwords_l, *]) | (with_reducible exact Lt.mono (by assumption) (by decide)) | (simp only [Cs.len]; done) | rfl)) rfl rfl ?_
    refine CertK.vd (Y.callV (w_rturn _ _ (by first | (with_reducible assumption) | omega | (simp only [lens, rwords_l, *]; first | done | omega) | decide | (split <;> simp only [lens, rwords_l, *]) | (with_reducible exact Lt.mono (by assumption) (by decide)) | (simp only [Cs.len]; done) | rfl)) fnok52 (up0 rfl rfl rfl) rfl rfl (.cons _ _ _ _ rfl (.cons _ _ (.one (.n .i64 14)) _ rfl .nil)) (.cons _ _ _ _ (.same _) (.cons _ _ _ _ (.same _) .nil)) rfl rfl) rfl rfl ?_
    refine CertK.vd (Y.ia0 (i := 4) ty28 ty27 (up0 rfl rfl rfl) rfl rfl rfl (by first | (with_reducible assumption) | omega | (simp only [lens, rwords_l, *]; first | done | omega) | decide | (split <;> simp only [lens, rwords_l, *]) | (with_reducible exact Lt.mono (by assumption) (by decide)) | (simp only [Cs.len]; done) | rfl)) rfl rfl ?_
    refine CertK.vd (Y.ldI ty27 rfl (up0 rfl rfl rfl) rfl rfl rfl (by first | (with_reducible assumption) | omega | (simp only [lens, rwords_l, *]; first | done | omega) | decide | (split <;> simp only [lens, rwords_l, *]) | (with_reducible exact Lt.mono (by assumption) (by decide)) | (simp only [Cs.len]; done) | rfl)) rfl rfl ?_
    refine CertK.vd (Y.callV (w_rturn _ _ (by first | (with_reducible assumption) | omega | (simp only [lens, rwords_l, *]; first | done | omega) | decide | (split <;> simp only [lens, rwords_l, *]) | (with_reducible exact Lt.mono (by assumption) (by decide)) | (simp only [Cs.len]; done) | rfl)) fnok52 (up0 rfl rfl rfl) rfl rfl (.cons _ _ _ _ rfl (.cons _ _ (.one (.n .i64 18)) _ rfl .nil)) (.cons _ _ _ _ (.same _) (.cons _ _ _ _ (.same _) .nil)) rfl rfl) rfl rfl ?_
    refine CertK.vd (Y.xor u64s u64m (up0 rfl rfl rfl) rfl rfl rfl) rfl rfl ?_
    refine CertK.vd (Y.ia0 (i := 4) ty28 ty27 (up0 rfl rfl rfl) rfl rfl rfl (by first | (with_reducible assumption) | omega | (simp only [lens, rwords_l, *]; first | done | omega) | decide | (split <;> simp only [lens, rwords_l, *]) | (with_reducible exact Lt.mono (by assumption) (by decide)) | (simp only [Cs.len]; done) | rfl)) rfl rfl ?_
    refine CertK.vd (Y.ldI ty27 rfl (up0 rfl rfl rfl) rfl rfl rfl (by first | (with_reducible assumption) | omega | (simp only [lens, rwords_l, *]; first | done | omega) | decide | (split <;> simp only [lens, rwords_l, *]) | (with_reducible exact Lt.mono (by assumption) (by decide)) | (simp only [Cs.len]; done) | rfl)) rfl rfl ?_
    refine CertK.vd (Y.callV (w_rturn _ _ (by first | (with_reducible assumption) | omega | (simp only [lens, rwords_l, *]; first | done | omega) | decide | (split <;> simp only [lens, rwords_l, *]) | (with_reducible exact Lt.mono (by assumption) (by decide)) | (simp only [Cs.len]; done) | rfl)) fnok52 (up0 rfl rfl rfl) rfl rfl (.cons _ _ _ _ rfl (.cons _ _ (.one (.n .i64 41)) _ rfl .nil)) (.cons _ _ _ _ (.same _) (.cons _ _ _ _ (.same _) .nil)) rfl rfl) rfl rfl ?_
    refine CertK.vd (Y.xor u64s u64m (up0 rfl rfl rfl) rfl rfl rfl) rfl rfl ?_
    refine CertK.vd (Y.add u64s u64m (up0 rfl rfl rfl) rfl rfl rfl) rfl rfl ?_
    refine CertK.vd (Y.ia0 (i := 4) ty28 ty27 (up0 rfl rfl rfl) rfl rfl rfl (by first | (with_reducible assumption) | omega | (simp only [lens, rwords_l, *]; first | done | omega) | decide | (split <;> simp only [lens, rwords_l, *]) | (with_reducible exact Lt.mono (by assumption) (by decide)) | (simp only [Cs.len]; done) | rfl)) rfl rfl ?_
    refine CertK.vd (Y.ldI ty27 rfl (up0 rfl rfl rfl) rfl rfl rfl (by first | (with_reducible assumption) | omega | (simp only [lens, rwords_l, *]; first | done | omega) | decide | (split <;> simp only [lens, rwords_l, *]) | (with_reducible exact Lt.mono (by assumption) (by decide)) | (simp only [Cs.len]; done) | rfl)) rfl rfl ?_
    refine CertK.vd (Y.ia0 (i := 5) ty28 ty27 (up0 rfl rfl rfl) rfl rfl rfl (by first | (with_reducible assumption) | omega | (simp only [lens, rwords_l, *]; first | done | omega) | decide | (split <;> simp only [lens, rwords_l, *]) | (with_reducible exact Lt.mono (by assumption) (by decide)) | (simp only [Cs.len]; done) | rfl)) rfl rfl ?_
    refine CertK.vd (Y.ldI ty27 rfl (up0 rfl rfl rfl) rfl rfl rfl (by first | (with_reducible assumption) | omega | (simp only [lens, rwords_l, *]; first | done | omega) | decide | (split <;> simp only [lens, rwords_l, *]) | (with_reducible exact Lt.mono (by assumption) (by decide)) | (simp only [Cs.len]; done) | rfl)) rfl rfl ?_
    refine CertK.vd (Y.and u64s u64m (up0 rfl rfl rfl) rfl rfl rfl) rfl rfl ?_
    refine CertK.vd (Y.ia0 (i := 4) ty28 ty27 (up0 rfl rfl rfl) rfl rfl rfl (by first | (with_reducible assumption) | omega | (simp only [lens, rwords_l, *]; first | done | omega) | decide | (split <;> simp only [lens, rwords_l, *]) | (with_reducible exact Lt.mono (by assumption) (by decide)) | (simp only [Cs.len]; done) | rfl)) rfl rfl ?_
    refine CertK.vd (Y.ldI ty27 rfl (up0 rfl rfl rfl) rfl rfl rfl (by first | (with_reducible assumption) | omega | (simp only [lens, rwords_l, *]; first | done | omega) | decide | (split <;> simp only [lens, rwords_l, *]) | (with_reducible exact Lt.mono (by assumption) (by decide)) | (simp only [Cs.len]; done) | rfl)) rfl rfl ?_
    refine CertK.vd (Y.compl u64s u64m (up0 rfl rfl rfl) rfl rfl) rfl rfl ?_
    refine CertK.vd (Y.ia0 (i := 6) ty28 ty27 (up0 rfl rfl rfl) rfl rfl rfl (by first | (with_reducible assumption) | omega | (simp only [lens, rwords_l, *]; first | done | omega) | decide | (split <;> simp only [lens, rwords_l, *]) | (with_reducible exact Lt.mono (by assumption) (by decide)) | (simp only [Cs.len]; done) | rfl)) rfl rfl ?_
    refine CertK.vd (Y.ldI ty27 rfl (up0 rfl rfl rfl) rfl rfl rfl (by first | (with_reducible assumption) | omega | (simp only [lens, rwords_l, *]; first | done | omega) | decide | (split <;> simp only [lens, rwords_l, *]) | (with_reducible exact Lt.mono (by assumption) (by decide)) | (simp only [Cs.len]; done) | rfl)) rfl rfl ?_
    refine CertK.vd (Y.and u64s u64m (up0 rfl rfl rfl) rfl rfl rfl) rfl rfl ?_
    refine CertK.vd (Y.xor u64s u64m (up0 rfl rfl rfl) rfl rfl rfl) rfl rfl ?_
    refine CertK.vd (Y.add u64s u64m (up0 rfl rfl rfl) rfl rfl rfl) rfl rfl ?_
    refine CertK.vd (Y.move (up0 rfl rfl rfl) rfl rfl) rfl rfl ?_
    refine CertK.vd (Y.ia0 ty35 ty27 (up0 rfl rfl rfl) rfl rfl rfl (by first | (with_reducible assumption) | omega | (simp only [lens, rwords_l, *]; first | done | omega) | decide | (split <;> simp only [lens, rwords_l, *]) | (with_reducible exact Lt.mono (by assumption) (by decide)) | (simp only [Cs.len]; done) | rfl)) rfl rfl ?_
    refine CertK.vd (Y.ldI ty27 rfl (up0 rfl rfl rfl) rfl rfl rfl (by first | (with_reducible assumption) | omega | (simp only [lens, rwords_l, *]; first | done | omega) | decide | (split <;> simp only [lens, rwords_l, *]) | (with_reducible exact Lt.mono (by assumption) (by decide)) | (simp only [Cs.len]; done) | rfl)) rfl rfl ?_
    refine CertK.vd (Y.add u64s u64m (up0 rfl rfl rfl) rfl rfl rfl) rfl rfl ?_
    refine CertK.vd (Y.move (up0 rfl rfl rfl) rfl rfl) rfl rfl ?_
    refine CertK.vd (Y.ia0 ty35 ty27 (up0 rfl rfl rfl) rfl rfl rfl (by first | (with_reducible assumption) | omega | (simp only [lens, rwords_l, *]; first | done | omega) | decide | (split <;> simp only [lens, rwords_l, *]) | (with_reducible exact Lt.mono (by assumption) (by decide)) | (simp only [Cs.len]; done) | rfl)) rfl rfl ?_
    refine CertK.vd (Y.ldI ty27 rfl (up0 rfl rfl rfl) rfl rfl rfl (by first | (with_reducible assumption) | omega | (simp only [lens, rwords_l, *]; first | done | omega) | decide | (split <;> simp only [lens, rwords_l, *]) | (with_reducible exact Lt.mono (by assumption) (by decide)) | (simp only [Cs.len]; done) | rfl)) rfl rfl ?_
    refine CertK.v (Y.add u64s u64m (up0 rfl rfl rfl) rfl rfl rfl) rfl ?_
    refine CertK.v (Y.assign (up0 rfl rfl rfl) rfl rfl) rfl ?_
    refine CertK.nil ?_
    refine Holds.seq ?_
    refine Holds.dr mx [([55], [58, 59, 62, 63, 66, 67, 68, 69, 70, 71, 72, 73, 74, 75, 76, 77, 78, 79, 80, 81, 82]), ([56], [58, 59, 62, 63, 66, 67, 68, 69, 70, 71, 72, 73, 74, 75, 76, 77, 78, 79, 80, 81, 82]), ([57], [58, 59, 62, 63, 66, 67, 68, 69, 70, 71, 72, 73, 74, 75, 76, 77, 78, 79, 80, 81, 82]), ([58], [55, 56, 57, 62, 63, 66, 67, 68, 69, 70, 71, 72, 73, 74, 75, 76, 77, 78, 79, 80, 81, 82]), ([59], [55, 56, 57, 62, 63, 66, 67, 68, 69, 70, 71, 72, 73, 74, 75, 76, 77, 78, 79, 80, 81, 82]), ([60], [62, 63, 66, 67, 68, 69, 70, 71, 72, 73, 74, 75, 76, 77, 78, 79, 80, 81, 82]), ([61], [62, 63, 64, 66, 67, 68, 69, 70, 71, 72, 73, 74, 75, 76, 77, 78, 79, 80, 81, 82]), ([62], [55, 56, 57, 58, 59, 60, 61, 66, 67, 68, 69, 70, 71, 72, 73, 74, 75, 76, 77, 78, 79, 80, 81, 82]), ([63], [55, 56, 57, 58, 59, 60, 61, 66, 67, 68, 69, 70, 71, 72, 73, 74, 75, 76, 77, 78, 79, 80, 81, 82]), ([64], [61, 66, 67, 68, 69, 70, 71, 72, 73, 74, 75, 76, 77, 78, 79, 80, 81, 82]), ([65], [66, 67, 68, 69, 70, 71, 72, 73, 74, 75, 76, 77, 78, 79, 80, 81, 82]), ([66], [55, 56, 57, 58, 59, 60, 61, 62, 63, 64, 65, 68, 69, 71, 72, 73, 74, 75, 77, 78, 79, 80, 81]), ([67], [55, 56, 57, 58, 59, 60, 61, 62, 63, 64, 65, 68, 69, 71, 72, 73, 74, 75, 77, 78, 79, 80, 81]), ([68], [55, 56, 57, 58, 59, 60, 61, 62, 63, 64, 65, 66, 67, 71, 72, 73, 74, 75, 77, 78, 79, 80, 81]), ([69], [55, 56, 57, 58, 59, 60, 61, 62, 63, 64, 65, 66, 67, 71, 72, 73, 74, 75, 77, 78, 79, 80, 81]), ([70], [55, 56, 57, 58, 59, 60, 61, 62, 63, 64, 65, 71, 72, 73, 74, 75, 77, 78, 79, 80, 81]), ([71], [55, 56, 57, 58, 59, 60, 61, 62, 63, 64, 65, 66, 67, 68, 69, 70, 73, 74, 77, 78, 79, 80, 81]), ([72], [55, 56, 57, 58, 59, 60, 61, 62, 63, 64, 65, 66, 67, 68, 69, 70, 73, 74, 77, 78, 79, 80, 81]), ([73], [55, 56, 57, 58, 59, 60, 61, 62, 63, 64, 65, 66, 67, 68, 69, 70, 71, 72, 77, 78, 79, 80, 81]), ([74], [55, 56, 57, 58, 59, 60, 61, 62, 63, 64, 65, 66, 67, 68, 69, 70, 71, 72, 77, 78, 79, 80, 81]), ([75], [55, 56, 57, 58, 59, 60, 61, 62, 63, 64, 65, 66, 67, 68, 69, 70, 77, 78, 79, 80, 81]), ([76], [55, 56, 57, 58, 59, 60, 61, 62, 63, 64, 65, 77, 78, 79, 80, 81]), ([77], [55, 56, 57, 58, 59, 60, 61, 62, 63, 64, 65, 66, 67, 68, 69, 70, 71, 72, 73, 74, 75, 76, 79, 80]), ([78], [55, 56, 57, 58, 59, 60, 61, 62, 63, 64, 65, 66, 67, 68, 69, 70, 71, 72, 73, 74, 75, 76, 79, 80]), ([79], [55, 56, 57, 58, 59, 60, 61, 62, 63, 64, 65, 66, 67, 68, 69, 70, 71, 72, 73, 74, 75, 76, 77, 78]), ([80], [55, 56, 57, 58, 59, 60, 61, 62, 63, 64, 65, 66, 67, 68, 69, 70, 71, 72, 73, 74, 75, 76, 77, 78]), ([81], [55, 56, 57, 58, 59, 60, 61, 62, 63, 64, 65, 66, 67, 68, 69, 70, 71, 72, 73, 74, 75, 76]), ([82], [55, 56, 57, 58, 59, 60, 61, 62, 63, 64, 65]), ([83], []), ([11], [])] (by kernel_rfl) ?_
    refine CertK.vd (Y.ia0 (i := 0) ty28 ty27 (up0 rfl rfl rfl) rfl rfl rfl (by first | (with_reducible assumption) | omega | (simp only [lens, rwords_l, *]; first | done | omega) | decide | (split <;> simp only [lens, rwords_l, *]) | (with_reducible exact Lt.mono (by assumption) (by decide)) | (simp only [Cs.len]; done) | rfl)) rfl rfl ?_
    refine CertK.vd (Y.ldI ty27 rfl (up0 rfl rfl rfl) rfl rfl rfl (by first | (with_reducible assumption) | omega | (simp only [lens, rwords_l, *]; first | done | omega) | decide | (split <;> simp only [lens, rwords_l, *]) | (with_reducible exact Lt.mono (by assumption) (by decide)) | (simp only [Cs.len]; done) | rfl)) rfl rfl ?_
    refine CertK.vd (Y.callV (w_rturn _ _ (by first | (with_reducible assumption) | omega | (simp only [lens, rwords_l, *]; first | done | omega) | decide | (split <;> simp only [lens, rwords_l, *]) | (with_reducible exact Lt.mono (by assumption) (by decide)) | (simp only [Cs.len]; done) | rfl)) fnok52 (up0 rfl rfl rfl) rfl rfl (.cons _ _ _ _ rfl (.cons _ _ (.one (.n .i64 28)) _ rfl .nil)) (.cons _ _ _ _ (.same _) (.cons _ _ _ _ (.same _) .nil)) rfl rfl) rfl rfl ?_
    refine CertK.vd (Y.ia0 (i := 0) ty28 ty27 (up0 rfl rfl rfl) rfl rfl rfl (by first | (with_reducible assumption) | omega | (simp only [lens, rwords_l, *]; first | done | omega) | decide | (split <;> simp only [lens, rwords_l, *]) | (with_reducible exact Lt.mono (by assumption) (by decide)) | (simp only [Cs.len]; done) | rfl)) rfl rfl ?_
    refine CertK.vd (Y.ldI ty27 rfl (up0 rfl rfl rfl) rfl rfl rfl (by first | (with_reducible assumption) | omega | (simp only [lens, rwords_l, *]; first | done | omega) | decide | (split <;> simp only [lens, rwords_l, *]) | (with_reducible exact Lt.mono (by assumption) (by decide)) | (simp only [Cs.len]; done) | rfl)) rfl rfl ?_
    refine CertK.vd (Y.callV (w_rturn _ _ (by first | (with_reducible assumption) | omega | (simp only [lens, rwords_l, *]; first | done | omega) | decide | (split <;> simp only [lens, rwords_l, *]) | (with_reducible exact Lt.mono (by assumption) (by decide)) | (simp only [Cs.len]; done) | rfl)) fnok52 (up0 rfl rfl rfl) rfl rfl (.cons _ _ _ _ rfl (.cons _ _ (.one (.n .i64 34)) _ rfl .nil)) (.cons _ _ _ _ (.same _) (.cons _ _ _ _ (.same _) .nil)) rfl rfl) rfl rfl ?_
    refine CertK.vd (Y.xor u64s u64m (up0 rfl rfl rfl) rfl rfl rfl) rfl rfl ?_
    refine CertK.vd (Y.ia0 (i := 0) ty28 ty27 (up0 rfl rfl rfl) rfl rfl rfl (by first | (with_reducible assumption) | omega | (simp only [lens, rwords_l, *]; first | done | omega) | decide | (split <;> simp only [lens, rwords_l, *]) | (with_reducible exact Lt.mono (by assumption) (by decide)) | (simp only [Cs.len]; done) | rfl)) rfl rfl ?_
    refine CertK.vd (Y.ldI ty27 rfl (up0 rfl rfl rfl) rfl rfl rfl (by first | (with_reducible assumption) | omega | (simp only [lens, rwords_l, *]; first | done | omega) | decide | (split <;> simp only [lens, rwords_l, *]) | (with_reducible exact Lt.mono (by assumption) (by decide)) | (simp only [Cs.len]; done) | rfl)) rfl rfl ?_
    refine CertK.vd (Y.callV (w_rturn _ _ (by first | (with_reducible assumption) | omega | (simp only [lens, rwords_l, *]; first | done | omega) | decide | (split <;> simp only [lens, rwords_l, *]) | (with_reducible exact Lt.mono (by assumption) (by decide)) | (simp only [Cs.len]; done) | rfl)) fnok52 (up0 rfl rfl rfl) rfl rfl (.cons _ _ _ _ rfl (.cons _ _ (.one (.n .i64 39)) _ rfl .nil)) (.cons _ _ _ _ (.same _) (.cons _ _ _ _ (.same _) .nil)) rfl rfl) rfl rfl ?_
    refine CertK.vd (Y.xor u64s u64m (up0 rfl rfl rfl) rfl rfl rfl) rfl rfl ?_
    refine CertK.vd (Y.ia0 (i := 0) ty28 ty27 (up0 rfl rfl rfl) rfl rfl rfl (by first | (with_reducible assumption) | omega | (simp only [lens, rwords_l, *]; first | done | omega) | decide | (split <;> simp only [lens, rwords_l, *]) | (with_reducible exact Lt.mono (by assumption) (by decide)) | (simp only [Cs.len]; done) | rfl)) rfl rfl ?_
    refine CertK.vd (Y.ldI ty27 rfl (up0 rfl rfl rfl) rfl rfl rfl (by first | (with_reducible assumption) | omega | (simp only [lens, rwords_l, *]; first | done | omega) | decide | (split <;> simp only [lens, rwords_l, *]) | (with_reducible exact Lt.mono (by assumption) (by decide)) | (simp only [Cs.len]; done) | rfl)) rfl rfl ?_
    refine CertK.vd (Y.ia0 (i := 1) ty28 ty27 (up0 rfl rfl rfl) rfl rfl rfl (by first | (with_reducible assumption) | omega | (simp only [lens, rwords_l, *]; first | done | omega) | decide | (split <;> simp only [lens, rwords_l, *]) | (with_reducible exact Lt.mono (by assumption) (by decide)) | (simp only [Cs.len]; done) | rfl)) rfl rfl ?_
    refine CertK.vd (Y.ldI ty27 rfl (up0 rfl rfl rfl) rfl rfl rfl (by first | (with_reducible assumption) | omega | (simp only [lens, rwords_l, *]; first | done | omega) | decide | (split <;> simp only [lens, rwords_l, *]) | (with_reducible exact Lt.mono (by assumption) (by decide)) | (simp only [Cs.len]; done) | rfl)) rfl rfl ?_
    refine CertK.vd (Y.and u64s u64m (up0 rfl rfl rfl) rfl rfl rfl) rfl rfl ?_
    refine CertK.vd (Y.ia0 (i := 0) ty28 ty27 (up0 rfl rfl rfl) rfl rfl rfl (by first | (with_reducible assumption) | omega | (simp only [lens, rwords_l, *]; first | done | omega) | decide | (split <;> simp only [lens, rwords_l, *]) | (with_reducible exact Lt.mono (by assumption) (by decide)) | (simp only [Cs.len]; done) | rfl)) rfl rfl ?_
    refine CertK.vd (Y.ldI ty27 rfl (up0 rfl rfl rfl) rfl rfl rfl (by first | (with_reducible assumption) | omega | (simp only [lens, rwords_l, *]; first | done | omega) | decide | (split <;> simp only [lens, rwords_l, *]) | (with_reducible exact Lt.mono (by assumption) (by decide)) | (simp only [Cs.len]; done) | rfl)) rfl rfl ?_
    refine CertK.vd (Y.ia0 (i := 2) ty28 ty27 (up0 rfl rfl rfl) rfl rfl rfl (by first | (with_reducible assumption) | omega | (simp only [lens, rwords_l, *]; first | done | omega) | decide | (split <;> simp only [lens, rwords_l, *]) | (with_reducible exact Lt.mono (by assumption) (by decide)) | (simp only [Cs.len]; done) | rfl)) rfl rfl ?_
    refine CertK.vd (Y.ldI ty27 rfl (up0 rfl rfl rfl) rfl rfl rfl (by first | (with_reducible assumption) | omega | (simp only [lens, rwords_l, *]; first | done | omega) | decide | (split <;> simp only [lens, rwords_l, *]) | (with_reducible exact Lt.mono (by assumption) (by decide)) | (simp only [Cs.len]; done) | rfl)) rfl rfl ?_
    refine CertK.vd (Y.and u64s u64m (up0 rfl rfl rfl) rfl rfl rfl) rfl rfl ?_
    refine CertK.vd (Y.xor u64s u64m (up0 rfl rfl rfl) rfl rfl rfl) rfl rfl ?_
    refine CertK.vd (Y.ia0 (i := 1) ty28 ty27 (up0 rfl rfl rfl) rfl rfl rfl (by first | (with_reducible assumption) | omega | (simp only [lens, rwords_l, *]; first | done | omega) | decide | (split <;> simp only [lens, rwords_l, *]) | (with_reducible exact Lt.mono (by assumption) (by decide)) | (simp only [Cs.len]; done) | rfl)) rfl rfl ?_
    refine CertK.vd (Y.ldI ty27 rfl (up0 rfl rfl rfl) rfl rfl rfl (by first | (with_reducible assumption) | omega | (simp only [lens, rwords_l, *]; first | done | omega) | decide | (split <;> simp only [lens, rwords_l, *]) | (with_reducible exact Lt.mono (by assumption) (by decide)) | (simp only [Cs.len]; done) | rfl)) rfl rfl ?_
    refine CertK.vd (Y.ia0 (i := 2) ty28 ty27 (up0 rfl rfl rfl) rfl rfl rfl (by first | (with_reducible assumption) | omega | (simp only [lens, rwords_l, *]; first | done | omega) | decide | (split <;> simp only [lens, rwords_l, *]) | (with_reducible exact Lt.mono (by assumption) (by decide)) | (simp only [Cs.len]; done) | rfl)) rfl rfl ?_
    refine CertK.vd (Y.ldI ty27 rfl (up0 rfl rfl rfl) rfl rfl rfl (by first | (with_reducible assumption) | omega | (simp only [lens, rwords_l, *]; first | done | omega) | decide | (split <;> simp only [lens, rwords_l, *]) | (with_reducible exact Lt.mono (by assumption) (by decide)) | (simp only [Cs.len]; done) | rfl)) rfl rfl ?_
    refine CertK.vd (Y.and u64s u64m (up0 rfl rfl rfl) rfl rfl rfl) rfl rfl ?_
    refine CertK.vd (Y.xor u64s u64m (up0 rfl rfl rfl) rfl rfl rfl) rfl rfl ?_
    refine CertK.v (Y.add u64s u64m (up0 rfl rfl rfl) rfl rfl rfl) rfl ?_
    refine CertK.v (Y.assign (up0 rfl rfl rfl) rfl rfl) rfl ?_
    refine CertK.nil ?_
    refine Holds.reg ?_
    refine OpsFrom.v (Y.move (up0 rfl rfl rfl) rfl rfl) rfl ?_
    refine OpsFrom.v (Y.move (up0 rfl rfl rfl) rfl rfl) rfl ?_
    refine OpsFrom.v (Y.add u64s u64m (up0 rfl rfl rfl) rfl rfl rfl) rfl ?_
    refine OpsFrom.v (Y.ia0 (i := 0) ty28 ty27 (up0 rfl rfl rfl) rfl rfl rfl (by first | (with_reducible assumption) | omega | (simp only [lens, rwords_l, *]; first | done | omega) | decide | (split <;> simp only [lens, rwords_l, *]) | (with_reducible exact Lt.mono (by assumption) (by decide)) | (simp only [Cs.len]; done) | rfl)) rfl ?_
    refine OpsFrom.v (Y.ldI ty27 rfl (up0 rfl rfl rfl) rfl rfl rfl (by first | (with_reducible assumption) | omega | (simp only [lens, rwords_l, *]; first | done | omega) | decide | (split <;> simp only [lens, rwords_l, *]) | (with_reducible exact Lt.mono (by assumption) (by decide)) | (simp only [Cs.len]; done) | rfl)) rfl ?_
    refine OpsFrom.v (Y.ia0 (i := 1) ty28 ty27 (up0 rfl rfl rfl) rfl rfl rfl (by first | (with_reducible assumption) | omega | (simp only [lens, rwords_l, *]; first | done | omega) | decide | (split <;> simp only [lens, rwords_l, *]) | (with_reducible exact Lt.mono (by assumption) (by decide)) | (simp only [Cs.len]; done) | rfl)) rfl ?_
    refine OpsFrom.v (Y.ldI ty27 rfl (up0 rfl rfl rfl) rfl rfl rfl (by first | (with_reducible assumption) | omega | (simp only [lens, rwords_l, *]; first | done | omega) | decide | (split <;> simp only [lens, rwords_l, *]) | (with_reducible exact Lt.mono (by assumption) (by decide)) | (simp only [Cs.len]; done) | rfl)) rfl ?_
    refine OpsFrom.v (Y.ia0 (i := 2) ty28 ty27 (up0 rfl rfl rfl) rfl rfl rfl (by first | (with_reducible assumption) | omega | (simp only [lens, rwords_l, *]; first | done | omega) | decide | (split <;> simp only [lens, rwords_l, *]) | (with_reducible exact Lt.mono (by assumption) (by decide)) | (simp only [Cs.len]; done) | rfl)) rfl ?_
    refine OpsFrom.v (Y.ldI ty27 rfl (up0 rfl rfl rfl) rfl rfl rfl (by first | (with_reducible assumption) | omega | (simp only [lens, rwords_l, *]; first | done | omega) | decide | (split <;> simp only [lens, rwords_l, *]) | (with_reducible exact Lt.mono (by assumption) (by decide)) | (simp only [Cs.len]; done) | rfl)) rfl ?_
    refine OpsFrom.v (Y.ia0 (i := 3) ty28 ty27 (up0 rfl rfl rfl) rfl rfl rfl (by first | (with_reducible assumption) | omega | (simp only [lens, rwords_l, *]; first | done | omega) | decide | (split <;> simp only [lens, rwords_l, *]) | (with_reducible exact Lt.mono (by assumption) (by decide)) | (simp only [Cs.len]; done) | rfl)) rfl ?_
    refine OpsFrom.v (Y.ldI ty27 rfl (up0 rfl rfl rfl) rfl rfl rfl (by first | (with_reducible assumption) | omega | (simp only [lens, rwords_l, *]; first | done | omega) | decide | (split <;> simp only [lens, rwords_l, *]) | (with_reducible exact Lt.mono (by assumption) (by decide)) | (simp only [Cs.len]; done) | rfl)) rfl ?_
    refine OpsFrom.v (Y.move (up0 rfl rfl rfl) rfl rfl) rfl ?_
    refine OpsFrom.v (Y.add u64s u64m (up0 rfl rfl rfl) rfl rfl rfl) rfl ?_
    refine OpsFrom.v (Y.ia0 (i := 4) ty28 ty27 (up0 rfl rfl rfl) rfl rfl rfl (by first | (with_reducible assumption) | omega | (simp only [lens, rwords_l, *]; first | done | omega) | decide | (split <;> simp only [lens, rwords_l, *]) | (with_reducible exact Lt.mono (by assumption) (by decide)) | (simp only [Cs.len]; done) | rfl)) rfl ?_
    refine OpsFrom.v (Y.ldI ty27 rfl (up0 rfl rfl rfl) rfl rfl rfl (by first | (with_reducible assumption) | omega | (simp only [lens, rwords_l, *]; first | done | omega) | decide | (split <;> simp only [lens, rwords_l, *]) | (with_reducible exact Lt.mono (by assumption) (by decide)) | (simp only [Cs.len]; done) | rfl)) rfl ?_
    refine OpsFrom.v (Y.ia0 (i := 5) ty28 ty27 (up0 rfl rfl rfl) rfl rfl rfl (by first | (with_reducible assumption) | omega | (simp only [lens, rwords_l, *]; first | done | omega) | decide | (split <;> simp only [lens, rwords_l, *]) | (with_reducible exact Lt.mono (by assumption) (by decide)) | (simp only [Cs.len]; done) | rfl)) rfl ?_
    refine OpsFrom.v (Y.ldI ty27 rfl (up0 rfl rfl rfl) rfl rfl rfl (by first | (with_reducible assumption) | omega | (simp only [lens, rwords_l, *]; first | done | omega) | decide | (split <;> simp only [lens, rwords_l, *]) | (with_reducible exact Lt.mono (by assumption) (by decide)) | (simp only [Cs.len]; done) | rfl)) rfl ?_
    refine OpsFrom.v (Y.ia0 (i := 6) ty28 ty27 (up0 rfl rfl rfl) rfl rfl rfl (by first | (with_reducible assumption) | omega | (simp only [lens, rwords_l, *]; first | done | omega) | decide | (split <;> simp only [lens, rwords_l, *]) | (with_reducible exact Lt.mono (by assumption) (by decide)) | (simp only [Cs.len]; done) | rfl)) rfl ?_
    refine OpsFrom.v (Y.ldI ty27 rfl (up0 rfl rfl rfl) rfl rfl rfl (by first | (with_reducible assumption) | omega | (simp only [lens, rwords_l, *]; first | done | omega) | decide | (split <;> simp only [lens, rwords_l, *]) | (with_reducible exact Lt.mono (by assumption) (by decide)) | (simp only [Cs.len]; done) | rfl)) rfl ?_
    refine OpsFrom.v (Y.buildA ty28 ty27 rfl (up0 rfl rfl rfl) rfl (.cons _ _ _ _ _ _ _ _ _ rfl rfl rfl rfl (Spl.n (by first | decide | (simp; done))) (.cons _ _ _ _ _ _ _ _ _ rfl rfl rfl rfl (Spl.n (by first | decide | (simp; done))) (.cons _ _ _ _ _ _ _ _ _ rfl rfl rfl rfl (Spl.n (by first | decide | (simp; done))) (.cons _ _ _ _ _ _ _ _ _ rfl rfl rfl rfl (Spl.n (by first | decide | (simp; done))) (.cons _ _ _ _ _ _ _ _ _ rfl rfl rfl rfl (Spl.n (by first | decide | (simp; done))) (.cons _ _ _ _ _ _ _ _ _ rfl rfl rfl rfl (Spl.n (by first | decide | (simp; done))) (.cons _ _ _ _ _ _ _ _ _ rfl rfl rfl rfl (Spl.n (by first | decide | (simp; done))) (.cons _ _ _ _ _ _ _ _ _ rfl rfl rfl rfl (Spl.n (by first | decide | (simp; done))) (.nil _)))))))))) rfl ?_
    refine OpsFrom.n (Y.stR ty28 (upN rfl rfl) rfl rfl rfl rfl rfl (by first | (with_reducible assumption) | omega | (simp only [lens, rwords_l, *]; first | done | omega) | decide | (split <;> simp only [lens, rwords_l, *]) | (with_reducible exact Lt.mono (by assumption) (by decide)) | (simp only [Cs.len]; done) | rfl) (by first | (with_reducible assumption) | omega | (simp only [lens, rwords_l, *]; first | done | omega) | decide | (split <;> simp only [lens, rwords_l, *]) | (with_reducible exact Lt.mono (by assumption) (by decide)) | (simp only [Cs.len]; done) | rfl) (by decide)) rfl rfl ?_
    refine OpsFrom.nil ?_
    refine Holds.reg ?_
    refine OpsFrom.v (Y.move (up0 rfl rfl rfl) rfl rfl) rfl ?_
    refine OpsFrom.v (Y.addI (b := 1) (up0 rfl rfl rfl) rfl rfl rfl (by first | (with_reducible assumption) | omega | (simp only [lens, rwords_l, *]; first | done | omega) | decide | (split <;> simp only [lens, rwords_l, *]) | (with_reducible exact Lt.mono (by assumption) (by decide)) | (simp only [Cs.len]; done) | rfl)) rfl ?_
    refine OpsFrom.v (Y.assign (up0 rfl rfl rfl) rfl rfl) rfl ?_
    refine OpsFrom.nil ?_
    exact Holds.again (i1_ + 1) (by omega) (by omega) [] ⟨⟨rfl, rfl, rfl, rfl, rfl, (nEq (by omega)), trivial⟩, ⟨rfl, rfl, rfl, rfl, (hEq (by rw [rblock_it1_s]; unfold rblock_s1; first | (dsimp only; done) | rfl)), trivial⟩, rfl, rfl⟩
  · obtain rfl : i1_ = 80 := by omega
    have hn1 := rblock_n l_h b k 80
    refine Holds.exit ?_
    refine Holds.seq ?_
    refine Holds.seq ?_
    refine Holds.reg ?_
    refine OpsFrom.v (Y.assign (v := (.one (.n .i64 0))) (up0 rfl rfl rfl) rfl rfl) rfl ?_
    refine OpsFrom.nil ?_
    refine Holds.block ?_
    refine Holds.loop (fun (i2_ : Nat) => ⟨[(3, .one (.p 3 0)), (6, .one (.p 6 0)), (8, .one (.p 8 0)), (12, .one (.n .i64 i2_))], [(3, .own (.ints .u64 (rblock_it2 h b k i2_))), (6, .own (.ints .u64 (List.replicate 8 0))), (8, .own (.ints .u64 (rblock_it1 h b k 80)))]⟩) (fun (i2_ : Nat) => i2_ ≤ 8) (fun (i2_ : Nat) => 8 - i2_) 0 (by first | (with_reducible assumption) | omega | (simp only [lens, rwords_l, rblock_it2_l, *]; first | done | omega) | decide | (split <;> simp only [lens, rwords_l, rblock_it2_l, *]) | (with_reducible exact Lt.mono (by assumption) (by decide)) | (simp only [Cs.len]; done) | rfl) [] ⟨⟨rfl, rfl, rfl, rfl, trivial⟩, ⟨(hEq (congrArg (fun (s : List Nat) => s) (rblock_it2_z h b k)).symm), rfl, rfl, trivial⟩, rfl, rfl⟩ ?_
    intro i2_ k2_
    refine Holds.seq ?_
    refine Holds.seq ?_
    refine Holds.reg ?_
    refine OpsFrom.v (Y.move (up0 rfl rfl rfl) rfl rfl) rfl ?_
    refine OpsFrom.v (Y.lss (b := 8) (up0 rfl rfl rfl) rfl rfl rfl) rfl ?_
    refine OpsFrom.nil ?_
    refine Holds.condD rfl (fun h105 => ?_) (fun h105 => ?_)
    · refine Holds.skip ?_
      refine Holds.seq ?_
      refine Holds.block ?_
      refine Holds.dr mx [([108], [109, 110, 111, 112, 113, 114, 115]), ([109], [108, 112, 113, 114]), ([110], [108, 112, 113, 114]), ([111], [108, 112, 113, 114]), ([112], [108, 109, 110, 111]), ([113], [108, 109, 110, 111]), ([114], [108, 109, 110, 111]), ([115], [108]), ([116], []), ([3], [])] (by kernel_rfl) ?_
      refine CertK.vd (Y.move (up0 rfl rfl rfl) rfl rfl) rfl rfl ?_
      refine CertK.vd (Y.move (up0 rfl rfl rfl) rfl rfl) rfl rfl ?_
      refine CertK.vd (Y.ia0 ty28 ty27 (up0 rfl rfl rfl) rfl rfl rfl (by first | (with_reducible assumption) | omega | (simp only [lens, rwords_l, rblock_it2_l, *]; first | done | omega) | decide | (split <;> simp only [lens, rwords_l, rblock_it2_l, *]) | (with_reducible exact Lt.mono (by assumption) (by decide)) | (simp only [Cs.len]; done) | rfl)) rfl rfl ?_
      refine CertK.vd (Y.ldI ty27 rfl (up0 rfl rfl rfl) rfl rfl rfl (by first | (with_reducible assumption) | omega | (simp only [lens, rwords_l, rblock_it2_l, *]; first | done | omega) | decide | (split <;> simp only [lens, rwords_l, rblock_it2_l, *]) | (with_reducible exact Lt.mono (by assumption) (by decide)) | (simp only [Cs.len]; done) | rfl)) rfl rfl ?_
      refine CertK.vd (Y.move (up0 rfl rfl rfl) rfl rfl) rfl rfl ?_
      refine CertK.vd (Y.ia0 ty28 ty27 (up0 rfl rfl rfl) rfl rfl rfl (by first | (with_reducible assumption) | omega | (simp only [lens, rwords_l, rblock_it2_l, *]; first | done | omega) | decide | (split <;> simp only [lens, rwords_l, rblock_it2_l, *]) | (with_reducible exact Lt.mono (by assumption) (by decide)) | (simp only [Cs.len]; done) | rfl)) rfl rfl ?_
      refine CertK.vd (Y.ldI ty27 rfl (up0 rfl rfl rfl) rfl rfl rfl (by first | (with_reducible assumption) | omega | (simp only [lens, rwords_l, rblock_it2_l, *]; first | done | omega) | decide | (split <;> simp only [lens, rwords_l, rblock_it2_l, *]) | (with_reducible exact Lt.mono (by assumption) (by decide)) | (simp only [Cs.len]; done) | rfl)) rfl rfl ?_
      refine CertK.vd (Y.add u64s u64m (up0 rfl rfl rfl) rfl rfl rfl) rfl rfl ?_
      refine CertK.v (Y.ia0 ty28 ty27 (up0 rfl rfl rfl) rfl rfl rfl (by first | (with_reducible assumption) | omega | (simp only [lens, rwords_l, rblock_it2_l, *]; first | done | omega) | decide | (split <;> simp only [lens, rwords_l, rblock_it2_l, *]) | (with_reducible exact Lt.mono (by assumption) (by decide)) | (simp only [Cs.len]; done) | rfl)) rfl ?_
      refine CertK.n (Y.stI ty27 (upN rfl rfl) rfl rfl rfl rfl (by first | (with_reducible assumption) | omega | (simp only [lens, rwords_l, rblock_it2_l, *]; first | done | omega) | decide | (split <;> simp only [lens, rwords_l, rblock_it2_l, *]) | (with_reducible exact Lt.mono (by assumption) (by decide)) | (simp only [Cs.len]; done) | rfl)) rfl rfl rfl rfl ?_
      refine CertK.nil ?_
      refine Holds.reg ?_
      refine OpsFrom.v (Y.move (up0 rfl rfl rfl) rfl rfl) rfl ?_
      refine OpsFrom.v (Y.addI (b := 1) (up0 rfl rfl rfl) rfl rfl rfl (by first | (with_reducible assumption) | omega | (simp only [lens, rwords_l, rblock_it2_l, *]; first | done | omega) | decide | (split <;> simp only [lens, rwords_l, rblock_it2_l, *]) | (with_reducible exact Lt.mono (by assumption) (by decide)) | (simp only [Cs.len]; done) | rfl)) rfl ?_
      refine OpsFrom.v (Y.assign (up0 rfl rfl rfl) rfl rfl) rfl ?_
      refine OpsFrom.nil ?_
      exact Holds.again (i2_ + 1) (by omega) (by omega) [] ⟨⟨rfl, rfl, rfl, (nEq (by omega)), trivial⟩, ⟨(hEq (by rw [rblock_it2_s]; unfold rblock_s2; first | (dsimp only; done) | rfl)), rfl, rfl, trivial⟩, rfl, rfl⟩
    · obtain rfl : i2_ = 8 := by omega
      refine Holds.exit ?_
      refine Holds.seq ?_
      refine Holds.reg ?_
      refine OpsFrom.v (Y.ldAll ty28 rfl (up0 rfl rfl rfl) rfl rfl rfl (by first | (with_reducible assumption) | omega | (simp only [lens, rwords_l, rblock_it2_l, *]; first | done | omega) | decide | (split <;> simp only [lens, rwords_l, rblock_it2_l, *]) | (with_reducible exact Lt.mono (by assumption) (by decide)) | (simp only [Cs.len]; done) | rfl) (by decide)) rfl ?_
      refine OpsFrom.n (Y.stR ty28 (upN rfl rfl) rfl rfl rfl rfl rfl (by first | (with_reducible assumption) | omega | (simp only [lens, rwords_l, rblock_it2_l, *]; first | done | omega) | decide | (split <;> simp only [lens, rwords_l, rblock_it2_l, *]) | (with_reducible exact Lt.mono (by assumption) (by decide)) | (simp only [Cs.len]; done) | rfl) (by first | (with_reducible assumption) | omega | (simp only [lens, rwords_l, rblock_it2_l, *]; first | done | omega) | decide | (split <;> simp only [lens, rwords_l, rblock_it2_l, *]) | (with_reducible exact Lt.mono (by assumption) (by decide)) | (simp only [Cs.len]; done) | rfl) (by decide)) rfl rfl ?_
      refine OpsFrom.nil ?_
      refine Holds.ret ?_
      exact Holds.ret1 (.inl rfl) rfl (.rowN rfl rfl ty28 rfl (by first | (with_reducible assumption) | omega | (simp only [lens, rwords_l, rblock_it2_l, *]; first | done | omega) | decide | (split <;> simp only [lens, rwords_l, rblock_it2_l, *]) | (with_reducible exact Lt.mono (by assumption) (by decide)) | (simp only [Cs.len]; done) | rfl) (by decide)) (.same _) rfl

theorem rblock_l (h b k : List Nat) : (rblock h b k).length = h.length := by unfold rblock; rw [rblock_it2_l]
attribute [irreducible] rblock

end Go.Proofs.Ytjgcmfedofmkpaa
