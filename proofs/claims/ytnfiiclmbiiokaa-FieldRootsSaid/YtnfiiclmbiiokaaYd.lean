/-
  Walks: FieldRoots.
-/
import Derived.Test.YtnfiiclmbiiokaaXb
import Derived.Test.YtnfiiclmbiiokaaPi
namespace Go.Proofs.Ytnfiiclmbiiokaa
open Go Go.Fx
set_option linter.unusedVariables false
set_option linter.unusedSimpArgs false
theorem w_roots (a : List Nat) (b : List Nat) (l_a : a.length = 32) (l_b : b.length = 32) : VC Try.prog 6 [.row (.ints .u8 a), .row (.ints .u8 b)] (.one (.b true)) := by
  refine VC.go Try.func6 rfl Try.ntmps6 rfl rfl fun O w => ?_
  refine Holds.ltRow 0 rfl u8s u8m (fun ba => ?_)
  refine Holds.ltRow 1 rfl u8s u8m (fun bb => ?_)
  refine Holds.seq ?_
  refine Holds.reg ?_
  refine OpsFrom.u (Y.boxR (d := 2) (up0 rfl rfl rfl) rfl rfl rfl) rfl rfl rfl ?_
  refine OpsFrom.u (Y.boxR (d := 3) (up0 rfl rfl rfl) rfl rfl rfl) rfl rfl rfl ?_
  refine OpsFrom.v (Y.assign (up0 rfl rfl rfl) rfl rfl) rfl ?_
  refine OpsFrom.nil ?_
  refine Holds.seq ?_
  refine Holds.reg ?_
  refine OpsFrom.v (Y.callV w_fawake fnok15 (up0 rfl rfl rfl) rfl rfl .nil .nil rfl rfl) rfl ?_
  refine OpsFrom.v (Y.assign (up0 rfl rfl rfl) rfl rfl) rfl ?_
  refine OpsFrom.nil ?_
  refine Holds.seq ?_
  refine Holds.reg ?_
  refine OpsFrom.v (Y.ldAll ty22 rfl (up0 rfl rfl rfl) rfl rfl rfl (by first | (with_reducible assumption) | omega | (simp only [lens, *]; first | done | omega) | decide | (split <;> simp only [lens, *]) | (with_reducible exact Lt.mono (by assumption) (by decide)) | (simp only [Cs.len]; done) | rfl) (by decide)) rfl ?_
  refine OpsFrom.v (Y.callV (w_load _ (by first | (with_reducible assumption) | omega | (simp only [lens, load_l, *]; first | done | omega) | decide | (split <;> simp only [lens, load_l, *]) | (with_reducible exact Lt.mono (by assumption) (by decide)) | (simp only [Cs.len]; done) | rfl)) fnok16 (up0 rfl rfl rfl) rfl rfl (.cons _ _ _ _ rfl .nil) (.cons _ _ _ _ (.same _) .nil) rfl rfl) rfl ?_
  refine OpsFrom.u (Y.alloc (d := 6) ty27 rfl rfl (up0 rfl rfl rfl) rfl) rfl rfl rfl ?_
  refine OpsFrom.n (Y.stR ty27 (upN rfl rfl) rfl rfl rfl rfl rfl (by first | (with_reducible assumption) | omega | (simp only [lens, load_l, *]; first | done | omega) | decide | (split <;> simp only [lens, load_l, *]) | (with_reducible exact Lt.mono (by assumption) (by decide)) | (simp only [Cs.len]; done) | rfl) (by first | (with_reducible assumption) | omega | (simp only [lens, load_l, *]; first | done | omega) | decide | (split <;> simp only [lens, load_l, *]) | (with_reducible exact Lt.mono (by assumption) (by decide)) | (simp only [Cs.len]; done) | rfl) (by decide)) rfl rfl ?_
  refine OpsFrom.nil ?_
  refine Holds.seq ?_
  refine Holds.reg ?_
  refine OpsFrom.v (Y.ldAll ty22 rfl (up0 rfl rfl rfl) rfl rfl rfl (by first | (with_reducible assumption) | omega | (simp only [lens, load_l, *]; first | done | omega) | decide | (split <;> simp only [lens, load_l, *]) | (with_reducible exact Lt.mono (by assumption) (by decide)) | (simp only [Cs.len]; done) | rfl) (by decide)) rfl ?_
  refine OpsFrom.v (Y.callV (w_load _ (by first | (with_reducible assumption) | omega | (simp only [lens, load_l, *]; first | done | omega) | decide | (split <;> simp only [lens, load_l, *]) | (with_reducible exact Lt.mono (by assumption) (by decide)) | (simp only [Cs.len]; done) | rfl)) fnok16 (up0 rfl rfl rfl) rfl rfl (.cons _ _ _ _ rfl .nil) (.cons _ _ _ _ (.same _) .nil) rfl rfl) rfl ?_
  refine OpsFrom.u (Y.alloc (d := 7) ty27 rfl rfl (up0 rfl rfl rfl) rfl) rfl rfl rfl ?_
  refine OpsFrom.n (Y.stR ty27 (upN rfl rfl) rfl rfl rfl rfl rfl (by first | (with_reducible assumption) | omega | (simp only [lens, load_l, *]; first | done | omega) | decide | (split <;> simp only [lens, load_l, *]) | (with_reducible exact Lt.mono (by assumption) (by decide)) | (simp only [Cs.len]; done) | rfl) (by first | (with_reducible assumption) | omega | (simp only [lens, load_l, *]; first | done | omega) | decide | (split <;> simp only [lens, load_l, *]) | (with_reducible exact Lt.mono (by assumption) (by decide)) | (simp only [Cs.len]; done) | rfl) (by decide)) rfl rfl ?_
  refine OpsFrom.nil ?_
  refine Holds.seq ?_
  refine Holds.reg ?_
  refine OpsFrom.v (Y.ldAll ty27 rfl (up0 rfl rfl rfl) rfl rfl rfl (by first | (with_reducible assumption) | omega | (simp only [lens, load_l, *]; first | done | omega) | decide | (split <;> simp only [lens, load_l, *]) | (with_reducible exact Lt.mono (by assumption) (by decide)) | (simp only [Cs.len]; done) | rfl) (by decide)) rfl ?_
  refine OpsFrom.v (Y.ldAll ty27 rfl (up0 rfl rfl rfl) rfl rfl rfl (by first | (with_reducible assumption) | omega | (simp only [lens, load_l, *]; first | done | omega) | decide | (split <;> simp only [lens, load_l, *]) | (with_reducible exact Lt.mono (by assumption) (by decide)) | (simp only [Cs.len]; done) | rfl) (by decide)) rfl ?_
  refine OpsFrom.v (Y.callV (w_ratio _ _ (by first | (with_reducible assumption) | omega | (simp only [lens, load_l, ratio_l, *]; first | done | omega) | decide | (split <;> simp only [lens, load_l, ratio_l, *]) | (with_reducible exact Lt.mono (by assumption) (by decide)) | (simp only [Cs.len]; done) | rfl) (by first | (with_reducible assumption) | omega | (simp only [lens, load_l, ratio_l, *]; first | done | omega) | decide | (split <;> simp only [lens, load_l, ratio_l, *]) | (with_reducible exact Lt.mono (by assumption) (by decide)) | (simp only [Cs.len]; done) | rfl)) fnok32 (up0 rfl rfl rfl) rfl rfl (.cons _ _ _ _ rfl (.cons _ _ _ _ rfl .nil)) (.cons _ _ _ _ (.same _) (.cons _ _ _ _ (.same _) .nil)) rfl rfl) rfl ?_
  refine OpsFrom.v (Y.move (up0 rfl rfl rfl) rfl rfl) rfl ?_
  refine OpsFrom.v (Y.ext0 (up0 rfl rfl rfl) rfl rfl) rfl ?_
  refine OpsFrom.v (Y.ext1 (up0 rfl rfl rfl) rfl rfl) rfl ?_
  refine OpsFrom.u (Y.alloc (d := 8) ty27 rfl rfl (up0 rfl rfl rfl) rfl) rfl rfl rfl ?_
  refine OpsFrom.n (Y.stR ty27 (upN rfl rfl) rfl rfl rfl rfl rfl (by first | (with_reducible assumption) | omega | (simp only [lens, load_l, ratio_l, *]; first | done | omega) | decide | (split <;> simp only [lens, load_l, ratio_l, *]) | (with_reducible exact Lt.mono (by assumption) (by decide)) | (simp only [Cs.len]; done) | rfl) (by first | (with_reducible assumption) | omega | (simp only [lens, load_l, ratio_l, *]; first | done | omega) | decide | (split <;> simp only [lens, load_l, ratio_l, *]) | (with_reducible exact Lt.mono (by assumption) (by decide)) | (simp only [Cs.len]; done) | rfl) (by decide)) rfl rfl ?_
  refine OpsFrom.v (Y.assign (up0 rfl rfl rfl) rfl rfl) rfl ?_
  refine OpsFrom.nil ?_
  refine Holds.seq ?_
  refine Holds.seq ?_
  rcases bool_fc ((ratio (load a) (load b)).2) with hI | hI
  · refine Holds.dr mx [([27], []), ([28], []), ([29], []), ([30], []), ([31], []), ([32], [33, 34, 36]), ([33], [32, 36]), ([34], [32, 36]), ([35], [36]), ([36], [32, 33, 34, 35]), ([37], []), ([38], []), ([39], []), ([40], []), ([41], []), ([42], []), ([43], []), ([44], []), ([45], [46]), ([46], [45]), ([47], []), ([48], []), ([49], []), ([50], [])] (by kernel_rfl) ?_
    refine CertK.v (Doing.isB (c := false) hI (Y.move (up0 rfl rfl rfl) rfl rfl)) rfl ?_
    refine CertK.v (Y.move (up0 rfl rfl rfl) rfl rfl) rfl ?_
    refine CertK.v (Doing.skip _ _ _ _ rfl rfl rfl rfl (dlt rfl (Nat.le_of_ble_eq_true rfl))) rfl ?_
    refine CertK.v (Doing.skip _ _ _ _ rfl rfl rfl rfl (dlt rfl (Nat.le_of_ble_eq_true rfl))) rfl ?_
    refine CertK.v (Doing.skip _ _ _ _ rfl rfl rfl rfl (dlt rfl (Nat.le_of_ble_eq_true rfl))) rfl ?_
    refine CertK.vd (Doing.skipU _ _ _ _ rfl rfl rfl rfl (dlt rfl (Nat.le_of_ble_eq_true rfl))) rfl rfl ?_
    refine CertK.vd (Doing.skipU _ _ _ _ rfl rfl rfl rfl (dlt rfl (Nat.le_of_ble_eq_true rfl))) rfl rfl ?_
    refine CertK.vd (Doing.skipU _ _ _ _ rfl rfl rfl rfl (dlt rfl (Nat.le_of_ble_eq_true rfl))) rfl rfl ?_
    refine CertK.vd (Doing.skipU _ _ _ _ rfl rfl rfl rfl (dlt rfl (Nat.le_of_ble_eq_true rfl))) rfl rfl ?_
    refine CertK.vd (Doing.skipU _ _ _ _ rfl rfl rfl rfl (dlt rfl (Nat.le_of_ble_eq_true rfl))) rfl rfl ?_
    refine CertK.v (Doing.skipU _ _ _ _ rfl rfl rfl rfl (dlt rfl (Nat.le_of_ble_eq_true rfl))) rfl ?_
    refine CertK.v (Doing.skipU _ _ _ _ rfl rfl rfl rfl (dlt rfl (Nat.le_of_ble_eq_true rfl))) rfl ?_
    refine CertK.v (Doing.skip _ _ _ _ rfl rfl rfl rfl (dlt rfl (Nat.le_of_ble_eq_true rfl))) rfl ?_
    refine CertK.v (Y.pickF (up0 rfl rfl rfl) rfl rfl rfl) rfl ?_
    refine CertK.v (Y.move (up0 rfl rfl rfl) rfl rfl) rfl ?_
    refine CertK.v (Doing.isB (c := false) hI (Y.move (up1 rfl rfl rfl rfl rfl rfl) rfl rfl)) rfl ?_
    refine CertK.v (Doing.isB (c := true) (show (!false) = true from rfl) (Y.not (up1 rfl rfl rfl rfl rfl rfl) rfl rfl)) rfl ?_
    refine CertK.v (Y.move (up1 rfl rfl rfl rfl rfl rfl) rfl rfl) rfl ?_
    refine CertK.vd (Y.ldAll ty27 rfl (up1 rfl rfl rfl rfl rfl rfl) rfl rfl rfl (by first | (with_reducible assumption) | omega | (simp only [lens, load_l, ratio_l, *]; first | done | omega) | decide | (split <;> simp only [lens, load_l, ratio_l, *]) | (with_reducible exact Lt.mono (by assumption) (by decide)) | (simp only [Cs.len]; done) | rfl) (by decide)) rfl rfl ?_
    refine CertK.vd (Y.buildT [(0, 5)] ty27 rfl (by kernel_rfl) (up1 rfl rfl rfl rfl rfl rfl) rfl (.nil _)) rfl rfl ?_
    refine CertK.v (Doing.isB (c := true) (ro_none l_a l_b ba bb hI) (Y.callV (w_same _ _ (by first | (with_reducible assumption) | omega | (simp only [lens, load_l, ratio_l, *]; first | done | omega) | decide | (split <;> simp only [lens, load_l, ratio_l, *]) | (with_reducible exact Lt.mono (by assumption) (by decide)) | (simp only [Cs.len]; done) | rfl) (by first | (with_reducible assumption) | omega | (simp only [lens, load_l, ratio_l, *]; first | done | omega) | decide | (split <;> simp only [lens, load_l, ratio_l, *]) | (with_reducible exact Lt.mono (by assumption) (by decide)) | (simp only [Cs.len]; done) | rfl)) fnok21 (up1 rfl rfl rfl rfl rfl rfl) rfl rfl (.cons _ _ _ _ rfl (.cons _ _ _ _ rfl .nil)) (.cons _ _ _ _ (.same _) (.cons _ _ _ _ (.same _) .nil)) rfl rfl)) rfl ?_
    refine CertK.v (Doing.isB (c := false) (show (!true) = false from rfl) (Y.not (up1 rfl rfl rfl rfl rfl rfl) rfl rfl)) rfl ?_
    refine CertK.v (Y.pickT (up1 rfl rfl rfl rfl rfl rfl) rfl rfl rfl) rfl ?_
    refine CertK.v (Y.pickF (up0 rfl rfl rfl) rfl rfl rfl) rfl ?_
    refine CertK.nil ?_
    refine Holds.condF rfl ?_
    refine Holds.skip ?_
    refine Holds.seq ?_
    refine Holds.dr mx [([52], [54, 56, 10]), ([53], [54, 56, 10]), ([54], [52, 53, 56, 10]), ([55], [56, 10]), ([56], [52, 53, 54, 55, 10]), ([57], [10]), ([51], [10]), ([58], [59, 10]), ([59], [58, 10]), ([10], [52, 53, 54, 55, 56, 57, 51, 58, 59]), ([10], [59]), ([11], [])] (by kernel_rfl) ?_
    refine CertK.vd (Y.ldAll ty27 rfl (up0 rfl rfl rfl) rfl rfl rfl (by first | (with_reducible assumption) | omega | (simp only [lens, load_l, ratio_l, sqr_l, mul_l, *]; first | done | omega) | decide | (split <;> simp only [lens, load_l, ratio_l, sqr_l, mul_l, *]) | (with_reducible exact Lt.mono (by assumption) (by decide)) | (simp only [Cs.len]; done) | rfl) (by decide)) rfl rfl ?_
    refine CertK.vd (Y.callV (w_sqr _ (by first | (with_reducible assumption) | omega | (simp only [lens, load_l, ratio_l, sqr_l, mul_l, *]; first | done | omega) | decide | (split <;> simp only [lens, load_l, ratio_l, sqr_l, mul_l, *]) | (with_reducible exact Lt.mono (by assumption) (by decide)) | (simp only [Cs.len]; done) | rfl)) fnok30 (up0 rfl rfl rfl) rfl rfl (.cons _ _ _ _ rfl .nil) (.cons _ _ _ _ (.same _) .nil) rfl rfl) rfl rfl ?_
    refine CertK.vd (Y.ldAll ty27 rfl (up0 rfl rfl rfl) rfl rfl rfl (by first | (with_reducible assumption) | omega | (simp only [lens, load_l, ratio_l, sqr_l, mul_l, *]; first | done | omega) | decide | (split <;> simp only [lens, load_l, ratio_l, sqr_l, mul_l, *]) | (with_reducible exact Lt.mono (by assumption) (by decide)) | (simp only [Cs.len]; done) | rfl) (by decide)) rfl rfl ?_
    refine CertK.vd (Y.callV (w_mul _ _ (by first | (with_reducible assumption) | omega | (simp only [lens, load_l, ratio_l, sqr_l, mul_l, *]; first | done | omega) | decide | (split <;> simp only [lens, load_l, ratio_l, sqr_l, mul_l, *]) | (with_reducible exact Lt.mono (by assumption) (by decide)) | (simp only [Cs.len]; done) | rfl) (by first | (with_reducible assumption) | omega | (simp only [lens, load_l, ratio_l, sqr_l, mul_l, *]; first | done | omega) | decide | (split <;> simp only [lens, load_l, ratio_l, sqr_l, mul_l, *]) | (with_reducible exact Lt.mono (by assumption) (by decide)) | (simp only [Cs.len]; done) | rfl)) fnok28 (up0 rfl rfl rfl) rfl rfl (.cons _ _ _ _ rfl (.cons _ _ _ _ rfl .nil)) (.cons _ _ _ _ (.same _) (.cons _ _ _ _ (.same _) .nil)) rfl rfl) rfl rfl ?_
    refine CertK.vd (Y.ldAll ty27 rfl (up0 rfl rfl rfl) rfl rfl rfl (by first | (with_reducible assumption) | omega | (simp only [lens, load_l, ratio_l, sqr_l, mul_l, *]; first | done | omega) | decide | (split <;> simp only [lens, load_l, ratio_l, sqr_l, mul_l, *]) | (with_reducible exact Lt.mono (by assumption) (by decide)) | (simp only [Cs.len]; done) | rfl) (by decide)) rfl rfl ?_
    refine CertK.vd (Y.callV (w_ratio _ _ (by first | (with_reducible assumption) | omega | (simp only [lens, load_l, ratio_l, sqr_l, mul_l, *]; first | done | omega) | decide | (split <;> simp only [lens, load_l, ratio_l, sqr_l, mul_l, *]) | (with_reducible exact Lt.mono (by assumption) (by decide)) | (simp only [Cs.len]; done) | rfl) (by first | (with_reducible assumption) | omega | (simp only [lens, load_l, ratio_l, sqr_l, mul_l, *]; first | done | omega) | decide | (split <;> simp only [lens, load_l, ratio_l, sqr_l, mul_l, *]) | (with_reducible exact Lt.mono (by assumption) (by decide)) | (simp only [Cs.len]; done) | rfl)) fnok32 (up0 rfl rfl rfl) rfl rfl (.cons _ _ _ _ rfl (.cons _ _ _ _ rfl .nil)) (.cons _ _ _ _ (.same _) (.cons _ _ _ _ (.same _) .nil)) rfl rfl) rfl rfl ?_
    refine CertK.vd (Y.move (up0 rfl rfl rfl) rfl rfl) rfl rfl ?_
    refine CertK.vd (Y.ext0 (up0 rfl rfl rfl) rfl rfl) rfl rfl ?_
    refine CertK.vd (Y.ext1 (up0 rfl rfl rfl) rfl rfl) rfl rfl ?_
    refine CertK.u (Y.alloc (d := 10) ty27 rfl rfl (up0 rfl rfl rfl) rfl) rfl rfl rfl rfl rfl ?_
    refine CertK.n (Y.stR ty27 (upN rfl rfl) rfl rfl rfl rfl rfl (by first | (with_reducible assumption) | omega | (simp only [lens, load_l, ratio_l, sqr_l, mul_l, *]; first | done | omega) | decide | (split <;> simp only [lens, load_l, ratio_l, sqr_l, mul_l, *]) | (with_reducible exact Lt.mono (by assumption) (by decide)) | (simp only [Cs.len]; done) | rfl) (by first | (with_reducible assumption) | omega | (simp only [lens, load_l, ratio_l, sqr_l, mul_l, *]; first | done | omega) | decide | (split <;> simp only [lens, load_l, ratio_l, sqr_l, mul_l, *]) | (with_reducible exact Lt.mono (by assumption) (by decide)) | (simp only [Cs.len]; done) | rfl) (by decide)) rfl rfl rfl rfl ?_
    refine CertK.v (Y.assign (up0 rfl rfl rfl) rfl rfl) rfl ?_
    refine CertK.nil ?_
    refine Holds.seq ?_
    refine Holds.reg ?_
    refine OpsFrom.v (Y.ldAll ty27 rfl (up0 rfl rfl rfl) rfl rfl rfl (by first | (with_reducible assumption) | omega | (simp only [lens, load_l, ratio_l, sqr_l, mul_l, *]; first | done | omega) | decide | (split <;> simp only [lens, load_l, ratio_l, sqr_l, mul_l, *]) | (with_reducible exact Lt.mono (by assumption) (by decide)) | (simp only [Cs.len]; done) | rfl) (by decide)) rfl ?_
    refine OpsFrom.v (Y.buildT [(0, 5)] ty27 rfl (by kernel_rfl) (up0 rfl rfl rfl) rfl (.nil _)) rfl ?_
    refine OpsFrom.v (Y.callV (w_same _ _ (by first | (with_reducible assumption) | omega | (simp only [lens, load_l, ratio_l, sqr_l, mul_l, *]; first | done | omega) | decide | (split <;> simp only [lens, load_l, ratio_l, sqr_l, mul_l, *]) | (with_reducible exact Lt.mono (by assumption) (by decide)) | (simp only [Cs.len]; done) | rfl) (by first | (with_reducible assumption) | omega | (simp only [lens, load_l, ratio_l, sqr_l, mul_l, *]; first | done | omega) | decide | (split <;> simp only [lens, load_l, ratio_l, sqr_l, mul_l, *]) | (with_reducible exact Lt.mono (by assumption) (by decide)) | (simp only [Cs.len]; done) | rfl)) fnok21 (up0 rfl rfl rfl) rfl rfl (.cons _ _ _ _ rfl (.cons _ _ _ _ rfl .nil)) (.cons _ _ _ _ (.same _) (.cons _ _ _ _ (.same _) .nil)) rfl rfl) rfl ?_
    refine OpsFrom.v (Y.assign (up0 rfl rfl rfl) rfl rfl) rfl ?_
    refine OpsFrom.nil ?_
    refine Holds.seq ?_
    rcases ro_back l_a l_b ba bb with hS1 | ⟨hS1, hS2⟩ | ⟨hS1, hS2, hZ⟩
    · refine Holds.dr mx [([63], [64]), ([64], [63]), ([65], []), ([66], []), ([67], [68, 69]), ([68], [67]), ([69], [67]), ([70], []), ([71], []), ([72], []), ([73], []), ([74], []), ([13], [])] (by kernel_rfl) ?_
      refine CertK.vd (Y.ldAll ty27 rfl (up0 rfl rfl rfl) rfl rfl rfl (by first | (with_reducible assumption) | omega | (simp only [lens, load_l, ratio_l, sqr_l, mul_l, *]; first | done | omega) | decide | (split <;> simp only [lens, load_l, ratio_l, sqr_l, mul_l, *]) | (with_reducible exact Lt.mono (by assumption) (by decide)) | (simp only [Cs.len]; done) | rfl) (by decide)) rfl rfl ?_
      refine CertK.vd (Y.ldAll ty27 rfl (up0 rfl rfl rfl) rfl rfl rfl (by first | (with_reducible assumption) | omega | (simp only [lens, load_l, ratio_l, sqr_l, mul_l, *]; first | done | omega) | decide | (split <;> simp only [lens, load_l, ratio_l, sqr_l, mul_l, *]) | (with_reducible exact Lt.mono (by assumption) (by decide)) | (simp only [Cs.len]; done) | rfl) (by decide)) rfl rfl ?_
      refine CertK.v (Doing.isB (c := true) hS1 (Y.callV (w_same _ _ (by first | (with_reducible assumption) | omega | (simp only [lens, load_l, ratio_l, sqr_l, mul_l, *]; first | done | omega) | decide | (split <;> simp only [lens, load_l, ratio_l, sqr_l, mul_l, *]) | (with_reducible exact Lt.mono (by assumption) (by decide)) | (simp only [Cs.len]; done) | rfl) (by first | (with_reducible assumption) | omega | (simp only [lens, load_l, ratio_l, sqr_l, mul_l, *]; first | done | omega) | decide | (split <;> simp only [lens, load_l, ratio_l, sqr_l, mul_l, *]) | (with_reducible exact Lt.mono (by assumption) (by decide)) | (simp only [Cs.len]; done) | rfl)) fnok21 (up0 rfl rfl rfl) rfl rfl (.cons _ _ _ _ rfl (.cons _ _ _ _ rfl .nil)) (.cons _ _ _ _ (.same _) (.cons _ _ _ _ (.same _) .nil)) rfl rfl)) rfl ?_
      refine CertK.v (Y.move (up0 rfl rfl rfl) rfl rfl) rfl ?_
      refine CertK.vd (Doing.skip _ _ _ _ rfl rfl rfl rfl (dlt rfl (Nat.le_of_ble_eq_true rfl))) rfl rfl ?_
      refine CertK.vd (Doing.skip _ _ _ _ rfl rfl rfl rfl (dlt rfl (Nat.le_of_ble_eq_true rfl))) rfl rfl ?_
      refine CertK.vd (Doing.skip _ _ _ _ rfl rfl rfl rfl (dlt rfl (Nat.le_of_ble_eq_true rfl))) rfl rfl ?_
      refine CertK.v (Doing.skip _ _ _ _ rfl rfl rfl rfl (dlt rfl (Nat.le_of_ble_eq_true rfl))) rfl ?_
      refine CertK.v (Y.pickT (up0 rfl rfl rfl) rfl rfl rfl) rfl ?_
      refine CertK.v (Y.move (up0 rfl rfl rfl) rfl rfl) rfl ?_
      refine CertK.v (Doing.skip _ _ _ _ rfl rfl rfl rfl (dlt rfl (Nat.le_of_ble_eq_true rfl))) rfl ?_
      refine CertK.v (Y.pickT (up0 rfl rfl rfl) rfl rfl rfl) rfl ?_
      refine CertK.v (Y.assign (up0 rfl rfl rfl) rfl rfl) rfl ?_
      refine CertK.nil ?_
      refine Holds.seq ?_
      refine Holds.dr mx [([76], [77, 79, 14]), ([77], [76, 79, 14]), ([78], [79, 14]), ([79], [76, 77, 78, 14]), ([80], [14]), ([75], [14]), ([81], [82, 14]), ([82], [81, 14]), ([14], [76, 77, 78, 79, 80, 75, 81, 82]), ([14], [82]), ([15], [])] (by kernel_rfl) ?_
      refine CertK.vd (Y.ldAll ty27 rfl (up0 rfl rfl rfl) rfl rfl rfl (by first | (with_reducible assumption) | omega | (simp only [lens, load_l, ratio_l, sqr_l, mul_l, add_len, *]; first | done | omega) | decide | (split <;> simp only [lens, load_l, ratio_l, sqr_l, mul_l, add_len, *]) | (with_reducible exact Lt.mono (by assumption) (by decide)) | (simp only [Cs.len]; done) | rfl) (by decide)) rfl rfl ?_
      refine CertK.vd (Y.ldAll ty27 rfl (up0 rfl rfl rfl) rfl rfl rfl (by first | (with_reducible assumption) | omega | (simp only [lens, load_l, ratio_l, sqr_l, mul_l, add_len, *]; first | done | omega) | decide | (split <;> simp only [lens, load_l, ratio_l, sqr_l, mul_l, add_len, *]) | (with_reducible exact Lt.mono (by assumption) (by decide)) | (simp only [Cs.len]; done) | rfl) (by decide)) rfl rfl ?_
      refine CertK.vd (Y.callV (w_add _ _ (by first | (with_reducible assumption) | omega | (simp only [lens, load_l, ratio_l, sqr_l, mul_l, add_len, *]; first | done | omega) | decide | (split <;> simp only [lens, load_l, ratio_l, sqr_l, mul_l, add_len, *]) | (with_reducible exact Lt.mono (by assumption) (by decide)) | (simp only [Cs.len]; done) | rfl) (by first | (with_reducible assumption) | omega | (simp only [lens, load_l, ratio_l, sqr_l, mul_l, add_len, *]; first | done | omega) | decide | (split <;> simp only [lens, load_l, ratio_l, sqr_l, mul_l, add_len, *]) | (with_reducible exact Lt.mono (by assumption) (by decide)) | (simp only [Cs.len]; done) | rfl)) fnok24 (up0 rfl rfl rfl) rfl rfl (.cons _ _ _ _ rfl (.cons _ _ _ _ rfl .nil)) (.cons _ _ _ _ (.same _) (.cons _ _ _ _ (.same _) .nil)) rfl rfl) rfl rfl ?_
      refine CertK.vd (Y.ldAll ty27 rfl (up0 rfl rfl rfl) rfl rfl rfl (by first | (with_reducible assumption) | omega | (simp only [lens, load_l, ratio_l, sqr_l, mul_l, add_len, *]; first | done | omega) | decide | (split <;> simp only [lens, load_l, ratio_l, sqr_l, mul_l, add_len, *]) | (with_reducible exact Lt.mono (by assumption) (by decide)) | (simp only [Cs.len]; done) | rfl) (by decide)) rfl rfl ?_
      refine CertK.vd (Y.callV (w_ratio _ _ (by first | (with_reducible assumption) | omega | (simp only [lens, load_l, ratio_l, sqr_l, mul_l, add_len, *]; first | done | omega) | decide | (split <;> simp only [lens, load_l, ratio_l, sqr_l, mul_l, add_len, *]) | (with_reducible exact Lt.mono (by assumption) (by decide)) | (simp only [Cs.len]; done) | rfl) (by first | (with_reducible assumption) | omega | (simp only [lens, load_l, ratio_l, sqr_l, mul_l, add_len, *]; first | done | omega) | decide | (split <;> simp only [lens, load_l, ratio_l, sqr_l, mul_l, add_len, *]) | (with_reducible exact Lt.mono (by assumption) (by decide)) | (simp only [Cs.len]; done) | rfl)) fnok32 (up0 rfl rfl rfl) rfl rfl (.cons _ _ _ _ rfl (.cons _ _ _ _ rfl .nil)) (.cons _ _ _ _ (.same _) (.cons _ _ _ _ (.same _) .nil)) rfl rfl) rfl rfl ?_
      refine CertK.vd (Y.move (up0 rfl rfl rfl) rfl rfl) rfl rfl ?_
      refine CertK.vd (Y.ext0 (up0 rfl rfl rfl) rfl rfl) rfl rfl ?_
      refine CertK.vd (Y.ext1 (up0 rfl rfl rfl) rfl rfl) rfl rfl ?_
      refine CertK.u (Y.alloc (d := 14) ty27 rfl rfl (up0 rfl rfl rfl) rfl) rfl rfl rfl rfl rfl ?_
      refine CertK.n (Y.stR ty27 (upN rfl rfl) rfl rfl rfl rfl rfl (by first | (with_reducible assumption) | omega | (simp only [lens, load_l, ratio_l, sqr_l, mul_l, add_len, *]; first | done | omega) | decide | (split <;> simp only [lens, load_l, ratio_l, sqr_l, mul_l, add_len, *]) | (with_reducible exact Lt.mono (by assumption) (by decide)) | (simp only [Cs.len]; done) | rfl) (by first | (with_reducible assumption) | omega | (simp only [lens, load_l, ratio_l, sqr_l, mul_l, add_len, *]; first | done | omega) | decide | (split <;> simp only [lens, load_l, ratio_l, sqr_l, mul_l, add_len, *]) | (with_reducible exact Lt.mono (by assumption) (by decide)) | (simp only [Cs.len]; done) | rfl) (by decide)) rfl rfl rfl rfl ?_
      refine CertK.v (Y.assign (up0 rfl rfl rfl) rfl rfl) rfl ?_
      refine CertK.nil ?_
      refine Holds.seq ?_
      rcases bool_fc ((ratio (add (load a) (load a)) (load b)).2) with hT | hT
      · refine Holds.reg ?_
        refine OpsFrom.v (Y.move (up0 rfl rfl rfl) rfl rfl) rfl ?_
        refine OpsFrom.v (Y.move (up0 rfl rfl rfl) rfl rfl) rfl ?_
        refine OpsFrom.v (Doing.isB (c := true) (ro_also l_a l_b ba bb) (Y.move (up1 rfl rfl rfl rfl rfl rfl) rfl rfl)) rfl ?_
        refine OpsFrom.v (Y.pickT (up0 rfl rfl rfl) rfl rfl rfl) rfl ?_
        refine OpsFrom.v (Y.move (up0 rfl rfl rfl) rfl rfl) rfl ?_
        refine OpsFrom.v (Y.move (up1 rfl rfl rfl rfl rfl rfl) rfl rfl) rfl ?_
        refine OpsFrom.v (Y.pickT (up0 rfl rfl rfl) rfl rfl rfl) rfl ?_
        refine OpsFrom.v (Y.move (up0 rfl rfl rfl) rfl rfl) rfl ?_
        refine OpsFrom.v (Doing.isB (c := false) hI (Y.move (up1 rfl rfl rfl rfl rfl rfl) rfl rfl)) rfl ?_
        refine OpsFrom.v (Y.move (up1 rfl rfl rfl rfl rfl rfl) rfl rfl) rfl ?_
        refine OpsFrom.v (Doing.isB (c := false) hT (Y.move (up1 rfl rfl rfl rfl rfl rfl) rfl rfl)) rfl ?_
        refine OpsFrom.v (Y.pickF (up1 rfl rfl rfl rfl rfl rfl) rfl rfl rfl) rfl ?_
        refine OpsFrom.v (Y.move (up1 rfl rfl rfl rfl rfl rfl) rfl rfl) rfl ?_
        refine OpsFrom.v (Doing.isB (c := true) (ro_three l_a l_b ba bb hI hT) (Y.move (up1 rfl rfl rfl rfl rfl rfl) rfl rfl)) rfl ?_
        refine OpsFrom.v (Y.pickF (up1 rfl rfl rfl rfl rfl rfl) rfl rfl rfl) rfl ?_
        refine OpsFrom.v (Y.pickT (up0 rfl rfl rfl) rfl rfl rfl) rfl ?_
        refine OpsFrom.v (Y.move (up0 rfl rfl rfl) rfl rfl) rfl ?_
        refine OpsFrom.v (Doing.isB (c := false) hI (Y.move (up1 rfl rfl rfl rfl rfl rfl) rfl rfl)) rfl ?_
        refine OpsFrom.v (Doing.isB (c := true) (show (!false) = true from rfl) (Y.not (up1 rfl rfl rfl rfl rfl rfl) rfl rfl)) rfl ?_
        refine OpsFrom.v (Y.move (up1 rfl rfl rfl rfl rfl rfl) rfl rfl) rfl ?_
        refine OpsFrom.v (Doing.skip _ _ _ _ rfl rfl rfl rfl (dlt rfl (Nat.le_of_ble_eq_true rfl))) rfl ?_
        refine OpsFrom.v (Doing.skip _ _ _ _ rfl rfl rfl rfl (dlt rfl (Nat.le_of_ble_eq_true rfl))) rfl ?_
        refine OpsFrom.v (Y.pickT (up1 rfl rfl rfl rfl rfl rfl) rfl rfl rfl) rfl ?_
        refine OpsFrom.v (Y.move (up1 rfl rfl rfl rfl rfl rfl) rfl rfl) rfl ?_
        refine OpsFrom.v (Doing.skip _ _ _ _ rfl rfl rfl rfl (dlt rfl (Nat.le_of_ble_eq_true rfl))) rfl ?_
        refine OpsFrom.v (Doing.skip _ _ _ _ rfl rfl rfl rfl (dlt rfl (Nat.le_of_ble_eq_true rfl))) rfl ?_
        refine OpsFrom.v (Doing.skip _ _ _ _ rfl rfl rfl rfl (dlt rfl (Nat.le_of_ble_eq_true rfl))) rfl ?_
        refine OpsFrom.v (Y.pickT (up1 rfl rfl rfl rfl rfl rfl) rfl rfl rfl) rfl ?_
        refine OpsFrom.v (Y.pickT (up0 rfl rfl rfl) rfl rfl rfl) rfl ?_
        refine OpsFrom.v (Y.assign (up0 rfl rfl rfl) rfl rfl) rfl ?_
        refine OpsFrom.nil ?_
        refine Holds.ret ?_
        exact Holds.ret1 (.inl rfl) rfl (.tmp _ _ rfl) (.same _) rfl
      · refine Holds.reg ?_
        refine OpsFrom.v (Y.move (up0 rfl rfl rfl) rfl rfl) rfl ?_
        refine OpsFrom.v (Y.move (up0 rfl rfl rfl) rfl rfl) rfl ?_
        refine OpsFrom.v (Doing.isB (c := true) (ro_also l_a l_b ba bb) (Y.move (up1 rfl rfl rfl rfl rfl rfl) rfl rfl)) rfl ?_
        refine OpsFrom.v (Y.pickT (up0 rfl rfl rfl) rfl rfl rfl) rfl ?_
        refine OpsFrom.v (Y.move (up0 rfl rfl rfl) rfl rfl) rfl ?_
        refine OpsFrom.v (Y.move (up1 rfl rfl rfl rfl rfl rfl) rfl rfl) rfl ?_
        refine OpsFrom.v (Y.pickT (up0 rfl rfl rfl) rfl rfl rfl) rfl ?_
        refine OpsFrom.v (Y.move (up0 rfl rfl rfl) rfl rfl) rfl ?_
        refine OpsFrom.v (Doing.isB (c := false) hI (Y.move (up1 rfl rfl rfl rfl rfl rfl) rfl rfl)) rfl ?_
        refine OpsFrom.v (Y.move (up1 rfl rfl rfl rfl rfl rfl) rfl rfl) rfl ?_
        refine OpsFrom.v (Doing.isB (c := true) hT (Y.move (up1 rfl rfl rfl rfl rfl rfl) rfl rfl)) rfl ?_
        refine OpsFrom.v (Y.pickF (up1 rfl rfl rfl rfl rfl rfl) rfl rfl rfl) rfl ?_
        refine OpsFrom.v (Y.move (up1 rfl rfl rfl rfl rfl rfl) rfl rfl) rfl ?_
        refine OpsFrom.v (Doing.skip _ _ _ _ rfl rfl rfl rfl (dlt rfl (Nat.le_of_ble_eq_true rfl))) rfl ?_
        refine OpsFrom.v (Y.pickT (up1 rfl rfl rfl rfl rfl rfl) rfl rfl rfl) rfl ?_
        refine OpsFrom.v (Y.pickT (up0 rfl rfl rfl) rfl rfl rfl) rfl ?_
        refine OpsFrom.v (Y.move (up0 rfl rfl rfl) rfl rfl) rfl ?_
        refine OpsFrom.v (Doing.isB (c := false) hI (Y.move (up1 rfl rfl rfl rfl rfl rfl) rfl rfl)) rfl ?_
        refine OpsFrom.v (Doing.isB (c := true) (show (!false) = true from rfl) (Y.not (up1 rfl rfl rfl rfl rfl rfl) rfl rfl)) rfl ?_
        refine OpsFrom.v (Y.move (up1 rfl rfl rfl rfl rfl rfl) rfl rfl) rfl ?_
        refine OpsFrom.v (Doing.skip _ _ _ _ rfl rfl rfl rfl (dlt rfl (Nat.le_of_ble_eq_true rfl))) rfl ?_
        refine OpsFrom.v (Doing.skip _ _ _ _ rfl rfl rfl rfl (dlt rfl (Nat.le_of_ble_eq_true rfl))) rfl ?_
        refine OpsFrom.v (Y.pickT (up1 rfl rfl rfl rfl rfl rfl) rfl rfl rfl) rfl ?_
        refine OpsFrom.v (Y.move (up1 rfl rfl rfl rfl rfl rfl) rfl rfl) rfl ?_
        refine OpsFrom.v (Doing.skip _ _ _ _ rfl rfl rfl rfl (dlt rfl (Nat.le_of_ble_eq_true rfl))) rfl ?_
        refine OpsFrom.v (Doing.skip _ _ _ _ rfl rfl rfl rfl (dlt rfl (Nat.le_of_ble_eq_true rfl))) rfl ?_
        refine OpsFrom.v (Doing.skip _ _ _ _ rfl rfl rfl rfl (dlt rfl (Nat.le_of_ble_eq_true rfl))) rfl ?_
        refine OpsFrom.v (Y.pickT (up1 rfl rfl rfl rfl rfl rfl) rfl rfl rfl) rfl ?_
        refine OpsFrom.v (Y.pickT (up0 rfl rfl rfl) rfl rfl rfl) rfl ?_
        refine OpsFrom.v (Y.assign (up0 rfl rfl rfl) rfl rfl) rfl ?_
        refine OpsFrom.nil ?_
        refine Holds.ret ?_
        exact Holds.ret1 (.inl rfl) rfl (.tmp _ _ rfl) (.same _) rfl
    · refine Holds.dr mx [([63], [64]), ([64], [63]), ([65], []), ([66], []), ([67], [68, 69]), ([68], [67]), ([69], [67]), ([70], []), ([71], []), ([72], []), ([73], []), ([74], []), ([13], [])] (by kernel_rfl) ?_
      refine CertK.vd (Y.ldAll ty27 rfl (up0 rfl rfl rfl) rfl rfl rfl (by first | (with_reducible assumption) | omega | (simp only [lens, load_l, ratio_l, sqr_l, mul_l, add_len, neg_l, *]; first | done | omega) | decide | (split <;> simp only [lens, load_l, ratio_l, sqr_l, mul_l, add_len, neg_l, *]) | (with_reducible exact Lt.mono (by assumption) (by decide)) | (simp only [Cs.len]; done) | rfl) (by decide)) rfl rfl ?_
      refine CertK.vd (Y.ldAll ty27 rfl (up0 rfl rfl rfl) rfl rfl rfl (by first | (with_reducible assumption) | omega | (simp only [lens, load_l, ratio_l, sqr_l, mul_l, add_len, neg_l, *]; first | done | omega) | decide | (split <;> simp only [lens, load_l, ratio_l, sqr_l, mul_l, add_len, neg_l, *]) | (with_reducible exact Lt.mono (by assumption) (by decide)) | (simp only [Cs.len]; done) | rfl) (by decide)) rfl rfl ?_
      refine CertK.v (Doing.isB (c := false) hS1 (Y.callV (w_same _ _ (by first | (with_reducible assumption) | omega | (simp only [lens, load_l, ratio_l, sqr_l, mul_l, add_len, neg_l, *]; first | done | omega) | decide | (split <;> simp only [lens, load_l, ratio_l, sqr_l, mul_l, add_len, neg_l, *]) | (with_reducible exact Lt.mono (by assumption) (by decide)) | (simp only [Cs.len]; done) | rfl) (by first | (with_reducible assumption) | omega | (simp only [lens, load_l, ratio_l, sqr_l, mul_l, add_len, neg_l, *]; first | done | omega) | decide | (split <;> simp only [lens, load_l, ratio_l, sqr_l, mul_l, add_len, neg_l, *]) | (with_reducible exact Lt.mono (by assumption) (by decide)) | (simp only [Cs.len]; done) | rfl)) fnok21 (up0 rfl rfl rfl) rfl rfl (.cons _ _ _ _ rfl (.cons _ _ _ _ rfl .nil)) (.cons _ _ _ _ (.same _) (.cons _ _ _ _ (.same _) .nil)) rfl rfl)) rfl ?_
      refine CertK.v (Y.move (up0 rfl rfl rfl) rfl rfl) rfl ?_
      refine CertK.vd (Y.ldAll ty27 rfl (up1 rfl rfl rfl rfl rfl rfl) rfl rfl rfl (by first | (with_reducible assumption) | omega | (simp only [lens, load_l, ratio_l, sqr_l, mul_l, add_len, neg_l, *]; first | done | omega) | decide | (split <;> simp only [lens, load_l, ratio_l, sqr_l, mul_l, add_len, neg_l, *]) | (with_reducible exact Lt.mono (by assumption) (by decide)) | (simp only [Cs.len]; done) | rfl) (by decide)) rfl rfl ?_
      refine CertK.vd (Y.ldAll ty27 rfl (up1 rfl rfl rfl rfl rfl rfl) rfl rfl rfl (by first | (with_reducible assumption) | omega | (simp only [lens, load_l, ratio_l, sqr_l, mul_l, add_len, neg_l, *]; first | done | omega) | decide | (split <;> simp only [lens, load_l, ratio_l, sqr_l, mul_l, add_len, neg_l, *]) | (with_reducible exact Lt.mono (by assumption) (by decide)) | (simp only [Cs.len]; done) | rfl) (by decide)) rfl rfl ?_
      refine CertK.vd (Y.callV (w_neg _ (by first | (with_reducible assumption) | omega | (simp only [lens, load_l, ratio_l, sqr_l, mul_l, add_len, neg_l, *]; first | done | omega) | decide | (split <;> simp only [lens, load_l, ratio_l, sqr_l, mul_l, add_len, neg_l, *]) | (with_reducible exact Lt.mono (by assumption) (by decide)) | (simp only [Cs.len]; done) | rfl)) fnok31 (up1 rfl rfl rfl rfl rfl rfl) rfl rfl (.cons _ _ _ _ rfl .nil) (.cons _ _ _ _ (.same _) .nil) rfl rfl) rfl rfl ?_
      refine CertK.v (Doing.isB (c := true) hS2 (Y.callV (w_same _ _ (by first | (with_reducible assumption) | omega | (simp only [lens, load_l, ratio_l, sqr_l, mul_l, add_len, neg_l, *]; first | done | omega) | decide | (split <;> simp only [lens, load_l, ratio_l, sqr_l, mul_l, add_len, neg_l, *]) | (with_reducible exact Lt.mono (by assumption) (by decide)) | (simp only [Cs.len]; done) | rfl) (by first | (with_reducible assumption) | omega | (simp only [lens, load_l, ratio_l, sqr_l, mul_l, add_len, neg_l, *]; first | done | omega) | decide | (split <;> simp only [lens, load_l, ratio_l, sqr_l, mul_l, add_len, neg_l, *]) | (with_reducible exact Lt.mono (by assumption) (by decide)) | (simp only [Cs.len]; done) | rfl)) fnok21 (up1 rfl rfl rfl rfl rfl rfl) rfl rfl (.cons _ _ _ _ rfl (.cons _ _ _ _ rfl .nil)) (.cons _ _ _ _ (.same _) (.cons _ _ _ _ (.same _) .nil)) rfl rfl)) rfl ?_
      refine CertK.v (Y.pickF (up0 rfl rfl rfl) rfl rfl rfl) rfl ?_
      refine CertK.v (Y.move (up0 rfl rfl rfl) rfl rfl) rfl ?_
      refine CertK.v (Doing.skip _ _ _ _ rfl rfl rfl rfl (dlt rfl (Nat.le_of_ble_eq_true rfl))) rfl ?_
      refine CertK.v (Y.pickT (up0 rfl rfl rfl) rfl rfl rfl) rfl ?_
      refine CertK.v (Y.assign (up0 rfl rfl rfl) rfl rfl) rfl ?_
      refine CertK.nil ?_
      refine Holds.seq ?_
      refine Holds.dr mx [([76], [77, 79, 14]), ([77], [76, 79, 14]), ([78], [79, 14]), ([79], [76, 77, 78, 14]), ([80], [14]), ([75], [14]), ([81], [82, 14]), ([82], [81, 14]), ([14], [76, 77, 78, 79, 80, 75, 81, 82]), ([14], [82]), ([15], [])] (by kernel_rfl) ?_
      refine CertK.vd (Y.ldAll ty27 rfl (up0 rfl rfl rfl) rfl rfl rfl (by first | (with_reducible assumption) | omega | (simp only [lens, load_l, ratio_l, sqr_l, mul_l, add_len, neg_l, *]; first | done | omega) | decide | (split <;> simp only [lens, load_l, ratio_l, sqr_l, mul_l, add_len, neg_l, *]) | (with_reducible exact Lt.mono (by assumption) (by decide)) | (simp only [Cs.len]; done) | rfl) (by decide)) rfl rfl ?_
      refine CertK.vd (Y.ldAll ty27 rfl (up0 rfl rfl rfl) rfl rfl rfl (by first | (with_reducible assumption) | omega | (simp only [lens, load_l, ratio_l, sqr_l, mul_l, add_len, neg_l, *]; first | done | omega) | decide | (split <;> simp only [lens, load_l, ratio_l, sqr_l, mul_l, add_len, neg_l, *]) | (with_reducible exact Lt.mono (by assumption) (by decide)) | (simp only [Cs.len]; done) | rfl) (by decide)) rfl rfl ?_
      refine CertK.vd (Y.callV (w_add _ _ (by first | (with_reducible assumption) | omega | (simp only [lens, load_l, ratio_l, sqr_l, mul_l, add_len, neg_l, *]; first | done | omega) | decide | (split <;> simp only [lens, load_l, ratio_l, sqr_l, mul_l, add_len, neg_l, *]) | (with_reducible exact Lt.mono (by assumption) (by decide)) | (simp only [Cs.len]; done) | rfl) (by first | (with_reducible assumption) | omega | (simp only [lens, load_l, ratio_l, sqr_l, mul_l, add_len, neg_l, *]; first | done | omega) | decide | (split <;> simp only [lens, load_l, ratio_l, sqr_l, mul_l, add_len, neg_l, *]) | (with_reducible exact Lt.mono (by assumption) (by decide)) | (simp only [Cs.len]; done) | rfl)) fnok24 (up0 rfl rfl rfl) rfl rfl (.cons _ _ _ _ rfl (.cons _ _ _ _ rfl .nil)) (.cons _ _ _ _ (.same _) (.cons _ _ _ _ (.same _) .nil)) rfl rfl) rfl rfl ?_
      refine CertK.vd (Y.ldAll ty27 rfl (up0 rfl rfl rfl) rfl rfl rfl (by first | (with_reducible assumption) | omega | (simp only [lens, load_l, ratio_l, sqr_l, mul_l, add_len, neg_l, *]; first | done | omega) | decide | (split <;> simp only [lens, load_l, ratio_l, sqr_l, mul_l, add_len, neg_l, *]) | (with_reducible exact Lt.mono (by assumption) (by decide)) | (simp only [Cs.len]; done) | rfl) (by decide)) rfl rfl ?_
      refine CertK.vd (Y.callV (w_ratio _ _ (by first | (with_reducible assumption) | omega | (simp only [lens, load_l, ratio_l, sqr_l, mul_l, add_len, neg_l, *]; first | done | omega) | decide | (split <;> simp only [lens, load_l, ratio_l, sqr_l, mul_l, add_len, neg_l, *]) | (with_reducible exact Lt.mono (by assumption) (by decide)) | (simp only [Cs.len]; done) | rfl) (by first | (with_reducible assumption) | omega | (simp only [lens, load_l, ratio_l, sqr_l, mul_l, add_len, neg_l, *]; first | done | omega) | decide | (split <;> simp only [lens, load_l, ratio_l, sqr_l, mul_l, add_len, neg_l, *]) | (with_reducible exact Lt.mono (by assumption) (by decide)) | (simp only [Cs.len]; done) | rfl)) fnok32 (up0 rfl rfl rfl) rfl rfl (.cons _ _ _ _ rfl (.cons _ _ _ _ rfl .nil)) (.cons _ _ _ _ (.same _) (.cons _ _ _ _ (.same _) .nil)) rfl rfl) rfl rfl ?_
      refine CertK.vd (Y.move (up0 rfl rfl rfl) rfl rfl) rfl rfl ?_
      refine CertK.vd (Y.ext0 (up0 rfl rfl rfl) rfl rfl) rfl rfl ?_
      refine CertK.vd (Y.ext1 (up0 rfl rfl rfl) rfl rfl) rfl rfl ?_
      refine CertK.u (Y.alloc (d := 14) ty27 rfl rfl (up0 rfl rfl rfl) rfl) rfl rfl rfl rfl rfl ?_
      refine CertK.n (Y.stR ty27 (upN rfl rfl) rfl rfl rfl rfl rfl (by first | (with_reducible assumption) | omega | (simp only [lens, load_l, ratio_l, sqr_l, mul_l, add_len, neg_l, *]; first | done | omega) | decide | (split <;> simp only [lens, load_l, ratio_l, sqr_l, mul_l, add_len, neg_l, *]) | (with_reducible exact Lt.mono (by assumption) (by decide)) | (simp only [Cs.len]; done) | rfl) (by first | (with_reducible assumption) | omega | (simp only [lens, load_l, ratio_l, sqr_l, mul_l, add_len, neg_l, *]; first | done | omega) | decide | (split <;> simp only [lens, load_l, ratio_l, sqr_l, mul_l, add_len, neg_l, *]) | (with_reducible exact Lt.mono (by assumption) (by decide)) | (simp only [Cs.len]; done) | rfl) (by decide)) rfl rfl rfl rfl ?_
      refine CertK.v (Y.assign (up0 rfl rfl rfl) rfl rfl) rfl ?_
      refine CertK.nil ?_
      refine Holds.seq ?_
      rcases bool_fc ((ratio (add (load a) (load a)) (load b)).2) with hT | hT
      · refine Holds.reg ?_
        refine OpsFrom.v (Y.move (up0 rfl rfl rfl) rfl rfl) rfl ?_
        refine OpsFrom.v (Y.move (up0 rfl rfl rfl) rfl rfl) rfl ?_
        refine OpsFrom.v (Doing.isB (c := true) (ro_also l_a l_b ba bb) (Y.move (up1 rfl rfl rfl rfl rfl rfl) rfl rfl)) rfl ?_
        refine OpsFrom.v (Y.pickT (up0 rfl rfl rfl) rfl rfl rfl) rfl ?_
        refine OpsFrom.v (Y.move (up0 rfl rfl rfl) rfl rfl) rfl ?_
        refine OpsFrom.v (Y.move (up1 rfl rfl rfl rfl rfl rfl) rfl rfl) rfl ?_
        refine OpsFrom.v (Y.pickT (up0 rfl rfl rfl) rfl rfl rfl) rfl ?_
        refine OpsFrom.v (Y.move (up0 rfl rfl rfl) rfl rfl) rfl ?_
        refine OpsFrom.v (Doing.isB (c := false) hI (Y.move (up1 rfl rfl rfl rfl rfl rfl) rfl rfl)) rfl ?_
        refine OpsFrom.v (Y.move (up1 rfl rfl rfl rfl rfl rfl) rfl rfl) rfl ?_
        refine OpsFrom.v (Doing.isB (c := false) hT (Y.move (up1 rfl rfl rfl rfl rfl rfl) rfl rfl)) rfl ?_
        refine OpsFrom.v (Y.pickF (up1 rfl rfl rfl rfl rfl rfl) rfl rfl rfl) rfl ?_
        refine OpsFrom.v (Y.move (up1 rfl rfl rfl rfl rfl rfl) rfl rfl) rfl ?_
        refine OpsFrom.v (Doing.isB (c := true) (ro_three l_a l_b ba bb hI hT) (Y.move (up1 rfl rfl rfl rfl rfl rfl) rfl rfl)) rfl ?_
        refine OpsFrom.v (Y.pickF (up1 rfl rfl rfl rfl rfl rfl) rfl rfl rfl) rfl ?_
        refine OpsFrom.v (Y.pickT (up0 rfl rfl rfl) rfl rfl rfl) rfl ?_
        refine OpsFrom.v (Y.move (up0 rfl rfl rfl) rfl rfl) rfl ?_
        refine OpsFrom.v (Doing.isB (c := false) hI (Y.move (up1 rfl rfl rfl rfl rfl rfl) rfl rfl)) rfl ?_
        refine OpsFrom.v (Doing.isB (c := true) (show (!false) = true from rfl) (Y.not (up1 rfl rfl rfl rfl rfl rfl) rfl rfl)) rfl ?_
        refine OpsFrom.v (Y.move (up1 rfl rfl rfl rfl rfl rfl) rfl rfl) rfl ?_
        refine OpsFrom.v (Doing.skip _ _ _ _ rfl rfl rfl rfl (dlt rfl (Nat.le_of_ble_eq_true rfl))) rfl ?_
        refine OpsFrom.v (Doing.skip _ _ _ _ rfl rfl rfl rfl (dlt rfl (Nat.le_of_ble_eq_true rfl))) rfl ?_
        refine OpsFrom.v (Y.pickT (up1 rfl rfl rfl rfl rfl rfl) rfl rfl rfl) rfl ?_
        refine OpsFrom.v (Y.move (up1 rfl rfl rfl rfl rfl rfl) rfl rfl) rfl ?_
        refine OpsFrom.v (Doing.skip _ _ _ _ rfl rfl rfl rfl (dlt rfl (Nat.le_of_ble_eq_true rfl))) rfl ?_
        refine OpsFrom.v (Doing.skip _ _ _ _ rfl rfl rfl rfl (dlt rfl (Nat.le_of_ble_eq_true rfl))) rfl ?_
        refine OpsFrom.v (Doing.skip _ _ _ _ rfl rfl rfl rfl (dlt rfl (Nat.le_of_ble_eq_true rfl))) rfl ?_
        refine OpsFrom.v (Y.pickT (up1 rfl rfl rfl rfl rfl rfl) rfl rfl rfl) rfl ?_
        refine OpsFrom.v (Y.pickT (up0 rfl rfl rfl) rfl rfl rfl) rfl ?_
        refine OpsFrom.v (Y.assign (up0 rfl rfl rfl) rfl rfl) rfl ?_
        refine OpsFrom.nil ?_
        refine Holds.ret ?_
        exact Holds.ret1 (.inl rfl) rfl (.tmp _ _ rfl) (.same _) rfl
      · refine Holds.reg ?_
        refine OpsFrom.v (Y.move (up0 rfl rfl rfl) rfl rfl) rfl ?_
        refine OpsFrom.v (Y.move (up0 rfl rfl rfl) rfl rfl) rfl ?_
        refine OpsFrom.v (Doing.isB (c := true) (ro_also l_a l_b ba bb) (Y.move (up1 rfl rfl rfl rfl rfl rfl) rfl rfl)) rfl ?_
        refine OpsFrom.v (Y.pickT (up0 rfl rfl rfl) rfl rfl rfl) rfl ?_
        refine OpsFrom.v (Y.move (up0 rfl rfl rfl) rfl rfl) rfl ?_
        refine OpsFrom.v (Y.move (up1 rfl rfl rfl rfl rfl rfl) rfl rfl) rfl ?_
        refine OpsFrom.v (Y.pickT (up0 rfl rfl rfl) rfl rfl rfl) rfl ?_
        refine OpsFrom.v (Y.move (up0 rfl rfl rfl) rfl rfl) rfl ?_
        refine OpsFrom.v (Doing.isB (c := false) hI (Y.move (up1 rfl rfl rfl rfl rfl rfl) rfl rfl)) rfl ?_
        refine OpsFrom.v (Y.move (up1 rfl rfl rfl rfl rfl rfl) rfl rfl) rfl ?_
        refine OpsFrom.v (Doing.isB (c := true) hT (Y.move (up1 rfl rfl rfl rfl rfl rfl) rfl rfl)) rfl ?_
        refine OpsFrom.v (Y.pickF (up1 rfl rfl rfl rfl rfl rfl) rfl rfl rfl) rfl ?_
        refine OpsFrom.v (Y.move (up1 rfl rfl rfl rfl rfl rfl) rfl rfl) rfl ?_
        refine OpsFrom.v (Doing.skip _ _ _ _ rfl rfl rfl rfl (dlt rfl (Nat.le_of_ble_eq_true rfl))) rfl ?_
        refine OpsFrom.v (Y.pickT (up1 rfl rfl rfl rfl rfl rfl) rfl rfl rfl) rfl ?_
        refine OpsFrom.v (Y.pickT (up0 rfl rfl rfl) rfl rfl rfl) rfl ?_
        refine OpsFrom.v (Y.move (up0 rfl rfl rfl) rfl rfl) rfl ?_
        refine OpsFrom.v (Doing.isB (c := false) hI (Y.move (up1 rfl rfl rfl rfl rfl rfl) rfl rfl)) rfl ?_
        refine OpsFrom.v (Doing.isB (c := true) (show (!false) = true from rfl) (Y.not (up1 rfl rfl rfl rfl rfl rfl) rfl rfl)) rfl ?_
        refine OpsFrom.v (Y.move (up1 rfl rfl rfl rfl rfl rfl) rfl rfl) rfl ?_
        refine OpsFrom.v (Doing.skip _ _ _ _ rfl rfl rfl rfl (dlt rfl (Nat.le_of_ble_eq_true rfl))) rfl ?_
        refine OpsFrom.v (Doing.skip _ _ _ _ rfl rfl rfl rfl (dlt rfl (Nat.le_of_ble_eq_true rfl))) rfl ?_
        refine OpsFrom.v (Y.pickT (up1 rfl rfl rfl rfl rfl rfl) rfl rfl rfl) rfl ?_
        refine OpsFrom.v (Y.move (up1 rfl rfl rfl rfl rfl rfl) rfl rfl) rfl ?_
        refine OpsFrom.v (Doing.skip _ _ _ _ rfl rfl rfl rfl (dlt rfl (Nat.le_of_ble_eq_true rfl))) rfl ?_
        refine OpsFrom.v (Doing.skip _ _ _ _ rfl rfl rfl rfl (dlt rfl (Nat.le_of_ble_eq_true rfl))) rfl ?_
        refine OpsFrom.v (Doing.skip _ _ _ _ rfl rfl rfl rfl (dlt rfl (Nat.le_of_ble_eq_true rfl))) rfl ?_
        refine OpsFrom.v (Y.pickT (up1 rfl rfl rfl rfl rfl rfl) rfl rfl rfl) rfl ?_
        refine OpsFrom.v (Y.pickT (up0 rfl rfl rfl) rfl rfl rfl) rfl ?_
        refine OpsFrom.v (Y.assign (up0 rfl rfl rfl) rfl rfl) rfl ?_
        refine OpsFrom.nil ?_
        refine Holds.ret ?_
        exact Holds.ret1 (.inl rfl) rfl (.tmp _ _ rfl) (.same _) rfl
    · refine Holds.dr mx [([63], [64]), ([64], [63]), ([65], []), ([66], []), ([67], [68, 69]), ([68], [67]), ([69], [67]), ([70], []), ([71], []), ([72], []), ([73], []), ([74], []), ([13], [])] (by kernel_rfl) ?_
      refine CertK.vd (Y.ldAll ty27 rfl (up0 rfl rfl rfl) rfl rfl rfl (by first | (with_reducible assumption) | omega | (simp only [lens, load_l, ratio_l, sqr_l, mul_l, add_len, neg_l, *]; first | done | omega) | decide | (split <;> simp only [lens, load_l, ratio_l, sqr_l, mul_l, add_len, neg_l, *]) | (with_reducible exact Lt.mono (by assumption) (by decide)) | (simp only [Cs.len]; done) | rfl) (by decide)) rfl rfl ?_
      refine CertK.vd (Y.ldAll ty27 rfl (up0 rfl rfl rfl) rfl rfl rfl (by first | (with_reducible assumption) | omega | (simp only [lens, load_l, ratio_l, sqr_l, mul_l, add_len, neg_l, *]; first | done | omega) | decide | (split <;> simp only [lens, load_l, ratio_l, sqr_l, mul_l, add_len, neg_l, *]) | (with_reducible exact Lt.mono (by assumption) (by decide)) | (simp only [Cs.len]; done) | rfl) (by decide)) rfl rfl ?_
      refine CertK.v (Doing.isB (c := false) hS1 (Y.callV (w_same _ _ (by first | (with_reducible assumption) | omega | (simp only [lens, load_l, ratio_l, sqr_l, mul_l, add_len, neg_l, *]; first | done | omega) | decide | (split <;> simp only [lens, load_l, ratio_l, sqr_l, mul_l, add_len, neg_l, *]) | (with_reducible exact Lt.mono (by assumption) (by decide)) | (simp only [Cs.len]; done) | rfl) (by first | (with_reducible assumption) | omega | (simp only [lens, load_l, ratio_l, sqr_l, mul_l, add_len, neg_l, *]; first | done | omega) | decide | (split <;> simp only [lens, load_l, ratio_l, sqr_l, mul_l, add_len, neg_l, *]) | (with_reducible exact Lt.mono (by assumption) (by decide)) | (simp only [Cs.len]; done) | rfl)) fnok21 (up0 rfl rfl rfl) rfl rfl (.cons _ _ _ _ rfl (.cons _ _ _ _ rfl .nil)) (.cons _ _ _ _ (.same _) (.cons _ _ _ _ (.same _) .nil)) rfl rfl)) rfl ?_
      refine CertK.v (Y.move (up0 rfl rfl rfl) rfl rfl) rfl ?_
      refine CertK.vd (Y.ldAll ty27 rfl (up1 rfl rfl rfl rfl rfl rfl) rfl rfl rfl (by first | (with_reducible assumption) | omega | (simp only [lens, load_l, ratio_l, sqr_l, mul_l, add_len, neg_l, *]; first | done | omega) | decide | (split <;> simp only [lens, load_l, ratio_l, sqr_l, mul_l, add_len, neg_l, *]) | (with_reducible exact Lt.mono (by assumption) (by decide)) | (simp only [Cs.len]; done) | rfl) (by decide)) rfl rfl ?_
      refine CertK.vd (Y.ldAll ty27 rfl (up1 rfl rfl rfl rfl rfl rfl) rfl rfl rfl (by first | (with_reducible assumption) | omega | (simp only [lens, load_l, ratio_l, sqr_l, mul_l, add_len, neg_l, *]; first | done | omega) | decide | (split <;> simp only [lens, load_l, ratio_l, sqr_l, mul_l, add_len, neg_l, *]) | (with_reducible exact Lt.mono (by assumption) (by decide)) | (simp only [Cs.len]; done) | rfl) (by decide)) rfl rfl ?_
      refine CertK.vd (Y.callV (w_neg _ (by first | (with_reducible assumption) | omega | (simp only [lens, load_l, ratio_l, sqr_l, mul_l, add_len, neg_l, *]; first | done | omega) | decide | (split <;> simp only [lens, load_l, ratio_l, sqr_l, mul_l, add_len, neg_l, *]) | (with_reducible exact Lt.mono (by assumption) (by decide)) | (simp only [Cs.len]; done) | rfl)) fnok31 (up1 rfl rfl rfl rfl rfl rfl) rfl rfl (.cons _ _ _ _ rfl .nil) (.cons _ _ _ _ (.same _) .nil) rfl rfl) rfl rfl ?_
      refine CertK.v (Doing.isB (c := false) hS2 (Y.callV (w_same _ _ (by first | (with_reducible assumption) | omega | (simp only [lens, load_l, ratio_l, sqr_l, mul_l, add_len, neg_l, *]; first | done | omega) | decide | (split <;> simp only [lens, load_l, ratio_l, sqr_l, mul_l, add_len, neg_l, *]) | (with_reducible exact Lt.mono (by assumption) (by decide)) | (simp only [Cs.len]; done) | rfl) (by first | (with_reducible assumption) | omega | (simp only [lens, load_l, ratio_l, sqr_l, mul_l, add_len, neg_l, *]; first | done | omega) | decide | (split <;> simp only [lens, load_l, ratio_l, sqr_l, mul_l, add_len, neg_l, *]) | (with_reducible exact Lt.mono (by assumption) (by decide)) | (simp only [Cs.len]; done) | rfl)) fnok21 (up1 rfl rfl rfl rfl rfl rfl) rfl rfl (.cons _ _ _ _ rfl (.cons _ _ _ _ rfl .nil)) (.cons _ _ _ _ (.same _) (.cons _ _ _ _ (.same _) .nil)) rfl rfl)) rfl ?_
      refine CertK.v (Y.pickF (up0 rfl rfl rfl) rfl rfl rfl) rfl ?_
      refine CertK.v (Y.move (up0 rfl rfl rfl) rfl rfl) rfl ?_
      refine CertK.v (Doing.isB (c := true) hZ (Y.move (up1 rfl rfl rfl rfl rfl rfl) rfl rfl)) rfl ?_
      refine CertK.v (Y.pickF (up0 rfl rfl rfl) rfl rfl rfl) rfl ?_
      refine CertK.v (Y.assign (up0 rfl rfl rfl) rfl rfl) rfl ?_
      refine CertK.nil ?_
      refine Holds.seq ?_
      refine Holds.dr mx [([76], [77, 79, 14]), ([77], [76, 79, 14]), ([78], [79, 14]), ([79], [76, 77, 78, 14]), ([80], [14]), ([75], [14]), ([81], [82, 14]), ([82], [81, 14]), ([14], [76, 77, 78, 79, 80, 75, 81, 82]), ([14], [82]), ([15], [])] (by kernel_rfl) ?_
      refine CertK.vd (Y.ldAll ty27 rfl (up0 rfl rfl rfl) rfl rfl rfl (by first | (with_reducible assumption) | omega | (simp only [lens, load_l, ratio_l, sqr_l, mul_l, add_len, neg_l, *]; first | done | omega) | decide | (split <;> simp only [lens, load_l, ratio_l, sqr_l, mul_l, add_len, neg_l, *]) | (with_reducible exact Lt.mono (by assumption) (by decide)) | (simp only [Cs.len]; done) | rfl) (by decide)) rfl rfl ?_
      refine CertK.vd (Y.ldAll ty27 rfl (up0 rfl rfl rfl) rfl rfl rfl (by first | (with_reducible assumption) | omega | (simp only [lens, load_l, ratio_l, sqr_l, mul_l, add_len, neg_l, *]; first | done | omega) | decide | (split <;> simp only [lens, load_l, ratio_l, sqr_l, mul_l, add_len, neg_l, *]) | (with_reducible exact Lt.mono (by assumption) (by decide)) | (simp only [Cs.len]; done) | rfl) (by decide)) rfl rfl ?_
      refine CertK.vd (Y.callV (w_add _ _ (by first | (with_reducible assumption) | omega | (simp only [lens, load_l, ratio_l, sqr_l, mul_l, add_len, neg_l, *]; first | done | omega) | decide | (split <;> simp only [lens, load_l, ratio_l, sqr_l, mul_l, add_len, neg_l, *]) | (with_reducible exact Lt.mono (by assumption) (by decide)) | (simp only [Cs.len]; done) | rfl) (by first | (with_reducible assumption) | omega | (simp only [lens, load_l, ratio_l, sqr_l, mul_l, add_len, neg_l, *]; first | done | omega) | decide | (split <;> simp only [lens, load_l, ratio_l, sqr_l, mul_l, add_len, neg_l, *]) | (with_reducible exact Lt.mono (by assumption) (by decide)) | (simp only [Cs.len]; done) | rfl)) fnok24 (up0 rfl rfl rfl) rfl rfl (.cons _ _ _ _ rfl (.cons _ _ _ _ rfl .nil)) (.cons _ _ _ _ (.same _) (.cons _ _ _ _ (.same _) .nil)) rfl rfl) rfl rfl ?_
      refine CertK.vd (Y.ldAll ty27 rfl (up0 rfl rfl rfl) rfl rfl rfl (by first | (with_reducible assumption) | omega | (simp only [lens, load_l, ratio_l, sqr_l, mul_l, add_len, neg_l, *]; first | done | omega) | decide | (split <;> simp only [lens, load_l, ratio_l, sqr_l, mul_l, add_len, neg_l, *]) | (with_reducible exact Lt.mono (by assumption) (by decide)) | (simp only [Cs.len]; done) | rfl) (by decide)) rfl rfl ?_
      refine CertK.vd (Y.callV (w_ratio _ _ (by first | (with_reducible assumption) | omega | (simp only [lens, load_l, ratio_l, sqr_l, mul_l, add_len, neg_l, *]; first | done | omega) | decide | (split <;> simp only [lens, load_l, ratio_l, sqr_l, mul_l, add_len, neg_l, *]) | (with_reducible exact Lt.mono (by assumption) (by decide)) | (simp only [Cs.len]; done) | rfl) (by first | (with_reducible assumption) | omega | (simp only [lens, load_l, ratio_l, sqr_l, mul_l, add_len, neg_l, *]; first | done | omega) | decide | (split <;> simp only [lens, load_l, ratio_l, sqr_l, mul_l, add_len, neg_l, *]) | (with_reducible exact Lt.mono (by assumption) (by decide)) | (simp only [Cs.len]; done) | rfl)) fnok32 (up0 rfl rfl rfl) rfl rfl (.cons _ _ _ _ rfl (.cons _ _ _ _ rfl .nil)) (.cons _ _ _ _ (.same _) (.cons _ _ _ _ (.same _) .nil)) rfl rfl) rfl rfl ?_
      refine CertK.vd (Y.move (up0 rfl rfl rfl) rfl rfl) rfl rfl ?_
      refine CertK.vd (Y.ext0 (up0 rfl rfl rfl) rfl rfl) rfl rfl ?_
      refine CertK.vd (Y.ext1 (up0 rfl rfl rfl) rfl rfl) rfl rfl ?_
      refine CertK.u (Y.alloc (d := 14) ty27 rfl rfl (up0 rfl rfl rfl) rfl) rfl rfl rfl rfl rfl ?_
      refine CertK.n (Y.stR ty27 (upN rfl rfl) rfl rfl rfl rfl rfl (by first | (with_reducible assumption) | omega | (simp only [lens, load_l, ratio_l, sqr_l, mul_l, add_len, neg_l, *]; first | done | omega) | decide | (split <;> simp only [lens, load_l, ratio_l, sqr_l, mul_l, add_len, neg_l, *]) | (with_reducible exact Lt.mono (by assumption) (by decide)) | (simp only [Cs.len]; done) | rfl) (by first | (with_reducible assumption) | omega | (simp only [lens, load_l, ratio_l, sqr_l, mul_l, add_len, neg_l, *]; first | done | omega) | decide | (split <;> simp only [lens, load_l, ratio_l, sqr_l, mul_l, add_len, neg_l, *]) | (with_reducible exact Lt.mono (by assumption) (by decide)) | (simp only [Cs.len]; done) | rfl) (by decide)) rfl rfl rfl rfl ?_
      refine CertK.v (Y.assign (up0 rfl rfl rfl) rfl rfl) rfl ?_
      refine CertK.nil ?_
      refine Holds.seq ?_
      rcases bool_fc ((ratio (add (load a) (load a)) (load b)).2) with hT | hT
      · refine Holds.reg ?_
        refine OpsFrom.v (Y.move (up0 rfl rfl rfl) rfl rfl) rfl ?_
        refine OpsFrom.v (Y.move (up0 rfl rfl rfl) rfl rfl) rfl ?_
        refine OpsFrom.v (Doing.isB (c := true) (ro_also l_a l_b ba bb) (Y.move (up1 rfl rfl rfl rfl rfl rfl) rfl rfl)) rfl ?_
        refine OpsFrom.v (Y.pickT (up0 rfl rfl rfl) rfl rfl rfl) rfl ?_
        refine OpsFrom.v (Y.move (up0 rfl rfl rfl) rfl rfl) rfl ?_
        refine OpsFrom.v (Y.move (up1 rfl rfl rfl rfl rfl rfl) rfl rfl) rfl ?_
        refine OpsFrom.v (Y.pickT (up0 rfl rfl rfl) rfl rfl rfl) rfl ?_
        refine OpsFrom.v (Y.move (up0 rfl rfl rfl) rfl rfl) rfl ?_
        refine OpsFrom.v (Doing.isB (c := false) hI (Y.move (up1 rfl rfl rfl rfl rfl rfl) rfl rfl)) rfl ?_
        refine OpsFrom.v (Y.move (up1 rfl rfl rfl rfl rfl rfl) rfl rfl) rfl ?_
        refine OpsFrom.v (Doing.isB (c := false) hT (Y.move (up1 rfl rfl rfl rfl rfl rfl) rfl rfl)) rfl ?_
        refine OpsFrom.v (Y.pickF (up1 rfl rfl rfl rfl rfl rfl) rfl rfl rfl) rfl ?_
        refine OpsFrom.v (Y.move (up1 rfl rfl rfl rfl rfl rfl) rfl rfl) rfl ?_
        refine OpsFrom.v (Doing.isB (c := true) (ro_three l_a l_b ba bb hI hT) (Y.move (up1 rfl rfl rfl rfl rfl rfl) rfl rfl)) rfl ?_
        refine OpsFrom.v (Y.pickF (up1 rfl rfl rfl rfl rfl rfl) rfl rfl rfl) rfl ?_
        refine OpsFrom.v (Y.pickT (up0 rfl rfl rfl) rfl rfl rfl) rfl ?_
        refine OpsFrom.v (Y.move (up0 rfl rfl rfl) rfl rfl) rfl ?_
        refine OpsFrom.v (Doing.isB (c := false) hI (Y.move (up1 rfl rfl rfl rfl rfl rfl) rfl rfl)) rfl ?_
        refine OpsFrom.v (Doing.isB (c := true) (show (!false) = true from rfl) (Y.not (up1 rfl rfl rfl rfl rfl rfl) rfl rfl)) rfl ?_
        refine OpsFrom.v (Y.move (up1 rfl rfl rfl rfl rfl rfl) rfl rfl) rfl ?_
        refine OpsFrom.v (Doing.skip _ _ _ _ rfl rfl rfl rfl (dlt rfl (Nat.le_of_ble_eq_true rfl))) rfl ?_
        refine OpsFrom.v (Doing.skip _ _ _ _ rfl rfl rfl rfl (dlt rfl (Nat.le_of_ble_eq_true rfl))) rfl ?_
        refine OpsFrom.v (Y.pickT (up1 rfl rfl rfl rfl rfl rfl) rfl rfl rfl) rfl ?_
        refine OpsFrom.v (Y.move (up1 rfl rfl rfl rfl rfl rfl) rfl rfl) rfl ?_
        refine OpsFrom.v (Doing.skip _ _ _ _ rfl rfl rfl rfl (dlt rfl (Nat.le_of_ble_eq_true rfl))) rfl ?_
        refine OpsFrom.v (Doing.skip _ _ _ _ rfl rfl rfl rfl (dlt rfl (Nat.le_of_ble_eq_true rfl))) rfl ?_
        refine OpsFrom.v (Doing.skip _ _ _ _ rfl rfl rfl rfl (dlt rfl (Nat.le_of_ble_eq_true rfl))) rfl ?_
        refine OpsFrom.v (Y.pickT (up1 rfl rfl rfl rfl rfl rfl) rfl rfl rfl) rfl ?_
        refine OpsFrom.v (Y.pickT (up0 rfl rfl rfl) rfl rfl rfl) rfl ?_
        refine OpsFrom.v (Y.assign (up0 rfl rfl rfl) rfl rfl) rfl ?_
        refine OpsFrom.nil ?_
        refine Holds.ret ?_
        exact Holds.ret1 (.inl rfl) rfl (.tmp _ _ rfl) (.same _) rfl
      · refine Holds.reg ?_
        refine OpsFrom.v (Y.move (up0 rfl rfl rfl) rfl rfl) rfl ?_
        refine OpsFrom.v (Y.move (up0 rfl rfl rfl) rfl rfl) rfl ?_
        refine OpsFrom.v (Doing.isB (c := true) (ro_also l_a l_b ba bb) (Y.move (up1 rfl rfl rfl rfl rfl rfl) rfl rfl)) rfl ?_
        refine OpsFrom.v (Y.pickT (up0 rfl rfl rfl) rfl rfl rfl) rfl ?_
        refine OpsFrom.v (Y.move (up0 rfl rfl rfl) rfl rfl) rfl ?_
        refine OpsFrom.v (Y.move (up1 rfl rfl rfl rfl rfl rfl) rfl rfl) rfl ?_
        refine OpsFrom.v (Y.pickT (up0 rfl rfl rfl) rfl rfl rfl) rfl ?_
        refine OpsFrom.v (Y.move (up0 rfl rfl rfl) rfl rfl) rfl ?_
        refine OpsFrom.v (Doing.isB (c := false) hI (Y.move (up1 rfl rfl rfl rfl rfl rfl) rfl rfl)) rfl ?_
        refine OpsFrom.v (Y.move (up1 rfl rfl rfl rfl rfl rfl) rfl rfl) rfl ?_
        refine OpsFrom.v (Doing.isB (c := true) hT (Y.move (up1 rfl rfl rfl rfl rfl rfl) rfl rfl)) rfl ?_
        refine OpsFrom.v (Y.pickF (up1 rfl rfl rfl rfl rfl rfl) rfl rfl rfl) rfl ?_
        refine OpsFrom.v (Y.move (up1 rfl rfl rfl rfl rfl rfl) rfl rfl) rfl ?_
        refine OpsFrom.v (Doing.skip _ _ _ _ rfl rfl rfl rfl (dlt rfl (Nat.le_of_ble_eq_true rfl))) rfl ?_
        refine OpsFrom.v (Y.pickT (up1 rfl rfl rfl rfl rfl rfl) rfl rfl rfl) rfl ?_
        refine OpsFrom.v (Y.pickT (up0 rfl rfl rfl) rfl rfl rfl) rfl ?_
        refine OpsFrom.v (Y.move (up0 rfl rfl rfl) rfl rfl) rfl ?_
        refine OpsFrom.v (Doing.isB (c := false) hI (Y.move (up1 rfl rfl rfl rfl rfl rfl) rfl rfl)) rfl ?_
        refine OpsFrom.v (Doing.isB (c := true) (show (!false) = true from rfl) (Y.not (up1 rfl rfl rfl rfl rfl rfl) rfl rfl)) rfl ?_
        refine OpsFrom.v (Y.move (up1 rfl rfl rfl rfl rfl rfl) rfl rfl) rfl ?_
        refine OpsFrom.v (Doing.skip _ _ _ _ rfl rfl rfl rfl (dlt rfl (Nat.le_of_ble_eq_true rfl))) rfl ?_
        refine OpsFrom.v (Doing.skip _ _ _ _ rfl rfl rfl rfl (dlt rfl (Nat.le_of_ble_eq_true rfl))) rfl ?_
        refine OpsFrom.v (Y.pickT (up1 rfl rfl rfl rfl rfl rfl) rfl rfl rfl) rfl ?_
        refine OpsFrom.v (Y.move (up1 rfl rfl rfl rfl rfl rfl) rfl rfl) rfl ?_
        refine OpsFrom.v (Doing.skip _ _ _ _ rfl rfl rfl rfl (dlt rfl (Nat.le_of_ble_eq_true rfl))) rfl ?_
        refine OpsFrom.v (Doing.skip _ _ _ _ rfl rfl rfl rfl (dlt rfl (Nat.le_of_ble_eq_true rfl))) rfl ?_
        refine OpsFrom.v (Doing.skip _ _ _ _ rfl rfl rfl rfl (dlt rfl (Nat.le_of_ble_eq_true rfl))) rfl ?_
        refine OpsFrom.v (Y.pickT (up1 rfl rfl rfl rfl rfl rfl) rfl rfl rfl) rfl ?_
        refine OpsFrom.v (Y.pickT (up0 rfl rfl rfl) rfl rfl rfl) rfl ?_
        refine OpsFrom.v (Y.assign (up0 rfl rfl rfl) rfl rfl) rfl ?_
        refine OpsFrom.nil ?_
        refine Holds.ret ?_
        exact Holds.ret1 (.inl rfl) rfl (.tmp _ _ rfl) (.same _) rfl
  · refine Holds.dr mx [([27], []), ([28], []), ([29], []), ([30], []), ([31], []), ([32], [33, 34, 36]), ([33], [32, 36]), ([34], [32, 36]), ([35], [36]), ([36], [32, 33, 34, 35]), ([37], []), ([38], []), ([39], []), ([40], []), ([41], []), ([42], []), ([43], []), ([44], []), ([45], [46]), ([46], [45]), ([47], []), ([48], []), ([49], []), ([50], [])] (by kernel_rfl) ?_
    refine CertK.v (Doing.isB (c := true) hI (Y.move (up0 rfl rfl rfl) rfl rfl)) rfl ?_
    refine CertK.v (Y.move (up0 rfl rfl rfl) rfl rfl) rfl ?_
    refine CertK.v (Y.ldAll ty27 rfl (up1 rfl rfl rfl rfl rfl rfl) rfl rfl rfl (by first | (with_reducible assumption) | omega | (simp only [lens, load_l, ratio_l, sqr_l, mul_l, add_len, neg_l, *]; first | done | omega) | decide | (split <;> simp only [lens, load_l, ratio_l, sqr_l, mul_l, add_len, neg_l, *]) | (with_reducible exact Lt.mono (by assumption) (by decide)) | (simp only [Cs.len]; done) | rfl) (by decide)) rfl ?_
    refine CertK.v (Doing.isB (c := false) (ro_even l_a l_b ba bb) (Y.callV (w_odd _ (by first | (with_reducible assumption) | omega | (simp only [lens, load_l, ratio_l, sqr_l, mul_l, add_len, neg_l, *]; first | done | omega) | decide | (split <;> simp only [lens, load_l, ratio_l, sqr_l, mul_l, add_len, neg_l, *]) | (with_reducible exact Lt.mono (by assumption) (by decide)) | (simp only [Cs.len]; done) | rfl)) fnok20 (up1 rfl rfl rfl rfl rfl rfl) rfl rfl (.cons _ _ _ _ rfl .nil) (.cons _ _ _ _ (.same _) .nil) rfl rfl)) rfl ?_
    refine CertK.v (Y.move (up1 rfl rfl rfl rfl rfl rfl) rfl rfl) rfl ?_
    refine CertK.vd (Y.ldAll ty27 rfl (up1 rfl rfl rfl rfl rfl rfl) rfl rfl rfl (by first | (with_reducible assumption) | omega | (simp only [lens, load_l, ratio_l, sqr_l, mul_l, add_len, neg_l, *]; first | done | omega) | decide | (split <;> simp only [lens, load_l, ratio_l, sqr_l, mul_l, add_len, neg_l, *]) | (with_reducible exact Lt.mono (by assumption) (by decide)) | (simp only [Cs.len]; done) | rfl) (by decide)) rfl rfl ?_
    refine CertK.vd (Y.ldAll ty27 rfl (up1 rfl rfl rfl rfl rfl rfl) rfl rfl rfl (by first | (with_reducible assumption) | omega | (simp only [lens, load_l, ratio_l, sqr_l, mul_l, add_len, neg_l, *]; first | done | omega) | decide | (split <;> simp only [lens, load_l, ratio_l, sqr_l, mul_l, add_len, neg_l, *]) | (with_reducible exact Lt.mono (by assumption) (by decide)) | (simp only [Cs.len]; done) | rfl) (by decide)) rfl rfl ?_
    refine CertK.vd (Y.callV (w_sqr _ (by first | (with_reducible assumption) | omega | (simp only [lens, load_l, ratio_l, sqr_l, mul_l, add_len, neg_l, *]; first | done | omega) | decide | (split <;> simp only [lens, load_l, ratio_l, sqr_l, mul_l, add_len, neg_l, *]) | (with_reducible exact Lt.mono (by assumption) (by decide)) | (simp only [Cs.len]; done) | rfl)) fnok30 (up1 rfl rfl rfl rfl rfl rfl) rfl rfl (.cons _ _ _ _ rfl .nil) (.cons _ _ _ _ (.same _) .nil) rfl rfl) rfl rfl ?_
    refine CertK.vd (Y.callV (w_mul _ _ (by first | (with_reducible assumption) | omega | (simp only [lens, load_l, ratio_l, sqr_l, mul_l, add_len, neg_l, *]; first | done | omega) | decide | (split <;> simp only [lens, load_l, ratio_l, sqr_l, mul_l, add_len, neg_l, *]) | (with_reducible exact Lt.mono (by assumption) (by decide)) | (simp only [Cs.len]; done) | rfl) (by first | (with_reducible assumption) | omega | (simp only [lens, load_l, ratio_l, sqr_l, mul_l, add_len, neg_l, *]; first | done | omega) | decide | (split <;> simp only [lens, load_l, ratio_l, sqr_l, mul_l, add_len, neg_l, *]) | (with_reducible exact Lt.mono (by assumption) (by decide)) | (simp only [Cs.len]; done) | rfl)) fnok28 (up1 rfl rfl rfl rfl rfl rfl) rfl rfl (.cons _ _ _ _ rfl (.cons _ _ _ _ rfl .nil)) (.cons _ _ _ _ (.same _) (.cons _ _ _ _ (.same _) .nil)) rfl rfl) rfl rfl ?_
    refine CertK.vd (Y.ldAll ty27 rfl (up1 rfl rfl rfl rfl rfl rfl) rfl rfl rfl (by first | (with_reducible assumption) | omega | (simp only [lens, load_l, ratio_l, sqr_l, mul_l, add_len, neg_l, *]; first | done | omega) | decide | (split <;> simp only [lens, load_l, ratio_l, sqr_l, mul_l, add_len, neg_l, *]) | (with_reducible exact Lt.mono (by assumption) (by decide)) | (simp only [Cs.len]; done) | rfl) (by decide)) rfl rfl ?_
    refine CertK.v (Doing.isB (c := true) (ro_sq l_a l_b ba bb hI) (Y.callV (w_same _ _ (by first | (with_reducible assumption) | omega | (simp only [lens, load_l, ratio_l, sqr_l, mul_l, add_len, neg_l, *]; first | done | omega) | decide | (split <;> simp only [lens, load_l, ratio_l, sqr_l, mul_l, add_len, neg_l, *]) | (with_reducible exact Lt.mono (by assumption) (by decide)) | (simp only [Cs.len]; done) | rfl) (by first | (with_reducible assumption) | omega | (simp only [lens, load_l, ratio_l, sqr_l, mul_l, add_len, neg_l, *]; first | done | omega) | decide | (split <;> simp only [lens, load_l, ratio_l, sqr_l, mul_l, add_len, neg_l, *]) | (with_reducible exact Lt.mono (by assumption) (by decide)) | (simp only [Cs.len]; done) | rfl)) fnok21 (up1 rfl rfl rfl rfl rfl rfl) rfl rfl (.cons _ _ _ _ rfl (.cons _ _ _ _ rfl .nil)) (.cons _ _ _ _ (.same _) (.cons _ _ _ _ (.same _) .nil)) rfl rfl)) rfl ?_
    refine CertK.v (Doing.isB (c := false) (show (!true) = false from rfl) (Y.not (up1 rfl rfl rfl rfl rfl rfl) rfl rfl)) rfl ?_
    refine CertK.v (Y.pickF (up1 rfl rfl rfl rfl rfl rfl) rfl rfl rfl) rfl ?_
    refine CertK.v (Y.pickT (up0 rfl rfl rfl) rfl rfl rfl) rfl ?_
    refine CertK.v (Y.move (up0 rfl rfl rfl) rfl rfl) rfl ?_
    refine CertK.v (Doing.isB (c := true) hI (Y.move (up1 rfl rfl rfl rfl rfl rfl) rfl rfl)) rfl ?_
    refine CertK.v (Doing.isB (c := false) (show (!true) = false from rfl) (Y.not (up1 rfl rfl rfl rfl rfl rfl) rfl rfl)) rfl ?_
    refine CertK.v (Y.move (up1 rfl rfl rfl rfl rfl rfl) rfl rfl) rfl ?_
    refine CertK.vd (Doing.skip _ _ _ _ rfl rfl rfl rfl (dlt rfl (Nat.le_of_ble_eq_true rfl))) rfl rfl ?_
    refine CertK.vd (Doing.skip _ _ _ _ rfl rfl rfl rfl (dlt rfl (Nat.le_of_ble_eq_true rfl))) rfl rfl ?_
    refine CertK.v (Doing.skip _ _ _ _ rfl rfl rfl rfl (dlt rfl (Nat.le_of_ble_eq_true rfl))) rfl ?_
    refine CertK.v (Doing.skip _ _ _ _ rfl rfl rfl rfl (dlt rfl (Nat.le_of_ble_eq_true rfl))) rfl ?_
    refine CertK.v (Y.pickF (up1 rfl rfl rfl rfl rfl rfl) rfl rfl rfl) rfl ?_
    refine CertK.v (Y.pickF (up0 rfl rfl rfl) rfl rfl rfl) rfl ?_
    refine CertK.nil ?_
    refine Holds.condF rfl ?_
    refine Holds.skip ?_
    refine Holds.seq ?_
    refine Holds.dr mx [([52], [54, 56, 10]), ([53], [54, 56, 10]), ([54], [52, 53, 56, 10]), ([55], [56, 10]), ([56], [52, 53, 54, 55, 10]), ([57], [10]), ([51], [10]), ([58], [59, 10]), ([59], [58, 10]), ([10], [52, 53, 54, 55, 56, 57, 51, 58, 59]), ([10], [59]), ([11], [])] (by kernel_rfl) ?_
    refine CertK.vd (Y.ldAll ty27 rfl (up0 rfl rfl rfl) rfl rfl rfl (by first | (with_reducible assumption) | omega | (simp only [lens, load_l, ratio_l, sqr_l, mul_l, add_len, neg_l, *]; first | done | omega) | decide | (split <;> simp only [lens, load_l, ratio_l, sqr_l, mul_l, add_len, neg_l, *]) | (with_reducible exact Lt.mono (by assumption) (by decide)) | (simp only [Cs.len]; done) | rfl) (by decide)) rfl rfl ?_
    refine CertK.vd (Y.callV (w_sqr _ (by first | (with_reducible assumption) | omega | (simp only [lens, load_l, ratio_l, sqr_l, mul_l, add_len, neg_l, *]; first | done | omega) | decide | (split <;> simp only [lens, load_l, ratio_l, sqr_l, mul_l, add_len, neg_l, *]) | (with_reducible exact Lt.mono (by assumption) (by decide)) | (simp only [Cs.len]; done) | rfl)) fnok30 (up0 rfl rfl rfl) rfl rfl (.cons _ _ _ _ rfl .nil) (.cons _ _ _ _ (.same _) .nil) rfl rfl) rfl rfl ?_
    refine CertK.vd (Y.ldAll ty27 rfl (up0 rfl rfl rfl) rfl rfl rfl (by first | (with_reducible assumption) | omega | (simp only [lens, load_l, ratio_l, sqr_l, mul_l, add_len, neg_l, *]; first | done | omega) | decide | (split <;> simp only [lens, load_l, ratio_l, sqr_l, mul_l, add_len, neg_l, *]) | (with_reducible exact Lt.mono (by assumption) (by decide)) | (simp only [Cs.len]; done) | rfl) (by decide)) rfl rfl ?_
    refine CertK.vd (Y.callV (w_mul _ _ (by first | (with_reducible assumption) | omega | (simp only [lens, load_l, ratio_l, sqr_l, mul_l, add_len, neg_l, *]; first | done | omega) | decide | (split <;> simp only [lens, load_l, ratio_l, sqr_l, mul_l, add_len, neg_l, *]) | (with_reducible exact Lt.mono (by assumption) (by decide)) | (simp only [Cs.len]; done) | rfl) (by first | (with_reducible assumption) | omega | (simp only [lens, load_l, ratio_l, sqr_l, mul_l, add_len, neg_l, *]; first | done | omega) | decide | (split <;> simp only [lens, load_l, ratio_l, sqr_l, mul_l, add_len, neg_l, *]) | (with_reducible exact Lt.mono (by assumption) (by decide)) | (simp only [Cs.len]; done) | rfl)) fnok28 (up0 rfl rfl rfl) rfl rfl (.cons _ _ _ _ rfl (.cons _ _ _ _ rfl .nil)) (.cons _ _ _ _ (.same _) (.cons _ _ _ _ (.same _) .nil)) rfl rfl) rfl rfl ?_
    refine CertK.vd (Y.ldAll ty27 rfl (up0 rfl rfl rfl) rfl rfl rfl (by first | (with_reducible assumption) | omega | (simp only [lens, load_l, ratio_l, sqr_l, mul_l, add_len, neg_l, *]; first | done | omega) | decide | (split <;> simp only [lens, load_l, ratio_l, sqr_l, mul_l, add_len, neg_l, *]) | (with_reducible exact Lt.mono (by assumption) (by decide)) | (simp only [Cs.len]; done) | rfl) (by decide)) rfl rfl ?_
    refine CertK.vd (Y.callV (w_ratio _ _ (by first | (with_reducible assumption) | omega | (simp only [lens, load_l, ratio_l, sqr_l, mul_l, add_len, neg_l, *]; first | done | omega) | decide | (split <;> simp only [lens, load_l, ratio_l, sqr_l, mul_l, add_len, neg_l, *]) | (with_reducible exact Lt.mono (by assumption) (by decide)) | (simp only [Cs.len]; done) | rfl) (by first | (with_reducible assumption) | omega | (simp only [lens, load_l, ratio_l, sqr_l, mul_l, add_len, neg_l, *]; first | done | omega) | decide | (split <;> simp only [lens, load_l, ratio_l, sqr_l, mul_l, add_len, neg_l, *]) | (with_reducible exact Lt.mono (by assumption) (by decide)) | (simp only [Cs.len]; done) | rfl)) fnok32 (up0 rfl rfl rfl) rfl rfl (.cons _ _ _ _ rfl (.cons _ _ _ _ rfl .nil)) (.cons _ _ _ _ (.same _) (.cons _ _ _ _ (.same _) .nil)) rfl rfl) rfl rfl ?_
    refine CertK.vd (Y.move (up0 rfl rfl rfl) rfl rfl) rfl rfl ?_
    refine CertK.vd (Y.ext0 (up0 rfl rfl rfl) rfl rfl) rfl rfl ?_
    refine CertK.vd (Y.ext1 (up0 rfl rfl rfl) rfl rfl) rfl rfl ?_
    refine CertK.u (Y.alloc (d := 10) ty27 rfl rfl (up0 rfl rfl rfl) rfl) rfl rfl rfl rfl rfl ?_
    refine CertK.n (Y.stR ty27 (upN rfl rfl) rfl rfl rfl rfl rfl (by first | (with_reducible assumption) | omega | (simp only [lens, load_l, ratio_l, sqr_l, mul_l, add_len, neg_l, *]; first | done | omega) | decide | (split <;> simp only [lens, load_l, ratio_l, sqr_l, mul_l, add_len, neg_l, *]) | (with_reducible exact Lt.mono (by assumption) (by decide)) | (simp only [Cs.len]; done) | rfl) (by first | (with_reducible assumption) | omega | (simp only [lens, load_l, ratio_l, sqr_l, mul_l, add_len, neg_l, *]; first | done | omega) | decide | (split <;> simp only [lens, load_l, ratio_l, sqr_l, mul_l, add_len, neg_l, *]) | (with_reducible exact Lt.mono (by assumption) (by decide)) | (simp only [Cs.len]; done) | rfl) (by decide)) rfl rfl rfl rfl ?_
    refine CertK.v (Y.assign (up0 rfl rfl rfl) rfl rfl) rfl ?_
    refine CertK.nil ?_
    refine Holds.seq ?_
    refine Holds.reg ?_
    refine OpsFrom.v (Y.ldAll ty27 rfl (up0 rfl rfl rfl) rfl rfl rfl (by first | (with_reducible assumption) | omega | (simp only [lens, load_l, ratio_l, sqr_l, mul_l, add_len, neg_l, *]; first | done | omega) | decide | (split <;> simp only [lens, load_l, ratio_l, sqr_l, mul_l, add_len, neg_l, *]) | (with_reducible exact Lt.mono (by assumption) (by decide)) | (simp only [Cs.len]; done) | rfl) (by decide)) rfl ?_
    refine OpsFrom.v (Y.buildT [(0, 5)] ty27 rfl (by kernel_rfl) (up0 rfl rfl rfl) rfl (.nil _)) rfl ?_
    refine OpsFrom.v (Y.callV (w_same _ _ (by first | (with_reducible assumption) | omega | (simp only [lens, load_l, ratio_l, sqr_l, mul_l, add_len, neg_l, *]; first | done | omega) | decide | (split <;> simp only [lens, load_l, ratio_l, sqr_l, mul_l, add_len, neg_l, *]) | (with_reducible exact Lt.mono (by assumption) (by decide)) | (simp only [Cs.len]; done) | rfl) (by first | (with_reducible assumption) | omega | (simp only [lens, load_l, ratio_l, sqr_l, mul_l, add_len, neg_l, *]; first | done | omega) | decide | (split <;> simp only [lens, load_l, ratio_l, sqr_l, mul_l, add_len, neg_l, *]) | (with_reducible exact Lt.mono (by assumption) (by decide)) | (simp only [Cs.len]; done) | rfl)) fnok21 (up0 rfl rfl rfl) rfl rfl (.cons _ _ _ _ rfl (.cons _ _ _ _ rfl .nil)) (.cons _ _ _ _ (.same _) (.cons _ _ _ _ (.same _) .nil)) rfl rfl) rfl ?_
    refine OpsFrom.v (Y.assign (up0 rfl rfl rfl) rfl rfl) rfl ?_
    refine OpsFrom.nil ?_
    refine Holds.seq ?_
    rcases ro_back l_a l_b ba bb with hS1 | ⟨hS1, hS2⟩ | ⟨hS1, hS2, hZ⟩
    · refine Holds.dr mx [([63], [64]), ([64], [63]), ([65], []), ([66], []), ([67], [68, 69]), ([68], [67]), ([69], [67]), ([70], []), ([71], []), ([72], []), ([73], []), ([74], []), ([13], [])] (by kernel_rfl) ?_
      refine CertK.vd (Y.ldAll ty27 rfl (up0 rfl rfl rfl) rfl rfl rfl (by first | (with_reducible assumption) | omega | (simp only [lens, load_l, ratio_l, sqr_l, mul_l, add_len, neg_l, *]; first | done | omega) | decide | (split <;> simp only [lens, load_l, ratio_l, sqr_l, mul_l, add_len, neg_l, *]) | (with_reducible exact Lt.mono (by assumption) (by decide)) | (simp only [Cs.len]; done) | rfl) (by decide)) rfl rfl ?_
      refine CertK.vd (Y.ldAll ty27 rfl (up0 rfl rfl rfl) rfl rfl rfl (by first | (with_reducible assumption) | omega | (simp only [lens, load_l, ratio_l, sqr_l, mul_l, add_len, neg_l, *]; first | done | omega) | decide | (split <;> simp only [lens, load_l, ratio_l, sqr_l, mul_l, add_len, neg_l, *]) | (with_reducible exact Lt.mono (by assumption) (by decide)) | (simp only [Cs.len]; done) | rfl) (by decide)) rfl rfl ?_
      refine CertK.v (Doing.isB (c := true) hS1 (Y.callV (w_same _ _ (by first | (with_reducible assumption) | omega | (simp only [lens, load_l, ratio_l, sqr_l, mul_l, add_len, neg_l, *]; first | done | omega) | decide | (split <;> simp only [lens, load_l, ratio_l, sqr_l, mul_l, add_len, neg_l, *]) | (with_reducible exact Lt.mono (by assumption) (by decide)) | (simp only [Cs.len]; done) | rfl) (by first | (with_reducible assumption) | omega | (simp only [lens, load_l, ratio_l, sqr_l, mul_l, add_len, neg_l, *]; first | done | omega) | decide | (split <;> simp only [lens, load_l, ratio_l, sqr_l, mul_l, add_len, neg_l, *]) | (with_reducible exact Lt.mono (by assumption) (by decide)) | (simp only [Cs.len]; done) | rfl)) fnok21 (up0 rfl rfl rfl) rfl rfl (.cons _ _ _ _ rfl (.cons _ _ _ _ rfl .nil)) (.cons _ _ _ _ (.same _) (.cons _ _ _ _ (.same _) .nil)) rfl rfl)) rfl ?_
      refine CertK.v (Y.move (up0 rfl rfl rfl) rfl rfl) rfl ?_
      refine CertK.vd (Doing.skip _ _ _ _ rfl rfl rfl rfl (dlt rfl (Nat.le_of_ble_eq_true rfl))) rfl rfl ?_
      refine CertK.vd (Doing.skip _ _ _ _ rfl rfl rfl rfl (dlt rfl (Nat.le_of_ble_eq_true rfl))) rfl rfl ?_
      refine CertK.vd (Doing.skip _ _ _ _ rfl rfl rfl rfl (dlt rfl (Nat.le_of_ble_eq_true rfl))) rfl rfl ?_
      refine CertK.v (Doing.skip _ _ _ _ rfl rfl rfl rfl (dlt rfl (Nat.le_of_ble_eq_true rfl))) rfl ?_
      refine CertK.v (Y.pickT (up0 rfl rfl rfl) rfl rfl rfl) rfl ?_
      refine CertK.v (Y.move (up0 rfl rfl rfl) rfl rfl) rfl ?_
      refine CertK.v (Doing.skip _ _ _ _ rfl rfl rfl rfl (dlt rfl (Nat.le_of_ble_eq_true rfl))) rfl ?_
      refine CertK.v (Y.pickT (up0 rfl rfl rfl) rfl rfl rfl) rfl ?_
      refine CertK.v (Y.assign (up0 rfl rfl rfl) rfl rfl) rfl ?_
      refine CertK.nil ?_
      refine Holds.seq ?_
      refine Holds.dr mx [([76], [77, 79, 14]), ([77], [76, 79, 14]), ([78], [79, 14]), ([79], [76, 77, 78, 14]), ([80], [14]), ([75], [14]), ([81], [82, 14]), ([82], [81, 14]), ([14], [76, 77, 78, 79, 80, 75, 81, 82]), ([14], [82]), ([15], [])] (by kernel_rfl) ?_
      refine CertK.vd (Y.ldAll ty27 rfl (up0 rfl rfl rfl) rfl rfl rfl (by first | (with_reducible assumption) | omega | (simp only [lens, load_l, ratio_l, sqr_l, mul_l, add_len, neg_l, *]; first | done | omega) | decide | (split <;> simp only [lens, load_l, ratio_l, sqr_l, mul_l, add_len, neg_l, *]) | (with_reducible exact Lt.mono (by assumption) (by decide)) | (simp only [Cs.len]; done) | rfl) (by decide)) rfl rfl ?_
      refine CertK.vd (Y.ldAll ty27 rfl (up0 rfl rfl rfl) rfl rfl rfl (by first | (with_reducible assumption) | omega | (simp only [lens, load_l, ratio_l, sqr_l, mul_l, add_len, neg_l, *]; first | done | omega) | decide | (split <;> simp only [lens, load_l, ratio_l, sqr_l, mul_l, add_len, neg_l, *]) | (with_reducible exact Lt.mono (by assumption) (by decide)) | (simp only [Cs.len]; done) | rfl) (by decide)) rfl rfl ?_
      refine CertK.vd (Y.callV (w_add _ _ (by first | (with_reducible assumption) | omega | (simp only [lens, load_l, ratio_l, sqr_l, mul_l, add_len, neg_l, *]; first | done | omega) | decide | (split <;> simp only [lens, load_l, ratio_l, sqr_l, mul_l, add_len, neg_l, *]) | (with_reducible exact Lt.mono (by assumption) (by decide)) | (simp only [Cs.len]; done) | rfl) (by first | (with_reducible assumption) | omega | (simp only [lens, load_l, ratio_l, sqr_l, mul_l, add_len, neg_l, *]; first | done | omega) | decide | (split <;> simp only [lens, load_l, ratio_l, sqr_l, mul_l, add_len, neg_l, *]) | (with_reducible exact Lt.mono (by assumption) (by decide)) | (simp only [Cs.len]; done) | rfl)) fnok24 (up0 rfl rfl rfl) rfl rfl (.cons _ _ _ _ rfl (.cons _ _ _ _ rfl .nil)) (.cons _ _ _ _ (.same _) (.cons _ _ _ _ (.same _) .nil)) rfl rfl) rfl rfl ?_
      refine CertK.vd (Y.ldAll ty27 rfl (up0 rfl rfl rfl) rfl rfl rfl (by first | (with_reducible assumption) | omega | (simp only [lens, load_l, ratio_l, sqr_l, mul_l, add_len, neg_l, *]; first | done | omega) | decide | (split <;> simp only [lens, load_l, ratio_l, sqr_l, mul_l, add_len, neg_l, *]) | (with_reducible exact Lt.mono (by assumption) (by decide)) | (simp only [Cs.len]; done) | rfl) (by decide)) rfl rfl ?_
      refine CertK.vd (Y.callV (w_ratio _ _ (by first | (with_reducible assumption) | omega | (simp only [lens, load_l, ratio_l, sqr_l, mul_l, add_len, neg_l, *]; first | done | omega) | decide | (split <;> simp only [lens, load_l, ratio_l, sqr_l, mul_l, add_len, neg_l, *]) | (with_reducible exact Lt.mono (by assumption) (by decide)) | (simp only [Cs.len]; done) | rfl) (by first | (with_reducible assumption) | omega | (simp only [lens, load_l, ratio_l, sqr_l, mul_l, add_len, neg_l, *]; first | done | omega) | decide | (split <;> simp only [lens, load_l, ratio_l, sqr_l, mul_l, add_len, neg_l, *]) | (with_reducible exact Lt.mono (by assumption) (by decide)) | (simp only [Cs.len]; done) | rfl)) fnok32 (up0 rfl rfl rfl) rfl rfl (.cons _ _ _ _ rfl (.cons _ _ _ _ rfl .nil)) (.cons _ _ _ _ (.same _) (.cons _ _ _ _ (.same _) .nil)) rfl rfl) rfl rfl ?_
      refine CertK.vd (Y.move (up0 rfl rfl rfl) rfl rfl) rfl rfl ?_
      refine CertK.vd (Y.ext0 (up0 rfl rfl rfl) rfl rfl) rfl rfl ?_
      refine CertK.vd (Y.ext1 (up0 rfl rfl rfl) rfl rfl) rfl rfl ?_
      refine CertK.u (Y.alloc (d := 14) ty27 rfl rfl (up0 rfl rfl rfl) rfl) rfl rfl rfl rfl rfl ?_
      refine CertK.n (Y.stR ty27 (upN rfl rfl) rfl rfl rfl rfl rfl (by first | (with_reducible assumption) | omega | (simp only [lens, load_l, ratio_l, sqr_l, mul_l, add_len, neg_l, *]; first | done | omega) | decide | (split <;> simp only [lens, load_l, ratio_l, sqr_l, mul_l, add_len, neg_l, *]) | (with_reducible exact Lt.mono (by assumption) (by decide)) | (simp only [Cs.len]; done) | rfl) (by first | (with_reducible assumption) | omega | (simp only [lens, load_l, ratio_l, sqr_l, mul_l, add_len, neg_l, *]; first | done | omega) | decide | (split <;> simp only [lens, load_l, ratio_l, sqr_l, mul_l, add_len, neg_l, *]) | (with_reducible exact Lt.mono (by assumption) (by decide)) | (simp only [Cs.len]; done) | rfl) (by decide)) rfl rfl rfl rfl ?_
      refine CertK.v (Y.assign (up0 rfl rfl rfl) rfl rfl) rfl ?_
      refine CertK.nil ?_
      refine Holds.seq ?_
      rcases bool_fc ((ratio (add (load a) (load a)) (load b)).2) with hT | hT
      · refine Holds.reg ?_
        refine OpsFrom.v (Y.move (up0 rfl rfl rfl) rfl rfl) rfl ?_
        refine OpsFrom.v (Y.move (up0 rfl rfl rfl) rfl rfl) rfl ?_
        refine OpsFrom.v (Doing.isB (c := true) (ro_also l_a l_b ba bb) (Y.move (up1 rfl rfl rfl rfl rfl rfl) rfl rfl)) rfl ?_
        refine OpsFrom.v (Y.pickT (up0 rfl rfl rfl) rfl rfl rfl) rfl ?_
        refine OpsFrom.v (Y.move (up0 rfl rfl rfl) rfl rfl) rfl ?_
        refine OpsFrom.v (Y.move (up1 rfl rfl rfl rfl rfl rfl) rfl rfl) rfl ?_
        refine OpsFrom.v (Y.pickT (up0 rfl rfl rfl) rfl rfl rfl) rfl ?_
        refine OpsFrom.v (Y.move (up0 rfl rfl rfl) rfl rfl) rfl ?_
        refine OpsFrom.v (Doing.isB (c := true) hI (Y.move (up1 rfl rfl rfl rfl rfl rfl) rfl rfl)) rfl ?_
        refine OpsFrom.v (Y.move (up1 rfl rfl rfl rfl rfl rfl) rfl rfl) rfl ?_
        refine OpsFrom.v (Doing.skip _ _ _ _ rfl rfl rfl rfl (dlt rfl (Nat.le_of_ble_eq_true rfl))) rfl ?_
        refine OpsFrom.v (Y.pickT (up1 rfl rfl rfl rfl rfl rfl) rfl rfl rfl) rfl ?_
        refine OpsFrom.v (Y.move (up1 rfl rfl rfl rfl rfl rfl) rfl rfl) rfl ?_
        refine OpsFrom.v (Doing.skip _ _ _ _ rfl rfl rfl rfl (dlt rfl (Nat.le_of_ble_eq_true rfl))) rfl ?_
        refine OpsFrom.v (Y.pickT (up1 rfl rfl rfl rfl rfl rfl) rfl rfl rfl) rfl ?_
        refine OpsFrom.v (Y.pickT (up0 rfl rfl rfl) rfl rfl rfl) rfl ?_
        refine OpsFrom.v (Y.move (up0 rfl rfl rfl) rfl rfl) rfl ?_
        refine OpsFrom.v (Doing.isB (c := true) hI (Y.move (up1 rfl rfl rfl rfl rfl rfl) rfl rfl)) rfl ?_
        refine OpsFrom.v (Doing.isB (c := false) (show (!true) = false from rfl) (Y.not (up1 rfl rfl rfl rfl rfl rfl) rfl rfl)) rfl ?_
        refine OpsFrom.v (Y.move (up1 rfl rfl rfl rfl rfl rfl) rfl rfl) rfl ?_
        refine OpsFrom.v (Doing.isB (c := false) hT (Y.move (up1 rfl rfl rfl rfl rfl rfl) rfl rfl)) rfl ?_
        refine OpsFrom.v (Doing.isB (c := true) (show (!false) = true from rfl) (Y.not (up1 rfl rfl rfl rfl rfl rfl) rfl rfl)) rfl ?_
        refine OpsFrom.v (Y.pickF (up1 rfl rfl rfl rfl rfl rfl) rfl rfl rfl) rfl ?_
        refine OpsFrom.v (Y.move (up1 rfl rfl rfl rfl rfl rfl) rfl rfl) rfl ?_
        refine OpsFrom.v (Doing.skip _ _ _ _ rfl rfl rfl rfl (dlt rfl (Nat.le_of_ble_eq_true rfl))) rfl ?_
        refine OpsFrom.v (Doing.skip _ _ _ _ rfl rfl rfl rfl (dlt rfl (Nat.le_of_ble_eq_true rfl))) rfl ?_
        refine OpsFrom.v (Doing.skip _ _ _ _ rfl rfl rfl rfl (dlt rfl (Nat.le_of_ble_eq_true rfl))) rfl ?_
        refine OpsFrom.v (Y.pickT (up1 rfl rfl rfl rfl rfl rfl) rfl rfl rfl) rfl ?_
        refine OpsFrom.v (Y.pickT (up0 rfl rfl rfl) rfl rfl rfl) rfl ?_
        refine OpsFrom.v (Y.assign (up0 rfl rfl rfl) rfl rfl) rfl ?_
        refine OpsFrom.nil ?_
        refine Holds.ret ?_
        exact Holds.ret1 (.inl rfl) rfl (.tmp _ _ rfl) (.same _) rfl
      · refine Holds.reg ?_
        refine OpsFrom.v (Y.move (up0 rfl rfl rfl) rfl rfl) rfl ?_
        refine OpsFrom.v (Y.move (up0 rfl rfl rfl) rfl rfl) rfl ?_
        refine OpsFrom.v (Doing.isB (c := true) (ro_also l_a l_b ba bb) (Y.move (up1 rfl rfl rfl rfl rfl rfl) rfl rfl)) rfl ?_
        refine OpsFrom.v (Y.pickT (up0 rfl rfl rfl) rfl rfl rfl) rfl ?_
        refine OpsFrom.v (Y.move (up0 rfl rfl rfl) rfl rfl) rfl ?_
        refine OpsFrom.v (Y.move (up1 rfl rfl rfl rfl rfl rfl) rfl rfl) rfl ?_
        refine OpsFrom.v (Y.pickT (up0 rfl rfl rfl) rfl rfl rfl) rfl ?_
        refine OpsFrom.v (Y.move (up0 rfl rfl rfl) rfl rfl) rfl ?_
        refine OpsFrom.v (Doing.isB (c := true) hI (Y.move (up1 rfl rfl rfl rfl rfl rfl) rfl rfl)) rfl ?_
        refine OpsFrom.v (Y.move (up1 rfl rfl rfl rfl rfl rfl) rfl rfl) rfl ?_
        refine OpsFrom.v (Doing.skip _ _ _ _ rfl rfl rfl rfl (dlt rfl (Nat.le_of_ble_eq_true rfl))) rfl ?_
        refine OpsFrom.v (Y.pickT (up1 rfl rfl rfl rfl rfl rfl) rfl rfl rfl) rfl ?_
        refine OpsFrom.v (Y.move (up1 rfl rfl rfl rfl rfl rfl) rfl rfl) rfl ?_
        refine OpsFrom.v (Doing.skip _ _ _ _ rfl rfl rfl rfl (dlt rfl (Nat.le_of_ble_eq_true rfl))) rfl ?_
        refine OpsFrom.v (Y.pickT (up1 rfl rfl rfl rfl rfl rfl) rfl rfl rfl) rfl ?_
        refine OpsFrom.v (Y.pickT (up0 rfl rfl rfl) rfl rfl rfl) rfl ?_
        refine OpsFrom.v (Y.move (up0 rfl rfl rfl) rfl rfl) rfl ?_
        refine OpsFrom.v (Doing.isB (c := true) hI (Y.move (up1 rfl rfl rfl rfl rfl rfl) rfl rfl)) rfl ?_
        refine OpsFrom.v (Doing.isB (c := false) (show (!true) = false from rfl) (Y.not (up1 rfl rfl rfl rfl rfl rfl) rfl rfl)) rfl ?_
        refine OpsFrom.v (Y.move (up1 rfl rfl rfl rfl rfl rfl) rfl rfl) rfl ?_
        refine OpsFrom.v (Doing.isB (c := true) hT (Y.move (up1 rfl rfl rfl rfl rfl rfl) rfl rfl)) rfl ?_
        refine OpsFrom.v (Doing.isB (c := false) (show (!true) = false from rfl) (Y.not (up1 rfl rfl rfl rfl rfl rfl) rfl rfl)) rfl ?_
        refine OpsFrom.v (Y.pickF (up1 rfl rfl rfl rfl rfl rfl) rfl rfl rfl) rfl ?_
        refine OpsFrom.v (Y.move (up1 rfl rfl rfl rfl rfl rfl) rfl rfl) rfl ?_
        refine OpsFrom.v (Y.ldAll ty27 rfl (up1 rfl rfl rfl rfl rfl rfl) rfl rfl rfl (by first | (with_reducible assumption) | omega | (simp only [lens, load_l, ratio_l, sqr_l, mul_l, add_len, neg_l, *]; first | done | omega) | decide | (split <;> simp only [lens, load_l, ratio_l, sqr_l, mul_l, add_len, neg_l, *]) | (with_reducible exact Lt.mono (by assumption) (by decide)) | (simp only [Cs.len]; done) | rfl) (by decide)) rfl ?_
        refine OpsFrom.v (Y.buildT [(0, 5)] ty27 rfl (by kernel_rfl) (up1 rfl rfl rfl rfl rfl rfl) rfl (.nil _)) rfl ?_
        refine OpsFrom.v (Doing.isB (c := true) (ro_both l_a l_b ba bb hI hT) (Y.callV (w_same _ _ (by first | (with_reducible assumption) | omega | (simp only [lens, load_l, ratio_l, sqr_l, mul_l, add_len, neg_l, *]; first | done | omega) | decide | (split <;> simp only [lens, load_l, ratio_l, sqr_l, mul_l, add_len, neg_l, *]) | (with_reducible exact Lt.mono (by assumption) (by decide)) | (simp only [Cs.len]; done) | rfl) (by first | (with_reducible assumption) | omega | (simp only [lens, load_l, ratio_l, sqr_l, mul_l, add_len, neg_l, *]; first | done | omega) | decide | (split <;> simp only [lens, load_l, ratio_l, sqr_l, mul_l, add_len, neg_l, *]) | (with_reducible exact Lt.mono (by assumption) (by decide)) | (simp only [Cs.len]; done) | rfl)) fnok21 (up1 rfl rfl rfl rfl rfl rfl) rfl rfl (.cons _ _ _ _ rfl (.cons _ _ _ _ rfl .nil)) (.cons _ _ _ _ (.same _) (.cons _ _ _ _ (.same _) .nil)) rfl rfl)) rfl ?_
        refine OpsFrom.v (Y.pickF (up1 rfl rfl rfl rfl rfl rfl) rfl rfl rfl) rfl ?_
        refine OpsFrom.v (Y.pickT (up0 rfl rfl rfl) rfl rfl rfl) rfl ?_
        refine OpsFrom.v (Y.assign (up0 rfl rfl rfl) rfl rfl) rfl ?_
        refine OpsFrom.nil ?_
        refine Holds.ret ?_
        exact Holds.ret1 (.inl rfl) rfl (.tmp _ _ rfl) (.same _) rfl
    · refine Holds.dr mx [([63], [64]), ([64], [63]), ([65], []), ([66], []), ([67], [68, 69]), ([68], [67]), ([69], [67]), ([70], []), ([71], []), ([72], []), ([73], []), ([74], []), ([13], [])] (by kernel_rfl) ?_
      refine CertK.vd (Y.ldAll ty27 rfl (up0 rfl rfl rfl) rfl rfl rfl (by first | (with_reducible assumption) | omega | (simp only [lens, load_l, ratio_l, sqr_l, mul_l, add_len, neg_l, *]; first | done | omega) | decide | (split <;> simp only [lens, load_l, ratio_l, sqr_l, mul_l, add_len, neg_l, *]) | (with_reducible exact Lt.mono (by assumption) (by decide)) | (simp only [Cs.len]; done) | rfl) (by decide)) rfl rfl ?_
      refine CertK.vd (Y.ldAll ty27 rfl (up0 rfl rfl rfl) rfl rfl rfl (by first | (with_reducible assumption) | omega | (simp only [lens, load_l, ratio_l, sqr_l, mul_l, add_len, neg_l, *]; first | done | omega) | decide | (split <;> simp only [lens, load_l, ratio_l, sqr_l, mul_l, add_len, neg_l, *]) | (with_reducible exact Lt.mono (by assumption) (by decide)) | (simp only [Cs.len]; done) | rfl) (by decide)) rfl rfl ?_
      refine CertK.v (Doing.isB (c := false) hS1 (Y.callV (w_same _ _ (by first | (with_reducible assumption) | omega | (simp only [lens, load_l, ratio_l, sqr_l, mul_l, add_len, neg_l, *]; first | done | omega) | decide | (split <;> simp only [lens, load_l, ratio_l, sqr_l, mul_l, add_len, neg_l, *]) | (with_reducible exact Lt.mono (by assumption) (by decide)) | (simp only [Cs.len]; done) | rfl) (by first | (with_reducible assumption) | omega | (simp only [lens, load_l, ratio_l, sqr_l, mul_l, add_len, neg_l, *]; first | done | omega) | decide | (split <;> simp only [lens, load_l, ratio_l, sqr_l, mul_l, add_len, neg_l, *]) | (with_reducible exact Lt.mono (by assumption) (by decide)) | (simp only [Cs.len]; done) | rfl)) fnok21 (up0 rfl rfl rfl) rfl rfl (.cons _ _ _ _ rfl (.cons _ _ _ _ rfl .nil)) (.cons _ _ _ _ (.same _) (.cons _ _ _ _ (.same _) .nil)) rfl rfl)) rfl ?_
      refine CertK.v (Y.move (up0 rfl rfl rfl) rfl rfl) rfl ?_
      refine CertK.vd (Y.ldAll ty27 rfl (up1 rfl rfl rfl rfl rfl rfl) rfl rfl rfl (by first | (with_reducible assumption) | omega | (simp only [lens, load_l, ratio_l, sqr_l, mul_l, add_len, neg_l, *]; first | done | omega) | decide | (split <;> simp only [lens, load_l, ratio_l, sqr_l, mul_l, add_len, neg_l, *]) | (with_reducible exact Lt.mono (by assumption) (by decide)) | (simp only [Cs.len]; done) | rfl) (by decide)) rfl rfl ?_
      refine CertK.vd (Y.ldAll ty27 rfl (up1 rfl rfl rfl rfl rfl rfl) rfl rfl rfl (by first | (with_reducible assumption) | omega | (simp only [lens, load_l, ratio_l, sqr_l, mul_l, add_len, neg_l, *]; first | done | omega) | decide | (split <;> simp only [lens, load_l, ratio_l, sqr_l, mul_l, add_len, neg_l, *]) | (with_reducible exact Lt.mono (by assumption) (by decide)) | (simp only [Cs.len]; done) | rfl) (by decide)) rfl rfl ?_
      refine CertK.vd (Y.callV (w_neg _ (by first | (with_reducible assumption) | omega | (simp only [lens, load_l, ratio_l, sqr_l, mul_l, add_len, neg_l, *]; first | done | omega) | decide | (split <;> simp only [lens, load_l, ratio_l, sqr_l, mul_l, add_len, neg_l, *]) | (with_reducible exact Lt.mono (by assumption) (by decide)) | (simp only [Cs.len]; done) | rfl)) fnok31 (up1 rfl rfl rfl rfl rfl rfl) rfl rfl (.cons _ _ _ _ rfl .nil) (.cons _ _ _ _ (.same _) .nil) rfl rfl) rfl rfl ?_
      refine CertK.v (Doing.isB (c := true) hS2 (Y.callV (w_same _ _ (by first | (with_reducible assumption) | omega | (simp only [lens, load_l, ratio_l, sqr_l, mul_l, add_len, neg_l, *]; first | done | omega) | decide | (split <;> simp only [lens, load_l, ratio_l, sqr_l, mul_l, add_len, neg_l, *]) | (with_reducible exact Lt.mono (by assumption) (by decide)) | (simp only [Cs.len]; done) | rfl) (by first | (with_reducible assumption) | omega | (simp only [lens, load_l, ratio_l, sqr_l, mul_l, add_len, neg_l, *]; first | done | omega) | decide | (split <;> simp only [lens, load_l, ratio_l, sqr_l, mul_l, add_len, neg_l, *]) | (with_reducible exact Lt.mono (by assumption) (by decide)) | (simp only [Cs.len]; done) | rfl)) fnok21 (up1 rfl rfl rfl rfl rfl rfl) rfl rfl (.cons _ _ _ _ rfl (.cons _ _ _ _ rfl .nil)) (.cons _ _ _ _ (.same _) (.cons _ _ _ _ (.same _) .nil)) rfl rfl)) rfl ?_
      refine CertK.v (Y.pickF (up0 rfl rfl rfl) rfl rfl rfl) rfl ?_
      refine CertK.v (Y.move (up0 rfl rfl rfl) rfl rfl) rfl ?_
      refine CertK.v (Doing.skip _ _ _ _ rfl rfl rfl rfl (dlt rfl (Nat.le_of_ble_eq_true rfl))) rfl ?_
      refine CertK.v (Y.pickT (up0 rfl rfl rfl) rfl rfl rfl) rfl ?_
      refine CertK.v (Y.assign (up0 rfl rfl rfl) rfl rfl) rfl ?_
      refine CertK.nil ?_
      refine Holds.seq ?_
      refine Holds.dr mx [([76], [77, 79, 14]), ([77], [76, 79, 14]), ([78], [79, 14]), ([79], [76, 77, 78, 14]), ([80], [14]), ([75], [14]), ([81], [82, 14]), ([82], [81, 14]), ([14], [76, 77, 78, 79, 80, 75, 81, 82]), ([14], [82]), ([15], [])] (by kernel_rfl) ?_
      refine CertK.vd (Y.ldAll ty27 rfl (up0 rfl rfl rfl) rfl rfl rfl (by first | (with_reducible assumption) | omega | (simp only [lens, load_l, ratio_l, sqr_l, mul_l, add_len, neg_l, *]; first | done | omega) | decide | (split <;> simp only [lens, load_l, ratio_l, sqr_l, mul_l, add_len, neg_l, *]) | (with_reducible exact Lt.mono (by assumption) (by decide)) | (simp only [Cs.len]; done) | rfl) (by decide)) rfl rfl ?_
      refine CertK.vd (Y.ldAll ty27 rfl (up0 rfl rfl rfl) rfl rfl rfl (by first | (with_reducible assumption) | omega | (simp only [lens, load_l, ratio_l, sqr_l, mul_l, add_len, neg_l, *]; first | done | omega) | decide | (split <;> simp only [lens, load_l, ratio_l, sqr_l, mul_l, add_len, neg_l, *]) | (with_reducible exact Lt.mono (by assumption) (by decide)) | (simp only [Cs.len]; done) | rfl) (by decide)) rfl rfl ?_
      refine CertK.vd (Y.callV (w_add _ _ (by first | (with_reducible assumption) | omega | (simp only [lens, load_l, ratio_l, sqr_l, mul_l, add_len, neg_l, *]; first | done | omega) | decide | (split <;> simp only [lens, load_l, ratio_l, sqr_l, mul_l, add_len, neg_l, *]) | (with_reducible exact Lt.mono (by assumption) (by decide)) | (simp only [Cs.len]; done) | rfl) (by first | (with_reducible assumption) | omega | (simp only [lens, load_l, ratio_l, sqr_l, mul_l, add_len, neg_l, *]; first | done | omega) | decide | (split <;> simp only [lens, load_l, ratio_l, sqr_l, mul_l, add_len, neg_l, *]) | (with_reducible exact Lt.mono (by assumption) (by decide)) | (simp only [Cs.len]; done) | rfl)) fnok24 (up0 rfl rfl rfl) rfl rfl (.cons _ _ _ _ rfl (.cons _ _ _ _ rfl .nil)) (.cons _ _ _ _ (.same _) (.cons _ _ _ _ (.same _) .nil)) rfl rfl) rfl rfl ?_
      refine CertK.vd (Y.ldAll ty27 rfl (up0 rfl rfl rfl) rfl rfl rfl (by first | (with_reducible assumption) | omega | (simp only [lens, load_l, ratio_l, sqr_l, mul_l, add_len, neg_l, *]; first | done | omega) | decide | (split <;> simp only [lens, load_l, ratio_l, sqr_l, mul_l, add_len, neg_l, *]) | (with_reducible exact Lt.mono (by assumption) (by decide)) | (simp only [Cs.len]; done) | rfl) (by decide)) rfl rfl ?_
      refine CertK.vd (Y.callV (w_ratio _ _ (by first | (with_reducible assumption) | omega | (simp only [lens, load_l, ratio_l, sqr_l, mul_l, add_len, neg_l, *]; first | done | omega) | decide | (split <;> simp only [lens, load_l, ratio_l, sqr_l, mul_l, add_len, neg_l, *]) | (with_reducible exact Lt.mono (by assumption) (by decide)) | (simp only [Cs.len]; done) | rfl) (by first | (with_reducible assumption) | omega | (simp only [lens, load_l, ratio_l, sqr_l, mul_l, add_len, neg_l, *]; first | done | omega) | decide | (split <;> simp only [lens, load_l, ratio_l, sqr_l, mul_l, add_len, neg_l, *]) | (with_reducible exact Lt.mono (by assumption) (by decide)) | (simp only [Cs.len]; done) | rfl)) fnok32 (up0 rfl rfl rfl) rfl rfl (.cons _ _ _ _ rfl (.cons _ _ _ _ rfl .nil)) (.cons _ _ _ _ (.same _) (.cons _ _ _ _ (.same _) .nil)) rfl rfl) rfl rfl ?_
      refine CertK.vd (Y.move (up0 rfl rfl rfl) rfl rfl) rfl rfl ?_
      refine CertK.vd (Y.ext0 (up0 rfl rfl rfl) rfl rfl) rfl rfl ?_
      refine CertK.vd (Y.ext1 (up0 rfl rfl rfl) rfl rfl) rfl rfl ?_
      refine CertK.u (Y.alloc (d := 14) ty27 rfl rfl (up0 rfl rfl rfl) rfl) rfl rfl rfl rfl rfl ?_
      refine CertK.n (Y.stR ty27 (upN rfl rfl) rfl rfl rfl rfl rfl (by first | (with_reducible assumption) | omega | (simp only [lens, load_l, ratio_l, sqr_l, mul_l, add_len, neg_l, *]; first | done | omega) | decide | (split <;> simp only [lens, load_l, ratio_l, sqr_l, mul_l, add_len, neg_l, *]) | (with_reducible exact Lt.mono (by assumption) (by decide)) | (simp only [Cs.len]; done) | rfl) (by first | (with_reducible assumption) | omega | (simp only [lens, load_l, ratio_l, sqr_l, mul_l, add_len, neg_l, *]; first | done | omega) | decide | (split <;> simp only [lens, load_l, ratio_l, sqr_l, mul_l, add_len, neg_l, *]) | (with_reducible exact Lt.mono (by assumption) (by decide)) | (simp only [Cs.len]; done) | rfl) (by decide)) rfl rfl rfl rfl ?_
      refine CertK.v (Y.assign (up0 rfl rfl rfl) rfl rfl) rfl ?_
      refine CertK.nil ?_
      refine Holds.seq ?_
      rcases bool_fc ((ratio (add (load a) (load a)) (load b)).2) with hT | hT
      · refine Holds.reg ?_
        refine OpsFrom.v (Y.move (up0 rfl rfl rfl) rfl rfl) rfl ?_
        refine OpsFrom.v (Y.move (up0 rfl rfl rfl) rfl rfl) rfl ?_
        refine OpsFrom.v (Doing.isB (c := true) (ro_also l_a l_b ba bb) (Y.move (up1 rfl rfl rfl rfl rfl rfl) rfl rfl)) rfl ?_
        refine OpsFrom.v (Y.pickT (up0 rfl rfl rfl) rfl rfl rfl) rfl ?_
        refine OpsFrom.v (Y.move (up0 rfl rfl rfl) rfl rfl) rfl ?_
        refine OpsFrom.v (Y.move (up1 rfl rfl rfl rfl rfl rfl) rfl rfl) rfl ?_
        refine OpsFrom.v (Y.pickT (up0 rfl rfl rfl) rfl rfl rfl) rfl ?_
        refine OpsFrom.v (Y.move (up0 rfl rfl rfl) rfl rfl) rfl ?_
        refine OpsFrom.v (Doing.isB (c := true) hI (Y.move (up1 rfl rfl rfl rfl rfl rfl) rfl rfl)) rfl ?_
        refine OpsFrom.v (Y.move (up1 rfl rfl rfl rfl rfl rfl) rfl rfl) rfl ?_
        refine OpsFrom.v (Doing.skip _ _ _ _ rfl rfl rfl rfl (dlt rfl (Nat.le_of_ble_eq_true rfl))) rfl ?_
        refine OpsFrom.v (Y.pickT (up1 rfl rfl rfl rfl rfl rfl) rfl rfl rfl) rfl ?_
        refine OpsFrom.v (Y.move (up1 rfl rfl rfl rfl rfl rfl) rfl rfl) rfl ?_
        refine OpsFrom.v (Doing.skip _ _ _ _ rfl rfl rfl rfl (dlt rfl (Nat.le_of_ble_eq_true rfl))) rfl ?_
        refine OpsFrom.v (Y.pickT (up1 rfl rfl rfl rfl rfl rfl) rfl rfl rfl) rfl ?_
        refine OpsFrom.v (Y.pickT (up0 rfl rfl rfl) rfl rfl rfl) rfl ?_
        refine OpsFrom.v (Y.move (up0 rfl rfl rfl) rfl rfl) rfl ?_
        refine OpsFrom.v (Doing.isB (c := true) hI (Y.move (up1 rfl rfl rfl rfl rfl rfl) rfl rfl)) rfl ?_
        refine OpsFrom.v (Doing.isB (c := false) (show (!true) = false from rfl) (Y.not (up1 rfl rfl rfl rfl rfl rfl) rfl rfl)) rfl ?_
        refine OpsFrom.v (Y.move (up1 rfl rfl rfl rfl rfl rfl) rfl rfl) rfl ?_
        refine OpsFrom.v (Doing.isB (c := false) hT (Y.move (up1 rfl rfl rfl rfl rfl rfl) rfl rfl)) rfl ?_
        refine OpsFrom.v (Doing.isB (c := true) (show (!false) = true from rfl) (Y.not (up1 rfl rfl rfl rfl rfl rfl) rfl rfl)) rfl ?_
        refine OpsFrom.v (Y.pickF (up1 rfl rfl rfl rfl rfl rfl) rfl rfl rfl) rfl ?_
        refine OpsFrom.v (Y.move (up1 rfl rfl rfl rfl rfl rfl) rfl rfl) rfl ?_
        refine OpsFrom.v (Doing.skip _ _ _ _ rfl rfl rfl rfl (dlt rfl (Nat.le_of_ble_eq_true rfl))) rfl ?_
        refine OpsFrom.v (Doing.skip _ _ _ _ rfl rfl rfl rfl (dlt rfl (Nat.le_of_ble_eq_true rfl))) rfl ?_
        refine OpsFrom.v (Doing.skip _ _ _ _ rfl rfl rfl rfl (dlt rfl (Nat.le_of_ble_eq_true rfl))) rfl ?_
        refine OpsFrom.v (Y.pickT (up1 rfl rfl rfl rfl rfl rfl) rfl rfl rfl) rfl ?_
        refine OpsFrom.v (Y.pickT (up0 rfl rfl rfl) rfl rfl rfl) rfl ?_
        refine OpsFrom.v (Y.assign (up0 rfl rfl rfl) rfl rfl) rfl ?_
        refine OpsFrom.nil ?_
        refine Holds.ret ?_
        exact Holds.ret1 (.inl rfl) rfl (.tmp _ _ rfl) (.same _) rfl
      · refine Holds.reg ?_
        refine OpsFrom.v (Y.move (up0 rfl rfl rfl) rfl rfl) rfl ?_
        refine OpsFrom.v (Y.move (up0 rfl rfl rfl) rfl rfl) rfl ?_
        refine OpsFrom.v (Doing.isB (c := true) (ro_also l_a l_b ba bb) (Y.move (up1 rfl rfl rfl rfl rfl rfl) rfl rfl)) rfl ?_
        refine OpsFrom.v (Y.pickT (up0 rfl rfl rfl) rfl rfl rfl) rfl ?_
        refine OpsFrom.v (Y.move (up0 rfl rfl rfl) rfl rfl) rfl ?_
        refine OpsFrom.v (Y.move (up1 rfl rfl rfl rfl rfl rfl) rfl rfl) rfl ?_
        refine OpsFrom.v (Y.pickT (up0 rfl rfl rfl) rfl rfl rfl) rfl ?_
        refine OpsFrom.v (Y.move (up0 rfl rfl rfl) rfl rfl) rfl ?_
        refine OpsFrom.v (Doing.isB (c := true) hI (Y.move (up1 rfl rfl rfl rfl rfl rfl) rfl rfl)) rfl ?_
        refine OpsFrom.v (Y.move (up1 rfl rfl rfl rfl rfl rfl) rfl rfl) rfl ?_
        refine OpsFrom.v (Doing.skip _ _ _ _ rfl rfl rfl rfl (dlt rfl (Nat.le_of_ble_eq_true rfl))) rfl ?_
        refine OpsFrom.v (Y.pickT (up1 rfl rfl rfl rfl rfl rfl) rfl rfl rfl) rfl ?_
        refine OpsFrom.v (Y.move (up1 rfl rfl rfl rfl rfl rfl) rfl rfl) rfl ?_
        refine OpsFrom.v (Doing.skip _ _ _ _ rfl rfl rfl rfl (dlt rfl (Nat.le_of_ble_eq_true rfl))) rfl ?_
        refine OpsFrom.v (Y.pickT (up1 rfl rfl rfl rfl rfl rfl) rfl rfl rfl) rfl ?_
        refine OpsFrom.v (Y.pickT (up0 rfl rfl rfl) rfl rfl rfl) rfl ?_
        refine OpsFrom.v (Y.move (up0 rfl rfl rfl) rfl rfl) rfl ?_
        refine OpsFrom.v (Doing.isB (c := true) hI (Y.move (up1 rfl rfl rfl rfl rfl rfl) rfl rfl)) rfl ?_
        refine OpsFrom.v (Doing.isB (c := false) (show (!true) = false from rfl) (Y.not (up1 rfl rfl rfl rfl rfl rfl) rfl rfl)) rfl ?_
        refine OpsFrom.v (Y.move (up1 rfl rfl rfl rfl rfl rfl) rfl rfl) rfl ?_
        refine OpsFrom.v (Doing.isB (c := true) hT (Y.move (up1 rfl rfl rfl rfl rfl rfl) rfl rfl)) rfl ?_
        refine OpsFrom.v (Doing.isB (c := false) (show (!true) = false from rfl) (Y.not (up1 rfl rfl rfl rfl rfl rfl) rfl rfl)) rfl ?_
        refine OpsFrom.v (Y.pickF (up1 rfl rfl rfl rfl rfl rfl) rfl rfl rfl) rfl ?_
        refine OpsFrom.v (Y.move (up1 rfl rfl rfl rfl rfl rfl) rfl rfl) rfl ?_
        refine OpsFrom.v (Y.ldAll ty27 rfl (up1 rfl rfl rfl rfl rfl rfl) rfl rfl rfl (by first | (with_reducible assumption) | omega | (simp only [lens, load_l, ratio_l, sqr_l, mul_l, add_len, neg_l, *]; first | done | omega) | decide | (split <;> simp only [lens, load_l, ratio_l, sqr_l, mul_l, add_len, neg_l, *]) | (with_reducible exact Lt.mono (by assumption) (by decide)) | (simp only [Cs.len]; done) | rfl) (by decide)) rfl ?_
        refine OpsFrom.v (Y.buildT [(0, 5)] ty27 rfl (by kernel_rfl) (up1 rfl rfl rfl rfl rfl rfl) rfl (.nil _)) rfl ?_
        refine OpsFrom.v (Doing.isB (c := true) (ro_both l_a l_b ba bb hI hT) (Y.callV (w_same _ _ (by first | (with_reducible assumption) | omega | (simp only [lens, load_l, ratio_l, sqr_l, mul_l, add_len, neg_l, *]; first | done | omega) | decide | (split <;> simp only [lens, load_l, ratio_l, sqr_l, mul_l, add_len, neg_l, *]) | (with_reducible exact Lt.mono (by assumption) (by decide)) | (simp only [Cs.len]; done) | rfl) (by first | (with_reducible assumption) | omega | (simp only [lens, load_l, ratio_l, sqr_l, mul_l, add_len, neg_l, *]; first | done | omega) | decide | (split <;> simp only [lens, load_l, ratio_l, sqr_l, mul_l, add_len, neg_l, *]) | (with_reducible exact Lt.mono (by assumption) (by decide)) | (simp only [Cs.len]; done) | rfl)) fnok21 (up1 rfl rfl rfl rfl rfl rfl) rfl rfl (.cons _ _ _ _ rfl (.cons _ _ _ _ rfl .nil)) (.cons _ _ _ _ (.same _) (.cons _ _ _ _ (.same _) .nil)) rfl rfl)) rfl ?_
        refine OpsFrom.v (Y.pickF (up1 rfl rfl rfl rfl rfl rfl) rfl rfl rfl) rfl ?_
        refine OpsFrom.v (Y.pickT (up0 rfl rfl rfl) rfl rfl rfl) rfl ?_
        refine OpsFrom.v (Y.assign (up0 rfl rfl rfl) rfl rfl) rfl ?_
        refine OpsFrom.nil ?_
        refine Holds.ret ?_
        exact Holds.ret1 (.inl rfl) rfl (.tmp _ _ rfl) (.same _) rfl
    · refine Holds.dr mx [([63], [64]), ([64], [63]), ([65], []), ([66], []), ([67], [68, 69]), ([68], [67]), ([69], [67]), ([70], []), ([71], []), ([72], []), ([73], []), ([74], []), ([13], [])] (by kernel_rfl) ?_
      refine CertK.vd (Y.ldAll ty27 rfl (up0 rfl rfl rfl) rfl rfl rfl (by first | (with_reducible assumption) | omega | (simp only [lens, load_l, ratio_l, sqr_l, mul_l, add_len, neg_l, *]; first | done | omega) | decide | (split <;> simp only [lens, load_l, ratio_l, sqr_l, mul_l, add_len, neg_l, *]) | (with_reducible exact Lt.mono (by assumption) (by decide)) | (simp only [Cs.len]; done) | rfl) (by decide)) rfl rfl ?_
      refine CertK.vd (Y.ldAll ty27 rfl (up0 rfl rfl rfl) rfl rfl rfl (by first | (with_reducible assumption) | omega | (simp only [lens, load_l, ratio_l, sqr_l, mul_l, add_len, neg_l, *]; first | done | omega) | decide | (split <;> simp only [lens, load_l, ratio_l, sqr_l, mul_l, add_len, neg_l, *]) | (with_reducible exact Lt.mono (by assumption) (by decide)) | (simp only [Cs.len]; done) | rfl) (by decide)) rfl rfl ?_
      refine CertK.v (Doing.isB (c := false) hS1 (Y.callV (w_same _ _ (by first | (with_reducible assumption) | omega | (simp only [lens, load_l, ratio_l, sqr_l, mul_l, add_len, neg_l, *]; first | done | omega) | decide | (split <;> simp only [lens, load_l, ratio_l, sqr_l, mul_l, add_len, neg_l, *]) | (with_reducible exact Lt.mono (by assumption) (by decide)) | (simp only [Cs.len]; done) | rfl) (by first | (with_reducible assumption) | omega | (simp only [lens, load_l, ratio_l, sqr_l, mul_l, add_len, neg_l, *]; first | done | omega) | decide | (split <;> simp only [lens, load_l, ratio_l, sqr_l, mul_l, add_len, neg_l, *]) | (with_reducible exact Lt.mono (by assumption) (by decide)) | (simp only [Cs.len]; done) | rfl)) fnok21 (up0 rfl rfl rfl) rfl rfl (.cons _ _ _ _ rfl (.cons _ _ _ _ rfl .nil)) (.cons _ _ _ _ (.same _) (.cons _ _ _ _ (.same _) .nil)) rfl rfl)) rfl ?_
      refine CertK.v (Y.move (up0 rfl rfl rfl) rfl rfl) rfl ?_
      refine CertK.vd (Y.ldAll ty27 rfl (up1 rfl rfl rfl rfl rfl rfl) rfl rfl rfl (by first | (with_reducible assumption) | omega | (simp only [lens, load_l, ratio_l, sqr_l, mul_l, add_len, neg_l, *]; first | done | omega) | decide | (split <;> simp only [lens, load_l, ratio_l, sqr_l, mul_l, add_len, neg_l, *]) | (with_reducible exact Lt.mono (by assumption) (by decide)) | (simp only [Cs.len]; done) | rfl) (by decide)) rfl rfl ?_
      refine CertK.vd (Y.ldAll ty27 rfl (up1 rfl rfl rfl rfl rfl rfl) rfl rfl rfl (by first | (with_reducible assumption) | omega | (simp only [lens, load_l, ratio_l, sqr_l, mul_l, add_len, neg_l, *]; first | done | omega) | decide | (split <;> simp only [lens, load_l, ratio_l, sqr_l, mul_l, add_len, neg_l, *]) | (with_reducible exact Lt.mono (by assumption) (by decide)) | (simp only [Cs.len]; done) | rfl) (by decide)) rfl rfl ?_
      refine CertK.vd (Y.callV (w_neg _ (by first | (with_reducible assumption) | omega | (simp only [lens, load_l, ratio_l, sqr_l, mul_l, add_len, neg_l, *]; first | done | omega) | decide | (split <;> simp only [lens, load_l, ratio_l, sqr_l, mul_l, add_len, neg_l, *]) | (with_reducible exact Lt.mono (by assumption) (by decide)) | (simp only [Cs.len]; done) | rfl)) fnok31 (up1 rfl rfl rfl rfl rfl rfl) rfl rfl (.cons _ _ _ _ rfl .nil) (.cons _ _ _ _ (.same _) .nil) rfl rfl) rfl rfl ?_
      refine CertK.v (Doing.isB (c := false) hS2 (Y.callV (w_same _ _ (by first | (with_reducible assumption) | omega | (simp only [lens, load_l, ratio_l, sqr_l, mul_l, add_len, neg_l, *]; first | done | omega) | decide | (split <;> simp only [lens, load_l, ratio_l, sqr_l, mul_l, add_len, neg_l, *]) | (with_reducible exact Lt.mono (by assumption) (by decide)) | (simp only [Cs.len]; done) | rfl) (by first | (with_reducible assumption) | omega | (simp only [lens, load_l, ratio_l, sqr_l, mul_l, add_len, neg_l, *]; first | done | omega) | decide | (split <;> simp only [lens, load_l, ratio_l, sqr_l, mul_l, add_len, neg_l, *]) | (with_reducible exact Lt.mono (by assumption) (by decide)) | (simp only [Cs.len]; done) | rfl)) fnok21 (up1 rfl rfl rfl rfl rfl rfl) rfl rfl (.cons _ _ _ _ rfl (.cons _ _ _ _ rfl .nil)) (.cons _ _ _ _ (.same _) (.cons _ _ _ _ (.same _) .nil)) rfl rfl)) rfl ?_
      refine CertK.v (Y.pickF (up0 rfl rfl rfl) rfl rfl rfl) rfl ?_
      refine CertK.v (Y.move (up0 rfl rfl rfl) rfl rfl) rfl ?_
      refine CertK.v (Doing.isB (c := true) hZ (Y.move (up1 rfl rfl rfl rfl rfl rfl) rfl rfl)) rfl ?_
      refine CertK.v (Y.pickF (up0 rfl rfl rfl) rfl rfl rfl) rfl ?_
      refine CertK.v (Y.assign (up0 rfl rfl rfl) rfl rfl) rfl ?_
      refine CertK.nil ?_
      refine Holds.seq ?_
      refine Holds.dr mx [([76], [77, 79, 14]), ([77], [76, 79, 14]), ([78], [79, 14]), ([79], [76, 77, 78, 14]), ([80], [14]), ([75], [14]), ([81], [82, 14]), ([82], [81, 14]), ([14], [76, 77, 78, 79, 80, 75, 81, 82]), ([14], [82]), ([15], [])] (by kernel_rfl) ?_
      refine CertK.vd (Y.ldAll ty27 rfl (up0 rfl rfl rfl) rfl rfl rfl (by first | (with_reducible assumption) | omega | (simp only [lens, load_l, ratio_l, sqr_l, mul_l, add_len, neg_l, *]; first | done | omega) | decide | (split <;> simp only [lens, load_l, ratio_l, sqr_l, mul_l, add_len, neg_l, *]) | (with_reducible exact Lt.mono (by assumption) (by decide)) | (simp only [Cs.len]; done) | rfl) (by decide)) rfl rfl ?_
      refine CertK.vd (Y.ldAll ty27 rfl (up0 rfl rfl rfl) rfl rfl rfl (by first | (with_reducible assumption) | omega | (simp only [lens, load_l, ratio_l, sqr_l, mul_l, add_len, neg_l, *]; first | done | omega) | decide | (split <;> simp only [lens, load_l, ratio_l, sqr_l, mul_l, add_len, neg_l, *]) | (with_reducible exact Lt.mono (by assumption) (by decide)) | (simp only [Cs.len]; done) | rfl) (by decide)) rfl rfl ?_
      refine CertK.vd (Y.callV (w_add _ _ (by first | (with_reducible assumption) | omega | (simp only [lens, load_l, ratio_l, sqr_l, mul_l, add_len, neg_l, *]; first | done | omega) | decide | (split <;> simp only [lens, load_l, ratio_l, sqr_l, mul_l, add_len, neg_l, *]) | (with_reducible exact Lt.mono (by assumption) (by decide)) | (simp only [Cs.len]; done) | rfl) (by first | (with_reducible assumption) | omega | (simp only [lens, load_l, ratio_l, sqr_l, mul_l, add_len, neg_l, *]; first | done | omega) | decide | (split <;> simp only [lens, load_l, ratio_l, sqr_l, mul_l, add_len, neg_l, *]) | (with_reducible exact Lt.mono (by assumption) (by decide)) | (simp only [Cs.len]; done) | rfl)) fnok24 (up0 rfl rfl rfl) rfl rfl (.cons _ _ _ _ rfl (.cons _ _ _ _ rfl .nil)) (.cons _ _ _ _ (.same _) (.cons _ _ _ _ (.same _) .nil)) rfl rfl) rfl rfl ?_
      refine CertK.vd (Y.ldAll ty27 rfl (up0 rfl rfl rfl) rfl rfl rfl (by first | (with_reducible assumption) | omega | (simp only [lens, load_l, ratio_l, sqr_l, mul_l, add_len, neg_l, *]; first | done | omega) | decide | (split <;> simp only [lens, load_l, ratio_l, sqr_l, mul_l, add_len, neg_l, *]) | (with_reducible exact Lt.mono (by assumption) (by decide)) | (simp only [Cs.len]; done) | rfl) (by decide)) rfl rfl ?_
      refine CertK.vd (Y.callV (w_ratio _ _ (by first | (with_reducible assumption) | omega | (simp only [lens, load_l, ratio_l, sqr_l, mul_l, add_len, neg_l, *]; first | done | omega) | decide | (split <;> simp only [lens, load_l, ratio_l, sqr_l, mul_l, add_len, neg_l, *]) | (with_reducible exact Lt.mono (by assumption) (by decide)) | (simp only [Cs.len]; done) | rfl) (by first | (with_reducible assumption) | omega | (simp only [lens, load_l, ratio_l, sqr_l, mul_l, add_len, neg_l, *]; first | done | omega) | decide | (split <;> simp only [lens, load_l, ratio_l, sqr_l, mul_l, add_len, neg_l, *]) | (with_reducible exact Lt.mono (by assumption) (by decide)) | (simp only [Cs.len]; done) | rfl)) fnok32 (up0 rfl rfl rfl) rfl rfl (.cons _ _ _ _ rfl (.cons _ _ _ _ rfl .nil)) (.cons _ _ _ _ (.same _) (.cons _ _ _ _ (.same _) .nil)) rfl rfl) rfl rfl ?_
      refine CertK.vd (Y.move (up0 rfl rfl rfl) rfl rfl) rfl rfl ?_
      refine CertK.vd (Y.ext0 (up0 rfl rfl rfl) rfl rfl) rfl rfl ?_
      refine CertK.vd (Y.ext1 (up0 rfl rfl rfl) rfl rfl) rfl rfl ?_
      refine CertK.u (Y.alloc (d := 14) ty27 rfl rfl (up0 rfl rfl rfl) rfl) rfl rfl rfl rfl rfl ?_
      refine CertK.n (Y.stR ty27 (upN rfl rfl) rfl rfl rfl rfl rfl (by first | (with_reducible assumption) | omega | (simp only [lens, load_l, ratio_l, sqr_l, mul_l, add_len, neg_l, *]; first | done | omega) | decide | (split <;> simp only [lens, load_l, ratio_l, sqr_l, mul_l, add_len, neg_l, *]) | (with_reducible exact Lt.mono (by assumption) (by decide)) | (simp only [Cs.len]; done) | rfl) (by first | (with_reducible assumption) | omega | (simp only [lens, load_l, ratio_l, sqr_l, mul_l, add_len, neg_l, *]; first | done | omega) | decide | (split <;> simp only [lens, load_l, ratio_l, sqr_l, mul_l, add_len, neg_l, *]) | (with_reducible exact Lt.mono (by assumption) (by decide)) | (simp only [Cs.len]; done) | rfl) (by decide)) rfl rfl rfl rfl ?_
      refine CertK.v (Y.assign (up0 rfl rfl rfl) rfl rfl) rfl ?_
      refine CertK.nil ?_
      refine Holds.seq ?_
      rcases bool_fc ((ratio (add (load a) (load a)) (load b)).2) with hT | hT
      · refine Holds.reg ?_
        refine OpsFrom.v (Y.move (up0 rfl rfl rfl) rfl rfl) rfl ?_
        refine OpsFrom.v (Y.move (up0 rfl rfl rfl) rfl rfl) rfl ?_
        refine OpsFrom.v (Doing.isB (c := true) (ro_also l_a l_b ba bb) (Y.move (up1 rfl rfl rfl rfl rfl rfl) rfl rfl)) rfl ?_
        refine OpsFrom.v (Y.pickT (up0 rfl rfl rfl) rfl rfl rfl) rfl ?_
        refine OpsFrom.v (Y.move (up0 rfl rfl rfl) rfl rfl) rfl ?_
        refine OpsFrom.v (Y.move (up1 rfl rfl rfl rfl rfl rfl) rfl rfl) rfl ?_
        refine OpsFrom.v (Y.pickT (up0 rfl rfl rfl) rfl rfl rfl) rfl ?_
        refine OpsFrom.v (Y.move (up0 rfl rfl rfl) rfl rfl) rfl ?_
        refine OpsFrom.v (Doing.isB (c := true) hI (Y.move (up1 rfl rfl rfl rfl rfl rfl) rfl rfl)) rfl ?_
        refine OpsFrom.v (Y.move (up1 rfl rfl rfl rfl rfl rfl) rfl rfl) rfl ?_
        refine OpsFrom.v (Doing.skip _ _ _ _ rfl rfl rfl rfl (dlt rfl (Nat.le_of_ble_eq_true rfl))) rfl ?_
        refine OpsFrom.v (Y.pickT (up1 rfl rfl rfl rfl rfl rfl) rfl rfl rfl) rfl ?_
        refine OpsFrom.v (Y.move (up1 rfl rfl rfl rfl rfl rfl) rfl rfl) rfl ?_
        refine OpsFrom.v (Doing.skip _ _ _ _ rfl rfl rfl rfl (dlt rfl (Nat.le_of_ble_eq_true rfl))) rfl ?_
        refine OpsFrom.v (Y.pickT (up1 rfl rfl rfl rfl rfl rfl) rfl rfl rfl) rfl ?_
        refine OpsFrom.v (Y.pickT (up0 rfl rfl rfl) rfl rfl rfl) rfl ?_
        refine OpsFrom.v (Y.move (up0 rfl rfl rfl) rfl rfl) rfl ?_
        refine OpsFrom.v (Doing.isB (c := true) hI (Y.move (up1 rfl rfl rfl rfl rfl rfl) rfl rfl)) rfl ?_
        refine OpsFrom.v (Doing.isB (c := false) (show (!true) = false from rfl) (Y.not (up1 rfl rfl rfl rfl rfl rfl) rfl rfl)) rfl ?_
        refine OpsFrom.v (Y.move (up1 rfl rfl rfl rfl rfl rfl) rfl rfl) rfl ?_
        refine OpsFrom.v (Doing.isB (c := false) hT (Y.move (up1 rfl rfl rfl rfl rfl rfl) rfl rfl)) rfl ?_
        refine OpsFrom.v (Doing.isB (c := true) (show (!false) = true from rfl) (Y.not (up1 rfl rfl rfl rfl rfl rfl) rfl rfl)) rfl ?_
        refine OpsFrom.v (Y.pickF (up1 rfl rfl rfl rfl rfl rfl) rfl rfl rfl) rfl ?_
        refine OpsFrom.v (Y.move (up1 rfl rfl rfl rfl rfl rfl) rfl rfl) rfl ?_
        refine OpsFrom.v (Doing.skip _ _ _ _ rfl rfl rfl rfl (dlt rfl (Nat.le_of_ble_eq_true rfl))) rfl ?_
        refine OpsFrom.v (Doing.skip _ _ _ _ rfl rfl rfl rfl (dlt rfl (Nat.le_of_ble_eq_true rfl))) rfl ?_
        refine OpsFrom.v (Doing.skip _ _ _ _ rfl rfl rfl rfl (dlt rfl (Nat.le_of_ble_eq_true rfl))) rfl ?_
        refine OpsFrom.v (Y.pickT (up1 rfl rfl rfl rfl rfl rfl) rfl rfl rfl) rfl ?_
        refine OpsFrom.v (Y.pickT (up0 rfl rfl rfl) rfl rfl rfl) rfl ?_
        refine OpsFrom.v (Y.assign (up0 rfl rfl rfl) rfl rfl) rfl ?_
        refine OpsFrom.nil ?_
        refine Holds.ret ?_
        exact Holds.ret1 (.inl rfl) rfl (.tmp _ _ rfl) (.same _) rfl
      · refine Holds.reg ?_
        refine OpsFrom.v (Y.move (up0 rfl rfl rfl) rfl rfl) rfl ?_
        refine OpsFrom.v (Y.move (up0 rfl rfl rfl) rfl rfl) rfl ?_
        refine OpsFrom.v (Doing.isB (c := true) (ro_also l_a l_b ba bb) (Y.move (up1 rfl rfl rfl rfl rfl rfl) rfl rfl)) rfl ?_
        refine OpsFrom.v (Y.pickT (up0 rfl rfl rfl) rfl rfl rfl) rfl ?_
        refine OpsFrom.v (Y.move (up0 rfl rfl rfl) rfl rfl) rfl ?_
        refine OpsFrom.v (Y.move (up1 rfl rfl rfl rfl rfl rfl) rfl rfl) rfl ?_
        refine OpsFrom.v (Y.pickT (up0 rfl rfl rfl) rfl rfl rfl) rfl ?_
        refine OpsFrom.v (Y.move (up0 rfl rfl rfl) rfl rfl) rfl ?_
        refine OpsFrom.v (Doing.isB (c := true) hI (Y.move (up1 rfl rfl rfl rfl rfl rfl) rfl rfl)) rfl ?_
        refine OpsFrom.v (Y.move (up1 rfl rfl rfl rfl rfl rfl) rfl rfl) rfl ?_
        refine OpsFrom.v (Doing.skip _ _ _ _ rfl rfl rfl rfl (dlt rfl (Nat.le_of_ble_eq_true rfl))) rfl ?_
        refine OpsFrom.v (Y.pickT (up1 rfl rfl rfl rfl rfl rfl) rfl rfl rfl) rfl ?_
        refine OpsFrom.v (Y.move (up1 rfl rfl rfl rfl rfl rfl) rfl rfl) rfl ?_
        refine OpsFrom.v (Doing.skip _ _ _ _ rfl rfl rfl rfl (dlt rfl (Nat.le_of_ble_eq_true rfl))) rfl ?_
        refine OpsFrom.v (Y.pickT (up1 rfl rfl rfl rfl rfl rfl) rfl rfl rfl) rfl ?_
        refine OpsFrom.v (Y.pickT (up0 rfl rfl rfl) rfl rfl rfl) rfl ?_
        refine OpsFrom.v (Y.move (up0 rfl rfl rfl) rfl rfl) rfl ?_
        refine OpsFrom.v (Doing.isB (c := true) hI (Y.move (up1 rfl rfl rfl rfl rfl rfl) rfl rfl)) rfl ?_
        refine OpsFrom.v (Doing.isB (c := false) (show (!true) = false from rfl) (Y.not (up1 rfl rfl rfl rfl rfl rfl) rfl rfl)) rfl ?_
        refine OpsFrom.v (Y.move (up1 rfl rfl rfl rfl rfl rfl) rfl rfl) rfl ?_
        refine OpsFrom.v (Doing.isB (c := true) hT (Y.move (up1 rfl rfl rfl rfl rfl rfl) rfl rfl)) rfl ?_
        refine OpsFrom.v (Doing.isB (c := false) (show (!true) = false from rfl) (Y.not (up1 rfl rfl rfl rfl rfl rfl) rfl rfl)) rfl ?_
        refine OpsFrom.v (Y.pickF (up1 rfl rfl rfl rfl rfl rfl) rfl rfl rfl) rfl ?_
        refine OpsFrom.v (Y.move (up1 rfl rfl rfl rfl rfl rfl) rfl rfl) rfl ?_
        refine OpsFrom.v (Y.ldAll ty27 rfl (up1 rfl rfl rfl rfl rfl rfl) rfl rfl rfl (by first | (with_reducible assumption) | omega | (simp only [lens, load_l, ratio_l, sqr_l, mul_l, add_len, neg_l, *]; first | done | omega) | decide | (split <;> simp only [lens, load_l, ratio_l, sqr_l, mul_l, add_len, neg_l, *]) | (with_reducible exact Lt.mono (by assumption) (by decide)) | (simp only [Cs.len]; done) | rfl) (by decide)) rfl ?_
        refine OpsFrom.v (Y.buildT [(0, 5)] ty27 rfl (by kernel_rfl) (up1 rfl rfl rfl rfl rfl rfl) rfl (.nil _)) rfl ?_
        refine OpsFrom.v (Doing.isB (c := true) (ro_both l_a l_b ba bb hI hT) (Y.callV (w_same _ _ (by first | (with_reducible assumption) | omega | (simp only [lens, load_l, ratio_l, sqr_l, mul_l, add_len, neg_l, *]; first | done | omega) | decide | (split <;> simp only [lens, load_l, ratio_l, sqr_l, mul_l, add_len, neg_l, *]) | (with_reducible exact Lt.mono (by assumption) (by decide)) | (simp only [Cs.len]; done) | rfl) (by first | (with_reducible assumption) | omega | (simp only [lens, load_l, ratio_l, sqr_l, mul_l, add_len, neg_l, *]; first | done | omega) | decide | (split <;> simp only [lens, load_l, ratio_l, sqr_l, mul_l, add_len, neg_l, *]) | (with_reducible exact Lt.mono (by assumption) (by decide)) | (simp only [Cs.len]; done) | rfl)) fnok21 (up1 rfl rfl rfl rfl rfl rfl) rfl rfl (.cons _ _ _ _ rfl (.cons _ _ _ _ rfl .nil)) (.cons _ _ _ _ (.same _) (.cons _ _ _ _ (.same _) .nil)) rfl rfl)) rfl ?_
        refine OpsFrom.v (Y.pickF (up1 rfl rfl rfl rfl rfl rfl) rfl rfl rfl) rfl ?_
        refine OpsFrom.v (Y.pickT (up0 rfl rfl rfl) rfl rfl rfl) rfl ?_
        refine OpsFrom.v (Y.assign (up0 rfl rfl rfl) rfl rfl) rfl ?_
        refine OpsFrom.nil ?_
        refine Holds.ret ?_
        exact Holds.ret1 (.inl rfl) rfl (.tmp _ _ rfl) (.same _) rfl


end Go.Proofs.Ytnfiiclmbiiokaa
