/-
  Walks: SegmentNonces.
-/
import Derived.Test.YtkpelchcpiafaaaSc
namespace Go.Proofs.Ytkpelchcpiafaaa
open Go Go.Fx
set_option linter.unusedVariables false
set_option linter.unusedSimpArgs false
theorem w_snonces (n : Nat) (a : Bool) (m : Nat) (b : Bool) (few : Int) (many : Int) (l_few : -9223372036854775808 ≤ few) (g_few : few < 9223372036854775808) (l_many : -9223372036854775808 ≤ many) (g_many : many < 9223372036854775808) : VC Try.prog 12 [.one (.n .u64 n), .one (.b a), .one (.n .u64 m), .one (.b b), .one (.z few), .one (.z many)] (.one (.b true)) := by
  refine VC.go Try.func12 rfl Try.ntmps12 rfl rfl fun O w => ?_
  refine Holds.ltN 0 rfl u64s u64m (fun b_n => ?_)
  refine Holds.ltN 2 rfl u64s u64m (fun b_m => ?_)
  refine Holds.seq ?_
  refine Holds.reg ?_
  refine OpsFrom.v (Y.assign (up0 rfl rfl rfl) rfl rfl) rfl ?_
  refine OpsFrom.nil ?_
  refine Holds.seq ?_
  refine Holds.reg ?_
  refine OpsFrom.v (Y.callV w_sawake fnok34 (up0 rfl rfl rfl) rfl rfl .nil .nil rfl rfl) rfl ?_
  refine OpsFrom.v (Y.assign (up0 rfl rfl rfl) rfl rfl) rfl ?_
  refine OpsFrom.nil ?_
  refine Holds.seq ?_
  refine Holds.reg ?_
  refine OpsFrom.v (Y.move (up0 rfl rfl rfl) rfl rfl) rfl ?_
  refine OpsFrom.v (Y.move (up0 rfl rfl rfl) rfl rfl) rfl ?_
  refine OpsFrom.v (Y.callV (w_nonce _ _ ) fnok35 (up0 rfl rfl rfl) rfl rfl (.cons _ _ _ _ rfl (.cons _ _ _ _ rfl .nil)) (.cons _ _ _ _ (.same _) (.cons _ _ _ _ (.same _) .nil)) rfl rfl) rfl ?_
  refine OpsFrom.u (Y.alloc (d := 14) ty25 rfl rfl (up0 rfl rfl rfl) rfl) rfl rfl rfl ?_
  refine OpsFrom.n (Y.stR ty25 (upN rfl rfl) rfl rfl rfl rfl rfl (by first | (with_reducible assumption) | omega | (simp only [lens, nonce_len, *]; first | done | omega) | decide | (split <;> simp only [lens, nonce_len, *]) | (with_reducible exact Lt.mono (by assumption) (by decide)) | (simp only [Cs.len]; done) | rfl) (by first | (with_reducible assumption) | omega | (simp only [lens, nonce_len, *]; first | done | omega) | decide | (split <;> simp only [lens, nonce_len, *]) | (with_reducible exact Lt.mono (by assumption) (by decide)) | (simp only [Cs.len]; done) | rfl) (by decide)) rfl rfl ?_
  refine OpsFrom.nil ?_
  refine Holds.seq ?_
  refine Holds.reg ?_
  refine OpsFrom.v (Y.move (up0 rfl rfl rfl) rfl rfl) rfl ?_
  refine OpsFrom.v (Y.move (up0 rfl rfl rfl) rfl rfl) rfl ?_
  refine OpsFrom.v (Y.callV (w_nonce _ _ ) fnok35 (up0 rfl rfl rfl) rfl rfl (.cons _ _ _ _ rfl (.cons _ _ _ _ rfl .nil)) (.cons _ _ _ _ (.same _) (.cons _ _ _ _ (.same _) .nil)) rfl rfl) rfl ?_
  refine OpsFrom.u (Y.alloc (d := 15) ty25 rfl rfl (up0 rfl rfl rfl) rfl) rfl rfl rfl ?_
  refine OpsFrom.n (Y.stR ty25 (upN rfl rfl) rfl rfl rfl rfl rfl (by first | (with_reducible assumption) | omega | (simp only [lens, nonce_len, *]; first | done | omega) | decide | (split <;> simp only [lens, nonce_len, *]) | (with_reducible exact Lt.mono (by assumption) (by decide)) | (simp only [Cs.len]; done) | rfl) (by first | (with_reducible assumption) | omega | (simp only [lens, nonce_len, *]; first | done | omega) | decide | (split <;> simp only [lens, nonce_len, *]) | (with_reducible exact Lt.mono (by assumption) (by decide)) | (simp only [Cs.len]; done) | rfl) (by decide)) rfl rfl ?_
  refine OpsFrom.nil ?_
  refine Holds.seq ?_
  refine Holds.reg ?_
  refine OpsFrom.v (Y.move (up0 rfl rfl rfl) rfl rfl) rfl ?_
  refine OpsFrom.v (Y.callV (w_countz _ (by first | (with_reducible assumption) | omega | (simp only [lens, nonce_len, *]; first | done | omega) | decide | (split <;> simp only [lens, nonce_len, *]) | (with_reducible exact Lt.mono (by assumption) (by decide)) | (simp only [Cs.len]; done) | rfl) (by first | (with_reducible assumption) | omega | (simp only [lens, nonce_len, *]; first | done | omega) | decide | (split <;> simp only [lens, nonce_len, *]) | (with_reducible exact Lt.mono (by assumption) (by decide)) | (simp only [Cs.len]; done) | rfl)) fnok36 (up0 rfl rfl rfl) rfl rfl (.cons _ _ _ _ rfl .nil) (.cons _ _ _ _ (.same _) .nil) rfl rfl) rfl ?_
  refine OpsFrom.v (Y.move (up0 rfl rfl rfl) rfl rfl) rfl ?_
  refine OpsFrom.v (Y.ext0 (up0 rfl rfl rfl) rfl rfl) rfl ?_
  refine OpsFrom.v (Y.ext1 (up0 rfl rfl rfl) rfl rfl) rfl ?_
  refine OpsFrom.v (Y.assign (up0 rfl rfl rfl) rfl rfl) rfl ?_
  refine OpsFrom.v (Y.assign (up0 rfl rfl rfl) rfl rfl) rfl ?_
  refine OpsFrom.nil ?_
  refine Holds.seq ?_
  refine Holds.reg ?_
  refine OpsFrom.v (Y.move (up0 rfl rfl rfl) rfl rfl) rfl ?_
  refine OpsFrom.v (Y.callV (w_countz _ (by first | (with_reducible assumption) | omega | (simp only [lens, nonce_len, *]; first | done | omega) | decide | (split <;> simp only [lens, nonce_len, *]) | (with_reducible exact Lt.mono (by assumption) (by decide)) | (simp only [Cs.len]; done) | rfl) (by first | (with_reducible assumption) | omega | (simp only [lens, nonce_len, *]; first | done | omega) | decide | (split <;> simp only [lens, nonce_len, *]) | (with_reducible exact Lt.mono (by assumption) (by decide)) | (simp only [Cs.len]; done) | rfl)) fnok36 (up0 rfl rfl rfl) rfl rfl (.cons _ _ _ _ rfl .nil) (.cons _ _ _ _ (.same _) .nil) rfl rfl) rfl ?_
  refine OpsFrom.v (Y.move (up0 rfl rfl rfl) rfl rfl) rfl ?_
  refine OpsFrom.v (Y.ext0 (up0 rfl rfl rfl) rfl rfl) rfl ?_
  refine OpsFrom.v (Y.ext1 (up0 rfl rfl rfl) rfl rfl) rfl ?_
  refine OpsFrom.v (Y.assign (up0 rfl rfl rfl) rfl rfl) rfl ?_
  refine OpsFrom.v (Y.assign (up0 rfl rfl rfl) rfl rfl) rfl ?_
  refine OpsFrom.nil ?_
  refine Holds.seq ?_
  by_cases a6_2 : (few < ((0 : Nat) : Int))
  · refine Holds.reg ?_
    refine OpsFrom.v (Y.move (up0 rfl rfl rfl) rfl rfl) rfl ?_
    refine OpsFrom.v (Y.lssZ (b := 0) (up0 rfl rfl rfl) rfl rfl rfl rfl rfl) rfl ?_
    refine OpsFrom.v (Doing.isB (c := true) (decide_eq_true a6_2) (Y.move (up0 rfl rfl rfl) rfl rfl)) rfl ?_
    refine OpsFrom.v (Doing.skip _ _ _ _ rfl rfl rfl rfl (dlt rfl (Nat.le_of_ble_eq_true rfl))) rfl ?_
    refine OpsFrom.v (Doing.skip _ _ _ _ rfl rfl rfl rfl (dlt rfl (Nat.le_of_ble_eq_true rfl))) rfl ?_
    refine OpsFrom.v (Y.pickT (up0 rfl rfl rfl) rfl rfl rfl) rfl ?_
    refine OpsFrom.v (Y.move (up0 rfl rfl rfl) rfl rfl) rfl ?_
    refine OpsFrom.v (Doing.skip _ _ _ _ rfl rfl rfl rfl (dlt rfl (Nat.le_of_ble_eq_true rfl))) rfl ?_
    refine OpsFrom.v (Doing.skip _ _ _ _ rfl rfl rfl rfl (dlt rfl (Nat.le_of_ble_eq_true rfl))) rfl ?_
    refine OpsFrom.v (Doing.skip _ _ _ _ rfl rfl rfl rfl (dlt rfl (Nat.le_of_ble_eq_true rfl))) rfl ?_
    refine OpsFrom.v (Y.pickT (up0 rfl rfl rfl) rfl rfl rfl) rfl ?_
    refine OpsFrom.v (Y.move (up0 rfl rfl rfl) rfl rfl) rfl ?_
    refine OpsFrom.v (Doing.skip _ _ _ _ rfl rfl rfl rfl (dlt rfl (Nat.le_of_ble_eq_true rfl))) rfl ?_
    refine OpsFrom.v (Doing.skip _ _ _ _ rfl rfl rfl rfl (dlt rfl (Nat.le_of_ble_eq_true rfl))) rfl ?_
    refine OpsFrom.v (Doing.skip _ _ _ _ rfl rfl rfl rfl (dlt rfl (Nat.le_of_ble_eq_true rfl))) rfl ?_
    refine OpsFrom.v (Doing.skip _ _ _ _ rfl rfl rfl rfl (dlt rfl (Nat.le_of_ble_eq_true rfl))) rfl ?_
    refine OpsFrom.v (Doing.skipU _ _ _ _ rfl rfl rfl rfl (dlt rfl (Nat.le_of_ble_eq_true rfl))) rfl ?_
    refine OpsFrom.v (Doing.skipU _ _ _ _ rfl rfl rfl rfl (dlt rfl (Nat.le_of_ble_eq_true rfl))) rfl ?_
    refine OpsFrom.v (Doing.skipU _ _ _ _ rfl rfl rfl rfl (dlt rfl (Nat.le_of_ble_eq_true rfl))) rfl ?_
    refine OpsFrom.v (Doing.skip _ _ _ _ rfl rfl rfl rfl (dlt rfl (Nat.le_of_ble_eq_true rfl))) rfl ?_
    refine OpsFrom.v (Doing.skip _ _ _ _ rfl rfl rfl rfl (dlt rfl (Nat.le_of_ble_eq_true rfl))) rfl ?_
    refine OpsFrom.v (Doing.skipU _ _ _ _ rfl rfl rfl rfl (dlt rfl (Nat.le_of_ble_eq_true rfl))) rfl ?_
    refine OpsFrom.v (Doing.skipU _ _ _ _ rfl rfl rfl rfl (dlt rfl (Nat.le_of_ble_eq_true rfl))) rfl ?_
    refine OpsFrom.v (Doing.skip _ _ _ _ rfl rfl rfl rfl (dlt rfl (Nat.le_of_ble_eq_true rfl))) rfl ?_
    refine OpsFrom.v (Doing.skip _ _ _ _ rfl rfl rfl rfl (dlt rfl (Nat.le_of_ble_eq_true rfl))) rfl ?_
    refine OpsFrom.v (Doing.skipU _ _ _ _ rfl rfl rfl rfl (dlt rfl (Nat.le_of_ble_eq_true rfl))) rfl ?_
    refine OpsFrom.v (Doing.skipU _ _ _ _ rfl rfl rfl rfl (dlt rfl (Nat.le_of_ble_eq_true rfl))) rfl ?_
    refine OpsFrom.v (Doing.skipU _ _ _ _ rfl rfl rfl rfl (dlt rfl (Nat.le_of_ble_eq_true rfl))) rfl ?_
    refine OpsFrom.v (Doing.skipU _ _ _ _ rfl rfl rfl rfl (dlt rfl (Nat.le_of_ble_eq_true rfl))) rfl ?_
    refine OpsFrom.v (Doing.skipU _ _ _ _ rfl rfl rfl rfl (dlt rfl (Nat.le_of_ble_eq_true rfl))) rfl ?_
    refine OpsFrom.v (Doing.skipU _ _ _ _ rfl rfl rfl rfl (dlt rfl (Nat.le_of_ble_eq_true rfl))) rfl ?_
    refine OpsFrom.v (Doing.skipU _ _ _ _ rfl rfl rfl rfl (dlt rfl (Nat.le_of_ble_eq_true rfl))) rfl ?_
    refine OpsFrom.v (Doing.skipU _ _ _ _ rfl rfl rfl rfl (dlt rfl (Nat.le_of_ble_eq_true rfl))) rfl ?_
    refine OpsFrom.v (Doing.skip _ _ _ _ rfl rfl rfl rfl (dlt rfl (Nat.le_of_ble_eq_true rfl))) rfl ?_
    refine OpsFrom.v (Y.pickT (up0 rfl rfl rfl) rfl rfl rfl) rfl ?_
    refine OpsFrom.v (Y.assign (up0 rfl rfl rfl) rfl rfl) rfl ?_
    refine OpsFrom.nil ?_
    refine Holds.seq ?_
    by_cases a7_8 : (n = m)
    · refine Holds.reg ?_
      refine OpsFrom.v (Y.move (up0 rfl rfl rfl) rfl rfl) rfl ?_
      refine OpsFrom.v (Y.move (up0 rfl rfl rfl) rfl rfl) rfl ?_
      refine OpsFrom.v (Y.ldAll ty25 rfl (up1 rfl rfl rfl rfl rfl rfl) rfl rfl rfl (by first | (with_reducible assumption) | omega | (simp only [lens, nonce_len, *]; first | done | omega) | decide | (split <;> simp only [lens, nonce_len, *]) | (with_reducible exact Lt.mono (by assumption) (by decide)) | (simp only [Cs.len]; done) | rfl) (by decide)) rfl ?_
      refine OpsFrom.v (Y.ldAll ty25 rfl (up1 rfl rfl rfl rfl rfl rfl) rfl rfl rfl (by first | (with_reducible assumption) | omega | (simp only [lens, nonce_len, *]; first | done | omega) | decide | (split <;> simp only [lens, nonce_len, *]) | (with_reducible exact Lt.mono (by assumption) (by decide)) | (simp only [Cs.len]; done) | rfl) (by decide)) rfl ?_
      refine OpsFrom.v (Y.eqR ty25 ty5 (by kernel_rfl) (up1 rfl rfl rfl rfl rfl rfl) rfl rfl rfl (by first | (with_reducible assumption) | omega | (simp only [lens, nonce_len, *]; first | done | omega) | decide | (split <;> simp only [lens, nonce_len, *]) | (with_reducible exact Lt.mono (by assumption) (by decide)) | (simp only [Cs.len]; done) | rfl) (by first | (with_reducible assumption) | omega | (simp only [lens, nonce_len, *]; first | done | omega) | decide | (split <;> simp only [lens, nonce_len, *]) | (with_reducible exact Lt.mono (by assumption) (by decide)) | (simp only [Cs.len]; done) | rfl)) rfl ?_
      refine OpsFrom.v (Y.move (up1 rfl rfl rfl rfl rfl rfl) rfl rfl) rfl ?_
      refine OpsFrom.v (Y.move (up1 rfl rfl rfl rfl rfl rfl) rfl rfl) rfl ?_
      refine OpsFrom.v (Y.eql (up1 rfl rfl rfl rfl rfl rfl) rfl rfl rfl) rfl ?_
      refine OpsFrom.v (Doing.isB (c := true) (decide_eq_true a7_8) (Y.move (up1 rfl rfl rfl rfl rfl rfl) rfl rfl)) rfl ?_
      refine OpsFrom.v (Y.move (up1 rfl rfl rfl rfl rfl rfl) rfl rfl) rfl ?_
      refine OpsFrom.v (Y.move (up1 rfl rfl rfl rfl rfl rfl) rfl rfl) rfl ?_
      refine OpsFrom.v (Y.eqB ty4 (up1 rfl rfl rfl rfl rfl rfl) rfl rfl rfl) rfl ?_
      refine OpsFrom.v (Y.pickT (up1 rfl rfl rfl rfl rfl rfl) rfl rfl rfl) rfl ?_
      refine OpsFrom.v (Doing.isB (c := true) (by first | exact nonce_eq1 a7_8 | exact nonce_eq2 b_n b_m a7_8) (Y.eqB ty4 (up1 rfl rfl rfl rfl rfl rfl) rfl rfl rfl)) rfl ?_
      refine OpsFrom.v (Y.pickT (up0 rfl rfl rfl) rfl rfl rfl) rfl ?_
      refine OpsFrom.v (Y.move (up0 rfl rfl rfl) rfl rfl) rfl ?_
      refine OpsFrom.v (Y.ia0 (i := 9) ty25 ty5 (up1 rfl rfl rfl rfl rfl rfl) rfl rfl rfl (by first | (with_reducible assumption) | omega | (simp only [lens, nonce_len, *]; first | done | omega) | decide | (split <;> simp only [lens, nonce_len, *]) | (with_reducible exact Lt.mono (by assumption) (by decide)) | (simp only [Cs.len]; done) | rfl)) rfl ?_
      refine OpsFrom.v (Y.ldI ty5 rfl (up1 rfl rfl rfl rfl rfl rfl) rfl rfl rfl (by first | (with_reducible assumption) | omega | (simp only [lens, nonce_len, *]; first | done | omega) | decide | (split <;> simp only [lens, nonce_len, *]) | (with_reducible exact Lt.mono (by assumption) (by decide)) | (simp only [Cs.len]; done) | rfl)) rfl ?_
      refine OpsFrom.v (Doing.isB (c := true) (decide_eq_true (nonce_hi _ _ (by decide))) (Y.eql (b := 0) (up1 rfl rfl rfl rfl rfl rfl) rfl rfl rfl)) rfl ?_
      refine OpsFrom.v (Y.pickT (up0 rfl rfl rfl) rfl rfl rfl) rfl ?_
      refine OpsFrom.v (Y.move (up0 rfl rfl rfl) rfl rfl) rfl ?_
      refine OpsFrom.v (Y.ia0 (i := 10) ty25 ty5 (up1 rfl rfl rfl rfl rfl rfl) rfl rfl rfl (by first | (with_reducible assumption) | omega | (simp only [lens, nonce_len, *]; first | done | omega) | decide | (split <;> simp only [lens, nonce_len, *]) | (with_reducible exact Lt.mono (by assumption) (by decide)) | (simp only [Cs.len]; done) | rfl)) rfl ?_
      refine OpsFrom.v (Y.ldI ty5 rfl (up1 rfl rfl rfl rfl rfl rfl) rfl rfl rfl (by first | (with_reducible assumption) | omega | (simp only [lens, nonce_len, *]; first | done | omega) | decide | (split <;> simp only [lens, nonce_len, *]) | (with_reducible exact Lt.mono (by assumption) (by decide)) | (simp only [Cs.len]; done) | rfl)) rfl ?_
      refine OpsFrom.v (Doing.isB (c := true) (decide_eq_true (nonce_hi _ _ (by decide))) (Y.eql (b := 0) (up1 rfl rfl rfl rfl rfl rfl) rfl rfl rfl)) rfl ?_
      refine OpsFrom.v (Y.pickT (up0 rfl rfl rfl) rfl rfl rfl) rfl ?_
      refine OpsFrom.v (Y.move (up0 rfl rfl rfl) rfl rfl) rfl ?_
      refine OpsFrom.v (Y.ia0 (i := 11) ty25 ty5 (up1 rfl rfl rfl rfl rfl rfl) rfl rfl rfl (by first | (with_reducible assumption) | omega | (simp only [lens, nonce_len, *]; first | done | omega) | decide | (split <;> simp only [lens, nonce_len, *]) | (with_reducible exact Lt.mono (by assumption) (by decide)) | (simp only [Cs.len]; done) | rfl)) rfl ?_
      refine OpsFrom.v (Y.ldI ty5 rfl (up1 rfl rfl rfl rfl rfl rfl) rfl rfl rfl (by first | (with_reducible assumption) | omega | (simp only [lens, nonce_len, *]; first | done | omega) | decide | (split <;> simp only [lens, nonce_len, *]) | (with_reducible exact Lt.mono (by assumption) (by decide)) | (simp only [Cs.len]; done) | rfl)) rfl ?_
      refine OpsFrom.v (Doing.isB (c := true) (decide_eq_true (nonce_hi _ _ (by decide))) (Y.eql (b := 0) (up1 rfl rfl rfl rfl rfl rfl) rfl rfl rfl)) rfl ?_
      refine OpsFrom.v (Y.pickT (up0 rfl rfl rfl) rfl rfl rfl) rfl ?_
      refine OpsFrom.v (Y.move (up0 rfl rfl rfl) rfl rfl) rfl ?_
      refine OpsFrom.v (Y.move (up1 rfl rfl rfl rfl rfl rfl) rfl rfl) rfl ?_
      refine OpsFrom.v (Y.pickT (up0 rfl rfl rfl) rfl rfl rfl) rfl ?_
      refine OpsFrom.v (Y.assign (up0 rfl rfl rfl) rfl rfl) rfl ?_
      refine OpsFrom.nil ?_
      refine Holds.ret ?_
      exact Holds.ret1 (.inl rfl) rfl (.tmp _ _ rfl) (.same _) rfl
    · refine Holds.reg ?_
      refine OpsFrom.v (Y.move (up0 rfl rfl rfl) rfl rfl) rfl ?_
      refine OpsFrom.v (Y.move (up0 rfl rfl rfl) rfl rfl) rfl ?_
      refine OpsFrom.v (Y.ldAll ty25 rfl (up1 rfl rfl rfl rfl rfl rfl) rfl rfl rfl (by first | (with_reducible assumption) | omega | (simp only [lens, nonce_len, *]; first | done | omega) | decide | (split <;> simp only [lens, nonce_len, *]) | (with_reducible exact Lt.mono (by assumption) (by decide)) | (simp only [Cs.len]; done) | rfl) (by decide)) rfl ?_
      refine OpsFrom.v (Y.ldAll ty25 rfl (up1 rfl rfl rfl rfl rfl rfl) rfl rfl rfl (by first | (with_reducible assumption) | omega | (simp only [lens, nonce_len, *]; first | done | omega) | decide | (split <;> simp only [lens, nonce_len, *]) | (with_reducible exact Lt.mono (by assumption) (by decide)) | (simp only [Cs.len]; done) | rfl) (by decide)) rfl ?_
      refine OpsFrom.v (Y.eqR ty25 ty5 (by kernel_rfl) (up1 rfl rfl rfl rfl rfl rfl) rfl rfl rfl (by first | (with_reducible assumption) | omega | (simp only [lens, nonce_len, *]; first | done | omega) | decide | (split <;> simp only [lens, nonce_len, *]) | (with_reducible exact Lt.mono (by assumption) (by decide)) | (simp only [Cs.len]; done) | rfl) (by first | (with_reducible assumption) | omega | (simp only [lens, nonce_len, *]; first | done | omega) | decide | (split <;> simp only [lens, nonce_len, *]) | (with_reducible exact Lt.mono (by assumption) (by decide)) | (simp only [Cs.len]; done) | rfl)) rfl ?_
      refine OpsFrom.v (Y.move (up1 rfl rfl rfl rfl rfl rfl) rfl rfl) rfl ?_
      refine OpsFrom.v (Y.move (up1 rfl rfl rfl rfl rfl rfl) rfl rfl) rfl ?_
      refine OpsFrom.v (Y.eql (up1 rfl rfl rfl rfl rfl rfl) rfl rfl rfl) rfl ?_
      refine OpsFrom.v (Doing.isB (c := false) (decide_eq_false a7_8) (Y.move (up1 rfl rfl rfl rfl rfl rfl) rfl rfl)) rfl ?_
      refine OpsFrom.v (Doing.skip _ _ _ _ rfl rfl rfl rfl (dlt rfl (Nat.le_of_ble_eq_true rfl))) rfl ?_
      refine OpsFrom.v (Doing.skip _ _ _ _ rfl rfl rfl rfl (dlt rfl (Nat.le_of_ble_eq_true rfl))) rfl ?_
      refine OpsFrom.v (Doing.skip _ _ _ _ rfl rfl rfl rfl (dlt rfl (Nat.le_of_ble_eq_true rfl))) rfl ?_
      refine OpsFrom.v (Y.pickF (up1 rfl rfl rfl rfl rfl rfl) rfl rfl rfl) rfl ?_
      refine OpsFrom.v (Doing.isB (c := true) (by first | exact nonce_eq1 a7_8 | exact nonce_eq2 b_n b_m a7_8) (Y.eqB ty4 (up1 rfl rfl rfl rfl rfl rfl) rfl rfl rfl)) rfl ?_
      refine OpsFrom.v (Y.pickT (up0 rfl rfl rfl) rfl rfl rfl) rfl ?_
      refine OpsFrom.v (Y.move (up0 rfl rfl rfl) rfl rfl) rfl ?_
      refine OpsFrom.v (Y.ia0 (i := 9) ty25 ty5 (up1 rfl rfl rfl rfl rfl rfl) rfl rfl rfl (by first | (with_reducible assumption) | omega | (simp only [lens, nonce_len, *]; first | done | omega) | decide | (split <;> simp only [lens, nonce_len, *]) | (with_reducible exact Lt.mono (by assumption) (by decide)) | (simp only [Cs.len]; done) | rfl)) rfl ?_
      refine OpsFrom.v (Y.ldI ty5 rfl (up1 rfl rfl rfl rfl rfl rfl) rfl rfl rfl (by first | (with_reducible assumption) | omega | (simp only [lens, nonce_len, *]; first | done | omega) | decide | (split <;> simp only [lens, nonce_len, *]) | (with_reducible exact Lt.mono (by assumption) (by decide)) | (simp only [Cs.len]; done) | rfl)) rfl ?_
      refine OpsFrom.v (Doing.isB (c := true) (decide_eq_true (nonce_hi _ _ (by decide))) (Y.eql (b := 0) (up1 rfl rfl rfl rfl rfl rfl) rfl rfl rfl)) rfl ?_
      refine OpsFrom.v (Y.pickT (up0 rfl rfl rfl) rfl rfl rfl) rfl ?_
      refine OpsFrom.v (Y.move (up0 rfl rfl rfl) rfl rfl) rfl ?_
      refine OpsFrom.v (Y.ia0 (i := 10) ty25 ty5 (up1 rfl rfl rfl rfl rfl rfl) rfl rfl rfl (by first | (with_reducible assumption) | omega | (simp only [lens, nonce_len, *]; first | done | omega) | decide | (split <;> simp only [lens, nonce_len, *]) | (with_reducible exact Lt.mono (by assumption) (by decide)) | (simp only [Cs.len]; done) | rfl)) rfl ?_
      refine OpsFrom.v (Y.ldI ty5 rfl (up1 rfl rfl rfl rfl rfl rfl) rfl rfl rfl (by first | (with_reducible assumption) | omega | (simp only [lens, nonce_len, *]; first | done | omega) | decide | (split <;> simp only [lens, nonce_len, *]) | (with_reducible exact Lt.mono (by assumption) (by decide)) | (simp only [Cs.len]; done) | rfl)) rfl ?_
      refine OpsFrom.v (Doing.isB (c := true) (decide_eq_true (nonce_hi _ _ (by decide))) (Y.eql (b := 0) (up1 rfl rfl rfl rfl rfl rfl) rfl rfl rfl)) rfl ?_
      refine OpsFrom.v (Y.pickT (up0 rfl rfl rfl) rfl rfl rfl) rfl ?_
      refine OpsFrom.v (Y.move (up0 rfl rfl rfl) rfl rfl) rfl ?_
      refine OpsFrom.v (Y.ia0 (i := 11) ty25 ty5 (up1 rfl rfl rfl rfl rfl rfl) rfl rfl rfl (by first | (with_reducible assumption) | omega | (simp only [lens, nonce_len, *]; first | done | omega) | decide | (split <;> simp only [lens, nonce_len, *]) | (with_reducible exact Lt.mono (by assumption) (by decide)) | (simp only [Cs.len]; done) | rfl)) rfl ?_
      refine OpsFrom.v (Y.ldI ty5 rfl (up1 rfl rfl rfl rfl rfl rfl) rfl rfl rfl (by first | (with_reducible assumption) | omega | (simp only [lens, nonce_len, *]; first | done | omega) | decide | (split <;> simp only [lens, nonce_len, *]) | (with_reducible exact Lt.mono (by assumption) (by decide)) | (simp only [Cs.len]; done) | rfl)) rfl ?_
      refine OpsFrom.v (Doing.isB (c := true) (decide_eq_true (nonce_hi _ _ (by decide))) (Y.eql (b := 0) (up1 rfl rfl rfl rfl rfl rfl) rfl rfl rfl)) rfl ?_
      refine OpsFrom.v (Y.pickT (up0 rfl rfl rfl) rfl rfl rfl) rfl ?_
      refine OpsFrom.v (Y.move (up0 rfl rfl rfl) rfl rfl) rfl ?_
      refine OpsFrom.v (Y.move (up1 rfl rfl rfl rfl rfl rfl) rfl rfl) rfl ?_
      refine OpsFrom.v (Y.pickT (up0 rfl rfl rfl) rfl rfl rfl) rfl ?_
      refine OpsFrom.v (Y.assign (up0 rfl rfl rfl) rfl rfl) rfl ?_
      refine OpsFrom.nil ?_
      refine Holds.ret ?_
      exact Holds.ret1 (.inl rfl) rfl (.tmp _ _ rfl) (.same _) rfl
  · by_cases a6_6 : (((4194304 : Nat) : Int) < many)
    · refine Holds.reg ?_
      refine OpsFrom.v (Y.move (up0 rfl rfl rfl) rfl rfl) rfl ?_
      refine OpsFrom.v (Y.lssZ (b := 0) (up0 rfl rfl rfl) rfl rfl rfl rfl rfl) rfl ?_
      refine OpsFrom.v (Doing.isB (c := false) (decide_eq_false a6_2) (Y.move (up0 rfl rfl rfl) rfl rfl)) rfl ?_
      refine OpsFrom.v (Y.move (up1 rfl rfl rfl rfl rfl rfl) rfl rfl) rfl ?_
      refine OpsFrom.v (Y.gtrZ (b := 4194304) (up1 rfl rfl rfl rfl rfl rfl) rfl rfl rfl rfl rfl) rfl ?_
      refine OpsFrom.v (Y.pickF (up0 rfl rfl rfl) rfl rfl rfl) rfl ?_
      refine OpsFrom.v (Doing.isB (c := true) (decide_eq_true a6_6) (Y.move (up0 rfl rfl rfl) rfl rfl)) rfl ?_
      refine OpsFrom.v (Doing.skip _ _ _ _ rfl rfl rfl rfl (dlt rfl (Nat.le_of_ble_eq_true rfl))) rfl ?_
      refine OpsFrom.v (Doing.skip _ _ _ _ rfl rfl rfl rfl (dlt rfl (Nat.le_of_ble_eq_true rfl))) rfl ?_
      refine OpsFrom.v (Doing.skip _ _ _ _ rfl rfl rfl rfl (dlt rfl (Nat.le_of_ble_eq_true rfl))) rfl ?_
      refine OpsFrom.v (Y.pickT (up0 rfl rfl rfl) rfl rfl rfl) rfl ?_
      refine OpsFrom.v (Y.move (up0 rfl rfl rfl) rfl rfl) rfl ?_
      refine OpsFrom.v (Doing.skip _ _ _ _ rfl rfl rfl rfl (dlt rfl (Nat.le_of_ble_eq_true rfl))) rfl ?_
      refine OpsFrom.v (Doing.skip _ _ _ _ rfl rfl rfl rfl (dlt rfl (Nat.le_of_ble_eq_true rfl))) rfl ?_
      refine OpsFrom.v (Doing.skip _ _ _ _ rfl rfl rfl rfl (dlt rfl (Nat.le_of_ble_eq_true rfl))) rfl ?_
      refine OpsFrom.v (Doing.skip _ _ _ _ rfl rfl rfl rfl (dlt rfl (Nat.le_of_ble_eq_true rfl))) rfl ?_
      refine OpsFrom.v (Doing.skipU _ _ _ _ rfl rfl rfl rfl (dlt rfl (Nat.le_of_ble_eq_true rfl))) rfl ?_
      refine OpsFrom.v (Doing.skipU _ _ _ _ rfl rfl rfl rfl (dlt rfl (Nat.le_of_ble_eq_true rfl))) rfl ?_
      refine OpsFrom.v (Doing.skipU _ _ _ _ rfl rfl rfl rfl (dlt rfl (Nat.le_of_ble_eq_true rfl))) rfl ?_
      refine OpsFrom.v (Doing.skip _ _ _ _ rfl rfl rfl rfl (dlt rfl (Nat.le_of_ble_eq_true rfl))) rfl ?_
      refine OpsFrom.v (Doing.skip _ _ _ _ rfl rfl rfl rfl (dlt rfl (Nat.le_of_ble_eq_true rfl))) rfl ?_
      refine OpsFrom.v (Doing.skipU _ _ _ _ rfl rfl rfl rfl (dlt rfl (Nat.le_of_ble_eq_true rfl))) rfl ?_
      refine OpsFrom.v (Doing.skipU _ _ _ _ rfl rfl rfl rfl (dlt rfl (Nat.le_of_ble_eq_true rfl))) rfl ?_
      refine OpsFrom.v (Doing.skip _ _ _ _ rfl rfl rfl rfl (dlt rfl (Nat.le_of_ble_eq_true rfl))) rfl ?_
      refine OpsFrom.v (Doing.skip _ _ _ _ rfl rfl rfl rfl (dlt rfl (Nat.le_of_ble_eq_true rfl))) rfl ?_
      refine OpsFrom.v (Doing.skipU _ _ _ _ rfl rfl rfl rfl (dlt rfl (Nat.le_of_ble_eq_true rfl))) rfl ?_
      refine OpsFrom.v (Doing.skipU _ _ _ _ rfl rfl rfl rfl (dlt rfl (Nat.le_of_ble_eq_true rfl))) rfl ?_
      refine OpsFrom.v (Doing.skipU _ _ _ _ rfl rfl rfl rfl (dlt rfl (Nat.le_of_ble_eq_true rfl))) rfl ?_
      refine OpsFrom.v (Doing.skipU _ _ _ _ rfl rfl rfl rfl (dlt rfl (Nat.le_of_ble_eq_true rfl))) rfl ?_
      refine OpsFrom.v (Doing.skipU _ _ _ _ rfl rfl rfl rfl (dlt rfl (Nat.le_of_ble_eq_true rfl))) rfl ?_
      refine OpsFrom.v (Doing.skipU _ _ _ _ rfl rfl rfl rfl (dlt rfl (Nat.le_of_ble_eq_true rfl))) rfl ?_
      refine OpsFrom.v (Doing.skipU _ _ _ _ rfl rfl rfl rfl (dlt rfl (Nat.le_of_ble_eq_true rfl))) rfl ?_
      refine OpsFrom.v (Doing.skipU _ _ _ _ rfl rfl rfl rfl (dlt rfl (Nat.le_of_ble_eq_true rfl))) rfl ?_
      refine OpsFrom.v (Doing.skip _ _ _ _ rfl rfl rfl rfl (dlt rfl (Nat.le_of_ble_eq_true rfl))) rfl ?_
      refine OpsFrom.v (Y.pickT (up0 rfl rfl rfl) rfl rfl rfl) rfl ?_
      refine OpsFrom.v (Y.assign (up0 rfl rfl rfl) rfl rfl) rfl ?_
      refine OpsFrom.nil ?_
      refine Holds.seq ?_
      by_cases a7_8 : (n = m)
      · refine Holds.reg ?_
        refine OpsFrom.v (Y.move (up0 rfl rfl rfl) rfl rfl) rfl ?_
        refine OpsFrom.v (Y.move (up0 rfl rfl rfl) rfl rfl) rfl ?_
        refine OpsFrom.v (Y.ldAll ty25 rfl (up1 rfl rfl rfl rfl rfl rfl) rfl rfl rfl (by first | (with_reducible assumption) | omega | (simp only [lens, nonce_len, *]; first | done | omega) | decide | (split <;> simp only [lens, nonce_len, *]) | (with_reducible exact Lt.mono (by assumption) (by decide)) | (simp only [Cs.len]; done) | rfl) (by decide)) rfl ?_
        refine OpsFrom.v (Y.ldAll ty25 rfl (up1 rfl rfl rfl rfl rfl rfl) rfl rfl rfl (by first | (with_reducible assumption) | omega | (simp only [lens, nonce_len, *]; first | done | omega) | decide | (split <;> simp only [lens, nonce_len, *]) | (with_reducible exact Lt.mono (by assumption) (by decide)) | (simp only [Cs.len]; done) | rfl) (by decide)) rfl ?_
        refine OpsFrom.v (Y.eqR ty25 ty5 (by kernel_rfl) (up1 rfl rfl rfl rfl rfl rfl) rfl rfl rfl (by first | (with_reducible assumption) | omega | (simp only [lens, nonce_len, *]; first | done | omega) | decide | (split <;> simp only [lens, nonce_len, *]) | (with_reducible exact Lt.mono (by assumption) (by decide)) | (simp only [Cs.len]; done) | rfl) (by first | (with_reducible assumption) | omega | (simp only [lens, nonce_len, *]; first | done | omega) | decide | (split <;> simp only [lens, nonce_len, *]) | (with_reducible exact Lt.mono (by assumption) (by decide)) | (simp only [Cs.len]; done) | rfl)) rfl ?_
        refine OpsFrom.v (Y.move (up1 rfl rfl rfl rfl rfl rfl) rfl rfl) rfl ?_
        refine OpsFrom.v (Y.move (up1 rfl rfl rfl rfl rfl rfl) rfl rfl) rfl ?_
        refine OpsFrom.v (Y.eql (up1 rfl rfl rfl rfl rfl rfl) rfl rfl rfl) rfl ?_
        refine OpsFrom.v (Doing.isB (c := true) (decide_eq_true a7_8) (Y.move (up1 rfl rfl rfl rfl rfl rfl) rfl rfl)) rfl ?_
        refine OpsFrom.v (Y.move (up1 rfl rfl rfl rfl rfl rfl) rfl rfl) rfl ?_
        refine OpsFrom.v (Y.move (up1 rfl rfl rfl rfl rfl rfl) rfl rfl) rfl ?_
        refine OpsFrom.v (Y.eqB ty4 (up1 rfl rfl rfl rfl rfl rfl) rfl rfl rfl) rfl ?_
        refine OpsFrom.v (Y.pickT (up1 rfl rfl rfl rfl rfl rfl) rfl rfl rfl) rfl ?_
        refine OpsFrom.v (Doing.isB (c := true) (by first | exact nonce_eq1 a7_8 | exact nonce_eq2 b_n b_m a7_8) (Y.eqB ty4 (up1 rfl rfl rfl rfl rfl rfl) rfl rfl rfl)) rfl ?_
        refine OpsFrom.v (Y.pickT (up0 rfl rfl rfl) rfl rfl rfl) rfl ?_
        refine OpsFrom.v (Y.move (up0 rfl rfl rfl) rfl rfl) rfl ?_
        refine OpsFrom.v (Y.ia0 (i := 9) ty25 ty5 (up1 rfl rfl rfl rfl rfl rfl) rfl rfl rfl (by first | (with_reducible assumption) | omega | (simp only [lens, nonce_len, *]; first | done | omega) | decide | (split <;> simp only [lens, nonce_len, *]) | (with_reducible exact Lt.mono (by assumption) (by decide)) | (simp only [Cs.len]; done) | rfl)) rfl ?_
        refine OpsFrom.v (Y.ldI ty5 rfl (up1 rfl rfl rfl rfl rfl rfl) rfl rfl rfl (by first | (with_reducible assumption) | omega | (simp only [lens, nonce_len, *]; first | done | omega) | decide | (split <;> simp only [lens, nonce_len, *]) | (with_reducible exact Lt.mono (by assumption) (by decide)) | (simp only [Cs.len]; done) | rfl)) rfl ?_
        refine OpsFrom.v (Doing.isB (c := true) (decide_eq_true (nonce_hi _ _ (by decide))) (Y.eql (b := 0) (up1 rfl rfl rfl rfl rfl rfl) rfl rfl rfl)) rfl ?_
        refine OpsFrom.v (Y.pickT (up0 rfl rfl rfl) rfl rfl rfl) rfl ?_
        refine OpsFrom.v (Y.move (up0 rfl rfl rfl) rfl rfl) rfl ?_
        refine OpsFrom.v (Y.ia0 (i := 10) ty25 ty5 (up1 rfl rfl rfl rfl rfl rfl) rfl rfl rfl (by first | (with_reducible assumption) | omega | (simp only [lens, nonce_len, *]; first | done | omega) | decide | (split <;> simp only [lens, nonce_len, *]) | (with_reducible exact Lt.mono (by assumption) (by decide)) | (simp only [Cs.len]; done) | rfl)) rfl ?_
        refine OpsFrom.v (Y.ldI ty5 rfl (up1 rfl rfl rfl rfl rfl rfl) rfl rfl rfl (by first | (with_reducible assumption) | omega | (simp only [lens, nonce_len, *]; first | done | omega) | decide | (split <;> simp only [lens, nonce_len, *]) | (with_reducible exact Lt.mono (by assumption) (by decide)) | (simp only [Cs.len]; done) | rfl)) rfl ?_
        refine OpsFrom.v (Doing.isB (c := true) (decide_eq_true (nonce_hi _ _ (by decide))) (Y.eql (b := 0) (up1 rfl rfl rfl rfl rfl rfl) rfl rfl rfl)) rfl ?_
        refine OpsFrom.v (Y.pickT (up0 rfl rfl rfl) rfl rfl rfl) rfl ?_
        refine OpsFrom.v (Y.move (up0 rfl rfl rfl) rfl rfl) rfl ?_
        refine OpsFrom.v (Y.ia0 (i := 11) ty25 ty5 (up1 rfl rfl rfl rfl rfl rfl) rfl rfl rfl (by first | (with_reducible assumption) | omega | (simp only [lens, nonce_len, *]; first | done | omega) | decide | (split <;> simp only [lens, nonce_len, *]) | (with_reducible exact Lt.mono (by assumption) (by decide)) | (simp only [Cs.len]; done) | rfl)) rfl ?_
        refine OpsFrom.v (Y.ldI ty5 rfl (up1 rfl rfl rfl rfl rfl rfl) rfl rfl rfl (by first | (with_reducible assumption) | omega | (simp only [lens, nonce_len, *]; first | done | omega) | decide | (split <;> simp only [lens, nonce_len, *]) | (with_reducible exact Lt.mono (by assumption) (by decide)) | (simp only [Cs.len]; done) | rfl)) rfl ?_
        refine OpsFrom.v (Doing.isB (c := true) (decide_eq_true (nonce_hi _ _ (by decide))) (Y.eql (b := 0) (up1 rfl rfl rfl rfl rfl rfl) rfl rfl rfl)) rfl ?_
        refine OpsFrom.v (Y.pickT (up0 rfl rfl rfl) rfl rfl rfl) rfl ?_
        refine OpsFrom.v (Y.move (up0 rfl rfl rfl) rfl rfl) rfl ?_
        refine OpsFrom.v (Y.move (up1 rfl rfl rfl rfl rfl rfl) rfl rfl) rfl ?_
        refine OpsFrom.v (Y.pickT (up0 rfl rfl rfl) rfl rfl rfl) rfl ?_
        refine OpsFrom.v (Y.assign (up0 rfl rfl rfl) rfl rfl) rfl ?_
        refine OpsFrom.nil ?_
        refine Holds.ret ?_
        exact Holds.ret1 (.inl rfl) rfl (.tmp _ _ rfl) (.same _) rfl
      · refine Holds.reg ?_
        refine OpsFrom.v (Y.move (up0 rfl rfl rfl) rfl rfl) rfl ?_
        refine OpsFrom.v (Y.move (up0 rfl rfl rfl) rfl rfl) rfl ?_
        refine OpsFrom.v (Y.ldAll ty25 rfl (up1 rfl rfl rfl rfl rfl rfl) rfl rfl rfl (by first | (with_reducible assumption) | omega | (simp only [lens, nonce_len, *]; first | done | omega) | decide | (split <;> simp only [lens, nonce_len, *]) | (with_reducible exact Lt.mono (by assumption) (by decide)) | (simp only [Cs.len]; done) | rfl) (by decide)) rfl ?_
        refine OpsFrom.v (Y.ldAll ty25 rfl (up1 rfl rfl rfl rfl rfl rfl) rfl rfl rfl (by first | (with_reducible assumption) | omega | (simp only [lens, nonce_len, *]; first | done | omega) | decide | (split <;> simp only [lens, nonce_len, *]) | (with_reducible exact Lt.mono (by assumption) (by decide)) | (simp only [Cs.len]; done) | rfl) (by decide)) rfl ?_
        refine OpsFrom.v (Y.eqR ty25 ty5 (by kernel_rfl) (up1 rfl rfl rfl rfl rfl rfl) rfl rfl rfl (by first | (with_reducible assumption) | omega | (simp only [lens, nonce_len, *]; first | done | omega) | decide | (split <;> simp only [lens, nonce_len, *]) | (with_reducible exact Lt.mono (by assumption) (by decide)) | (simp only [Cs.len]; done) | rfl) (by first | (with_reducible assumption) | omega | (simp only [lens, nonce_len, *]; first | done | omega) | decide | (split <;> simp only [lens, nonce_len, *]) | (with_reducible exact Lt.mono (by assumption) (by decide)) | (simp only [Cs.len]; done) | rfl)) rfl ?_
        refine OpsFrom.v (Y.move (up1 rfl rfl rfl rfl rfl rfl) rfl rfl) rfl ?_
        refine OpsFrom.v (Y.move (up1 rfl rfl rfl rfl rfl rfl) rfl rfl) rfl ?_
        refine OpsFrom.v (Y.eql (up1 rfl rfl rfl rfl rfl rfl) rfl rfl rfl) rfl ?_
        refine OpsFrom.v (Doing.isB (c := false) (decide_eq_false a7_8) (Y.move (up1 rfl rfl rfl rfl rfl rfl) rfl rfl)) rfl ?_
        refine OpsFrom.v (Doing.skip _ _ _ _ rfl rfl rfl rfl (dlt rfl (Nat.le_of_ble_eq_true rfl))) rfl ?_
        refine OpsFrom.v (Doing.skip _ _ _ _ rfl rfl rfl rfl (dlt rfl (Nat.le_of_ble_eq_true rfl))) rfl ?_
        refine OpsFrom.v (Doing.skip _ _ _ _ rfl rfl rfl rfl (dlt rfl (Nat.le_of_ble_eq_true rfl))) rfl ?_
        refine OpsFrom.v (Y.pickF (up1 rfl rfl rfl rfl rfl rfl) rfl rfl rfl) rfl ?_
        refine OpsFrom.v (Doing.isB (c := true) (by first | exact nonce_eq1 a7_8 | exact nonce_eq2 b_n b_m a7_8) (Y.eqB ty4 (up1 rfl rfl rfl rfl rfl rfl) rfl rfl rfl)) rfl ?_
        refine OpsFrom.v (Y.pickT (up0 rfl rfl rfl) rfl rfl rfl) rfl ?_
        refine OpsFrom.v (Y.move (up0 rfl rfl rfl) rfl rfl) rfl ?_
        refine OpsFrom.v (Y.ia0 (i := 9) ty25 ty5 (up1 rfl rfl rfl rfl rfl rfl) rfl rfl rfl (by first | (with_reducible assumption) | omega | (simp only [lens, nonce_len, *]; first | done | omega) | decide | (split <;> simp only [lens, nonce_len, *]) | (with_reducible exact Lt.mono (by assumption) (by decide)) | (simp only [Cs.len]; done) | rfl)) rfl ?_
        refine OpsFrom.v (Y.ldI ty5 rfl (up1 rfl rfl rfl rfl rfl rfl) rfl rfl rfl (by first | (with_reducible assumption) | omega | (simp only [lens, nonce_len, *]; first | done | omega) | decide | (split <;> simp only [lens, nonce_len, *]) | (with_reducible exact Lt.mono (by assumption) (by decide)) | (simp only [Cs.len]; done) | rfl)) rfl ?_
        refine OpsFrom.v (Doing.isB (c := true) (decide_eq_true (nonce_hi _ _ (by decide))) (Y.eql (b := 0) (up1 rfl rfl rfl rfl rfl rfl) rfl rfl rfl)) rfl ?_
        refine OpsFrom.v (Y.pickT (up0 rfl rfl rfl) rfl rfl rfl) rfl ?_
        refine OpsFrom.v (Y.move (up0 rfl rfl rfl) rfl rfl) rfl ?_
        refine OpsFrom.v (Y.ia0 (i := 10) ty25 ty5 (up1 rfl rfl rfl rfl rfl rfl) rfl rfl rfl (by first | (with_reducible assumption) | omega | (simp only [lens, nonce_len, *]; first | done | omega) | decide | (split <;> simp only [lens, nonce_len, *]) | (with_reducible exact Lt.mono (by assumption) (by decide)) | (simp only [Cs.len]; done) | rfl)) rfl ?_
        refine OpsFrom.v (Y.ldI ty5 rfl (up1 rfl rfl rfl rfl rfl rfl) rfl rfl rfl (by first | (with_reducible assumption) | omega | (simp only [lens, nonce_len, *]; first | done | omega) | decide | (split <;> simp only [lens, nonce_len, *]) | (with_reducible exact Lt.mono (by assumption) (by decide)) | (simp only [Cs.len]; done) | rfl)) rfl ?_
        refine OpsFrom.v (Doing.isB (c := true) (decide_eq_true (nonce_hi _ _ (by decide))) (Y.eql (b := 0) (up1 rfl rfl rfl rfl rfl rfl) rfl rfl rfl)) rfl ?_
        refine OpsFrom.v (Y.pickT (up0 rfl rfl rfl) rfl rfl rfl) rfl ?_
        refine OpsFrom.v (Y.move (up0 rfl rfl rfl) rfl rfl) rfl ?_
        refine OpsFrom.v (Y.ia0 (i := 11) ty25 ty5 (up1 rfl rfl rfl rfl rfl rfl) rfl rfl rfl (by first | (with_reducible assumption) | omega | (simp only [lens, nonce_len, *]; first | done | omega) | decide | (split <;> simp only [lens, nonce_len, *]) | (with_reducible exact Lt.mono (by assumption) (by decide)) | (simp only [Cs.len]; done) | rfl)) rfl ?_
        refine OpsFrom.v (Y.ldI ty5 rfl (up1 rfl rfl rfl rfl rfl rfl) rfl rfl rfl (by first | (with_reducible assumption) | omega | (simp only [lens, nonce_len, *]; first | done | omega) | decide | (split <;> simp only [lens, nonce_len, *]) | (with_reducible exact Lt.mono (by assumption) (by decide)) | (simp only [Cs.len]; done) | rfl)) rfl ?_
        refine OpsFrom.v (Doing.isB (c := true) (decide_eq_true (nonce_hi _ _ (by decide))) (Y.eql (b := 0) (up1 rfl rfl rfl rfl rfl rfl) rfl rfl rfl)) rfl ?_
        refine OpsFrom.v (Y.pickT (up0 rfl rfl rfl) rfl rfl rfl) rfl ?_
        refine OpsFrom.v (Y.move (up0 rfl rfl rfl) rfl rfl) rfl ?_
        refine OpsFrom.v (Y.move (up1 rfl rfl rfl rfl rfl rfl) rfl rfl) rfl ?_
        refine OpsFrom.v (Y.pickT (up0 rfl rfl rfl) rfl rfl rfl) rfl ?_
        refine OpsFrom.v (Y.assign (up0 rfl rfl rfl) rfl rfl) rfl ?_
        refine OpsFrom.nil ?_
        refine Holds.ret ?_
        exact Holds.ret1 (.inl rfl) rfl (.tmp _ _ rfl) (.same _) rfl
    · by_cases a6_11 : (many < few)
      · refine Holds.reg ?_
        refine OpsFrom.v (Y.move (up0 rfl rfl rfl) rfl rfl) rfl ?_
        refine OpsFrom.v (Y.lssZ (b := 0) (up0 rfl rfl rfl) rfl rfl rfl rfl rfl) rfl ?_
        refine OpsFrom.v (Doing.isB (c := false) (decide_eq_false a6_2) (Y.move (up0 rfl rfl rfl) rfl rfl)) rfl ?_
        refine OpsFrom.v (Y.move (up1 rfl rfl rfl rfl rfl rfl) rfl rfl) rfl ?_
        refine OpsFrom.v (Y.gtrZ (b := 4194304) (up1 rfl rfl rfl rfl rfl rfl) rfl rfl rfl rfl rfl) rfl ?_
        refine OpsFrom.v (Y.pickF (up0 rfl rfl rfl) rfl rfl rfl) rfl ?_
        refine OpsFrom.v (Doing.isB (c := false) (decide_eq_false a6_6) (Y.move (up0 rfl rfl rfl) rfl rfl)) rfl ?_
        refine OpsFrom.v (Y.move (up1 rfl rfl rfl rfl rfl rfl) rfl rfl) rfl ?_
        refine OpsFrom.v (Y.move (up1 rfl rfl rfl rfl rfl rfl) rfl rfl) rfl ?_
        refine OpsFrom.v (Y.gtrZ (up1 rfl rfl rfl rfl rfl rfl) rfl rfl rfl rfl rfl) rfl ?_
        refine OpsFrom.v (Y.pickF (up0 rfl rfl rfl) rfl rfl rfl) rfl ?_
        refine OpsFrom.v (Doing.isB (c := true) (decide_eq_true a6_11) (Y.move (up0 rfl rfl rfl) rfl rfl)) rfl ?_
        refine OpsFrom.v (Doing.skip _ _ _ _ rfl rfl rfl rfl (dlt rfl (Nat.le_of_ble_eq_true rfl))) rfl ?_
        refine OpsFrom.v (Doing.skip _ _ _ _ rfl rfl rfl rfl (dlt rfl (Nat.le_of_ble_eq_true rfl))) rfl ?_
        refine OpsFrom.v (Doing.skip _ _ _ _ rfl rfl rfl rfl (dlt rfl (Nat.le_of_ble_eq_true rfl))) rfl ?_
        refine OpsFrom.v (Doing.skip _ _ _ _ rfl rfl rfl rfl (dlt rfl (Nat.le_of_ble_eq_true rfl))) rfl ?_
        refine OpsFrom.v (Doing.skipU _ _ _ _ rfl rfl rfl rfl (dlt rfl (Nat.le_of_ble_eq_true rfl))) rfl ?_
        refine OpsFrom.v (Doing.skipU _ _ _ _ rfl rfl rfl rfl (dlt rfl (Nat.le_of_ble_eq_true rfl))) rfl ?_
        refine OpsFrom.v (Doing.skipU _ _ _ _ rfl rfl rfl rfl (dlt rfl (Nat.le_of_ble_eq_true rfl))) rfl ?_
        refine OpsFrom.v (Doing.skip _ _ _ _ rfl rfl rfl rfl (dlt rfl (Nat.le_of_ble_eq_true rfl))) rfl ?_
        refine OpsFrom.v (Doing.skip _ _ _ _ rfl rfl rfl rfl (dlt rfl (Nat.le_of_ble_eq_true rfl))) rfl ?_
        refine OpsFrom.v (Doing.skipU _ _ _ _ rfl rfl rfl rfl (dlt rfl (Nat.le_of_ble_eq_true rfl))) rfl ?_
        refine OpsFrom.v (Doing.skipU _ _ _ _ rfl rfl rfl rfl (dlt rfl (Nat.le_of_ble_eq_true rfl))) rfl ?_
        refine OpsFrom.v (Doing.skip _ _ _ _ rfl rfl rfl rfl (dlt rfl (Nat.le_of_ble_eq_true rfl))) rfl ?_
        refine OpsFrom.v (Doing.skip _ _ _ _ rfl rfl rfl rfl (dlt rfl (Nat.le_of_ble_eq_true rfl))) rfl ?_
        refine OpsFrom.v (Doing.skipU _ _ _ _ rfl rfl rfl rfl (dlt rfl (Nat.le_of_ble_eq_true rfl))) rfl ?_
        refine OpsFrom.v (Doing.skipU _ _ _ _ rfl rfl rfl rfl (dlt rfl (Nat.le_of_ble_eq_true rfl))) rfl ?_
        refine OpsFrom.v (Doing.skipU _ _ _ _ rfl rfl rfl rfl (dlt rfl (Nat.le_of_ble_eq_true rfl))) rfl ?_
        refine OpsFrom.v (Doing.skipU _ _ _ _ rfl rfl rfl rfl (dlt rfl (Nat.le_of_ble_eq_true rfl))) rfl ?_
        refine OpsFrom.v (Doing.skipU _ _ _ _ rfl rfl rfl rfl (dlt rfl (Nat.le_of_ble_eq_true rfl))) rfl ?_
        refine OpsFrom.v (Doing.skipU _ _ _ _ rfl rfl rfl rfl (dlt rfl (Nat.le_of_ble_eq_true rfl))) rfl ?_
        refine OpsFrom.v (Doing.skipU _ _ _ _ rfl rfl rfl rfl (dlt rfl (Nat.le_of_ble_eq_true rfl))) rfl ?_
        refine OpsFrom.v (Doing.skipU _ _ _ _ rfl rfl rfl rfl (dlt rfl (Nat.le_of_ble_eq_true rfl))) rfl ?_
        refine OpsFrom.v (Doing.skip _ _ _ _ rfl rfl rfl rfl (dlt rfl (Nat.le_of_ble_eq_true rfl))) rfl ?_
        refine OpsFrom.v (Y.pickT (up0 rfl rfl rfl) rfl rfl rfl) rfl ?_
        refine OpsFrom.v (Y.assign (up0 rfl rfl rfl) rfl rfl) rfl ?_
        refine OpsFrom.nil ?_
        refine Holds.seq ?_
        by_cases a7_8 : (n = m)
        · refine Holds.reg ?_
          refine OpsFrom.v (Y.move (up0 rfl rfl rfl) rfl rfl) rfl ?_
          refine OpsFrom.v (Y.move (up0 rfl rfl rfl) rfl rfl) rfl ?_
          refine OpsFrom.v (Y.ldAll ty25 rfl (up1 rfl rfl rfl rfl rfl rfl) rfl rfl rfl (by first | (with_reducible assumption) | omega | (simp only [lens, nonce_len, *]; first | done | omega) | decide | (split <;> simp only [lens, nonce_len, *]) | (with_reducible exact Lt.mono (by assumption) (by decide)) | (simp only [Cs.len]; done) | rfl) (by decide)) rfl ?_
          refine OpsFrom.v (Y.ldAll ty25 rfl (up1 rfl rfl rfl rfl rfl rfl) rfl rfl rfl (by first | (with_reducible assumption) | omega | (simp only [lens, nonce_len, *]; first | done | omega) | decide | (split <;> simp only [lens, nonce_len, *]) | (with_reducible exact Lt.mono (by assumption) (by decide)) | (simp only [Cs.len]; done) | rfl) (by decide)) rfl ?_
          refine OpsFrom.v (Y.eqR ty25 ty5 (by kernel_rfl) (up1 rfl rfl rfl rfl rfl rfl) rfl rfl rfl (by first | (with_reducible assumption) | omega | (simp only [lens, nonce_len, *]; first | done | omega) | decide | (split <;> simp only [lens, nonce_len, *]) | (with_reducible exact Lt.mono (by assumption) (by decide)) | (simp only [Cs.len]; done) | rfl) (by first | (with_reducible assumption) | omega | (simp only [lens, nonce_len, *]; first | done | omega) | decide | (split <;> simp only [lens, nonce_len, *]) | (with_reducible exact Lt.mono (by assumption) (by decide)) | (simp only [Cs.len]; done) | rfl)) rfl ?_
          refine OpsFrom.v (Y.move (up1 rfl rfl rfl rfl rfl rfl) rfl rfl) rfl ?_
          refine OpsFrom.v (Y.move (up1 rfl rfl rfl rfl rfl rfl) rfl rfl) rfl ?_
          refine OpsFrom.v (Y.eql (up1 rfl rfl rfl rfl rfl rfl) rfl rfl rfl) rfl ?_
          refine OpsFrom.v (Doing.isB (c := true) (decide_eq_true a7_8) (Y.move (up1 rfl rfl rfl rfl rfl rfl) rfl rfl)) rfl ?_
          refine OpsFrom.v (Y.move (up1 rfl rfl rfl rfl rfl rfl) rfl rfl) rfl ?_
          refine OpsFrom.v (Y.move (up1 rfl rfl rfl rfl rfl rfl) rfl rfl) rfl ?_
          refine OpsFrom.v (Y.eqB ty4 (up1 rfl rfl rfl rfl rfl rfl) rfl rfl rfl) rfl ?_
          refine OpsFrom.v (Y.pickT (up1 rfl rfl rfl rfl rfl rfl) rfl rfl rfl) rfl ?_
          refine OpsFrom.v (Doing.isB (c := true) (by first | exact nonce_eq1 a7_8 | exact nonce_eq2 b_n b_m a7_8) (Y.eqB ty4 (up1 rfl rfl rfl rfl rfl rfl) rfl rfl rfl)) rfl ?_
          refine OpsFrom.v (Y.pickT (up0 rfl rfl rfl) rfl rfl rfl) rfl ?_
          refine OpsFrom.v (Y.move (up0 rfl rfl rfl) rfl rfl) rfl ?_
          refine OpsFrom.v (Y.ia0 (i := 9) ty25 ty5 (up1 rfl rfl rfl rfl rfl rfl) rfl rfl rfl (by first | (with_reducible assumption) | omega | (simp only [lens, nonce_len, *]; first | done | omega) | decide | (split <;> simp only [lens, nonce_len, *]) | (with_reducible exact Lt.mono (by assumption) (by decide)) | (simp only [Cs.len]; done) | rfl)) rfl ?_
          refine OpsFrom.v (Y.ldI ty5 rfl (up1 rfl rfl rfl rfl rfl rfl) rfl rfl rfl (by first | (with_reducible assumption) | omega | (simp only [lens, nonce_len, *]; first | done | omega) | decide | (split <;> simp only [lens, nonce_len, *]) | (with_reducible exact Lt.mono (by assumption) (by decide)) | (simp only [Cs.len]; done) | rfl)) rfl ?_
          refine OpsFrom.v (Doing.isB (c := true) (decide_eq_true (nonce_hi _ _ (by decide))) (Y.eql (b := 0) (up1 rfl rfl rfl rfl rfl rfl) rfl rfl rfl)) rfl ?_
          refine OpsFrom.v (Y.pickT (up0 rfl rfl rfl) rfl rfl rfl) rfl ?_
          refine OpsFrom.v (Y.move (up0 rfl rfl rfl) rfl rfl) rfl ?_
          refine OpsFrom.v (Y.ia0 (i := 10) ty25 ty5 (up1 rfl rfl rfl rfl rfl rfl) rfl rfl rfl (by first | (with_reducible assumption) | omega | (simp only [lens, nonce_len, *]; first | done | omega) | decide | (split <;> simp only [lens, nonce_len, *]) | (with_reducible exact Lt.mono (by assumption) (by decide)) | (simp only [Cs.len]; done) | rfl)) rfl ?_
          refine OpsFrom.v (Y.ldI ty5 rfl (up1 rfl rfl rfl rfl rfl rfl) rfl rfl rfl (by first | (with_reducible assumption) | omega | (simp only [lens, nonce_len, *]; first | done | omega) | decide | (split <;> simp only [lens, nonce_len, *]) | (with_reducible exact Lt.mono (by assumption) (by decide)) | (simp only [Cs.len]; done) | rfl)) rfl ?_
          refine OpsFrom.v (Doing.isB (c := true) (decide_eq_true (nonce_hi _ _ (by decide))) (Y.eql (b := 0) (up1 rfl rfl rfl rfl rfl rfl) rfl rfl rfl)) rfl ?_
          refine OpsFrom.v (Y.pickT (up0 rfl rfl rfl) rfl rfl rfl) rfl ?_
          refine OpsFrom.v (Y.move (up0 rfl rfl rfl) rfl rfl) rfl ?_
          refine OpsFrom.v (Y.ia0 (i := 11) ty25 ty5 (up1 rfl rfl rfl rfl rfl rfl) rfl rfl rfl (by first | (with_reducible assumption) | omega | (simp only [lens, nonce_len, *]; first | done | omega) | decide | (split <;> simp only [lens, nonce_len, *]) | (with_reducible exact Lt.mono (by assumption) (by decide)) | (simp only [Cs.len]; done) | rfl)) rfl ?_
          refine OpsFrom.v (Y.ldI ty5 rfl (up1 rfl rfl rfl rfl rfl rfl) rfl rfl rfl (by first | (with_reducible assumption) | omega | (simp only [lens, nonce_len, *]; first | done | omega) | decide | (split <;> simp only [lens, nonce_len, *]) | (with_reducible exact Lt.mono (by assumption) (by decide)) | (simp only [Cs.len]; done) | rfl)) rfl ?_
          refine OpsFrom.v (Doing.isB (c := true) (decide_eq_true (nonce_hi _ _ (by decide))) (Y.eql (b := 0) (up1 rfl rfl rfl rfl rfl rfl) rfl rfl rfl)) rfl ?_
          refine OpsFrom.v (Y.pickT (up0 rfl rfl rfl) rfl rfl rfl) rfl ?_
          refine OpsFrom.v (Y.move (up0 rfl rfl rfl) rfl rfl) rfl ?_
          refine OpsFrom.v (Y.move (up1 rfl rfl rfl rfl rfl rfl) rfl rfl) rfl ?_
          refine OpsFrom.v (Y.pickT (up0 rfl rfl rfl) rfl rfl rfl) rfl ?_
          refine OpsFrom.v (Y.assign (up0 rfl rfl rfl) rfl rfl) rfl ?_
          refine OpsFrom.nil ?_
          refine Holds.ret ?_
          exact Holds.ret1 (.inl rfl) rfl (.tmp _ _ rfl) (.same _) rfl
        · refine Holds.reg ?_
          refine OpsFrom.v (Y.move (up0 rfl rfl rfl) rfl rfl) rfl ?_
          refine OpsFrom.v (Y.move (up0 rfl rfl rfl) rfl rfl) rfl ?_
          refine OpsFrom.v (Y.ldAll ty25 rfl (up1 rfl rfl rfl rfl rfl rfl) rfl rfl rfl (by first | (with_reducible assumption) | omega | (simp only [lens, nonce_len, *]; first | done | omega) | decide | (split <;> simp only [lens, nonce_len, *]) | (with_reducible exact Lt.mono (by assumption) (by decide)) | (simp only [Cs.len]; done) | rfl) (by decide)) rfl ?_
          refine OpsFrom.v (Y.ldAll ty25 rfl (up1 rfl rfl rfl rfl rfl rfl) rfl rfl rfl (by first | (with_reducible assumption) | omega | (simp only [lens, nonce_len, *]; first | done | omega) | decide | (split <;> simp only [lens, nonce_len, *]) | (with_reducible exact Lt.mono (by assumption) (by decide)) | (simp only [Cs.len]; done) | rfl) (by decide)) rfl ?_
          refine OpsFrom.v (Y.eqR ty25 ty5 (by kernel_rfl) (up1 rfl rfl rfl rfl rfl rfl) rfl rfl rfl (by first | (with_reducible assumption) | omega | (simp only [lens, nonce_len, *]; first | done | omega) | decide | (split <;> simp only [lens, nonce_len, *]) | (with_reducible exact Lt.mono (by assumption) (by decide)) | (simp only [Cs.len]; done) | rfl) (by first | (with_reducible assumption) | omega | (simp only [lens, nonce_len, *]; first | done | omega) | decide | (split <;> simp only [lens, nonce_len, *]) | (with_reducible exact Lt.mono (by assumption) (by decide)) | (simp only [Cs.len]; done) | rfl)) rfl ?_
          refine OpsFrom.v (Y.move (up1 rfl rfl rfl rfl rfl rfl) rfl rfl) rfl ?_
          refine OpsFrom.v (Y.move (up1 rfl rfl rfl rfl rfl rfl) rfl rfl) rfl ?_
          refine OpsFrom.v (Y.eql (up1 rfl rfl rfl rfl rfl rfl) rfl rfl rfl) rfl ?_
          refine OpsFrom.v (Doing.isB (c := false) (decide_eq_false a7_8) (Y.move (up1 rfl rfl rfl rfl rfl rfl) rfl rfl)) rfl ?_
          refine OpsFrom.v (Doing.skip _ _ _ _ rfl rfl rfl rfl (dlt rfl (Nat.le_of_ble_eq_true rfl))) rfl ?_
          refine OpsFrom.v (Doing.skip _ _ _ _ rfl rfl rfl rfl (dlt rfl (Nat.le_of_ble_eq_true rfl))) rfl ?_
          refine OpsFrom.v (Doing.skip _ _ _ _ rfl rfl rfl rfl (dlt rfl (Nat.le_of_ble_eq_true rfl))) rfl ?_
          refine OpsFrom.v (Y.pickF (up1 rfl rfl rfl rfl rfl rfl) rfl rfl rfl) rfl ?_
          refine OpsFrom.v (Doing.isB (c := true) (by first | exact nonce_eq1 a7_8 | exact nonce_eq2 b_n b_m a7_8) (Y.eqB ty4 (up1 rfl rfl rfl rfl rfl rfl) rfl rfl rfl)) rfl ?_
          refine OpsFrom.v (Y.pickT (up0 rfl rfl rfl) rfl rfl rfl) rfl ?_
          refine OpsFrom.v (Y.move (up0 rfl rfl rfl) rfl rfl) rfl ?_
          refine OpsFrom.v (Y.ia0 (i := 9) ty25 ty5 (up1 rfl rfl rfl rfl rfl rfl) rfl rfl rfl (by first | (with_reducible assumption) | omega | (simp only [lens, nonce_len, *]; first | done | omega) | decide | (split <;> simp only [lens, nonce_len, *]) | (with_reducible exact Lt.mono (by assumption) (by decide)) | (simp only [Cs.len]; done) | rfl)) rfl ?_
          refine OpsFrom.v (Y.ldI ty5 rfl (up1 rfl rfl rfl rfl rfl rfl) rfl rfl rfl (by first | (with_reducible assumption) | omega | (simp only [lens, nonce_len, *]; first | done | omega) | decide | (split <;> simp only [lens, nonce_len, *]) | (with_reducible exact Lt.mono (by assumption) (by decide)) | (simp only [Cs.len]; done) | rfl)) rfl ?_
          refine OpsFrom.v (Doing.isB (c := true) (decide_eq_true (nonce_hi _ _ (by decide))) (Y.eql (b := 0) (up1 rfl rfl rfl rfl rfl rfl) rfl rfl rfl)) rfl ?_
          refine OpsFrom.v (Y.pickT (up0 rfl rfl rfl) rfl rfl rfl) rfl ?_
          refine OpsFrom.v (Y.move (up0 rfl rfl rfl) rfl rfl) rfl ?_
          refine OpsFrom.v (Y.ia0 (i := 10) ty25 ty5 (up1 rfl rfl rfl rfl rfl rfl) rfl rfl rfl (by first | (with_reducible assumption) | omega | (simp only [lens, nonce_len, *]; first | done | omega) | decide | (split <;> simp only [lens, nonce_len, *]) | (with_reducible exact Lt.mono (by assumption) (by decide)) | (simp only [Cs.len]; done) | rfl)) rfl ?_
          refine OpsFrom.v (Y.ldI ty5 rfl (up1 rfl rfl rfl rfl rfl rfl) rfl rfl rfl (by first | (with_reducible assumption) | omega | (simp only [lens, nonce_len, *]; first | done | omega) | decide | (split <;> simp only [lens, nonce_len, *]) | (with_reducible exact Lt.mono (by assumption) (by decide)) | (simp only [Cs.len]; done) | rfl)) rfl ?_
          refine OpsFrom.v (Doing.isB (c := true) (decide_eq_true (nonce_hi _ _ (by decide))) (Y.eql (b := 0) (up1 rfl rfl rfl rfl rfl rfl) rfl rfl rfl)) rfl ?_
          refine OpsFrom.v (Y.pickT (up0 rfl rfl rfl) rfl rfl rfl) rfl ?_
          refine OpsFrom.v (Y.move (up0 rfl rfl rfl) rfl rfl) rfl ?_
          refine OpsFrom.v (Y.ia0 (i := 11) ty25 ty5 (up1 rfl rfl rfl rfl rfl rfl) rfl rfl rfl (by first | (with_reducible assumption) | omega | (simp only [lens, nonce_len, *]; first | done | omega) | decide | (split <;> simp only [lens, nonce_len, *]) | (with_reducible exact Lt.mono (by assumption) (by decide)) | (simp only [Cs.len]; done) | rfl)) rfl ?_
          refine OpsFrom.v (Y.ldI ty5 rfl (up1 rfl rfl rfl rfl rfl rfl) rfl rfl rfl (by first | (with_reducible assumption) | omega | (simp only [lens, nonce_len, *]; first | done | omega) | decide | (split <;> simp only [lens, nonce_len, *]) | (with_reducible exact Lt.mono (by assumption) (by decide)) | (simp only [Cs.len]; done) | rfl)) rfl ?_
          refine OpsFrom.v (Doing.isB (c := true) (decide_eq_true (nonce_hi _ _ (by decide))) (Y.eql (b := 0) (up1 rfl rfl rfl rfl rfl rfl) rfl rfl rfl)) rfl ?_
          refine OpsFrom.v (Y.pickT (up0 rfl rfl rfl) rfl rfl rfl) rfl ?_
          refine OpsFrom.v (Y.move (up0 rfl rfl rfl) rfl rfl) rfl ?_
          refine OpsFrom.v (Y.move (up1 rfl rfl rfl rfl rfl rfl) rfl rfl) rfl ?_
          refine OpsFrom.v (Y.pickT (up0 rfl rfl rfl) rfl rfl rfl) rfl ?_
          refine OpsFrom.v (Y.assign (up0 rfl rfl rfl) rfl rfl) rfl ?_
          refine OpsFrom.nil ?_
          refine Holds.ret ?_
          exact Holds.ret1 (.inl rfl) rfl (.tmp _ _ rfl) (.same _) rfl
      · by_cases a6_28 : (few = many)
        · refine Holds.reg ?_
          refine OpsFrom.v (Y.move (up0 rfl rfl rfl) rfl rfl) rfl ?_
          refine OpsFrom.v (Y.lssZ (b := 0) (up0 rfl rfl rfl) rfl rfl rfl rfl rfl) rfl ?_
          refine OpsFrom.v (Doing.isB (c := false) (decide_eq_false a6_2) (Y.move (up0 rfl rfl rfl) rfl rfl)) rfl ?_
          refine OpsFrom.v (Y.move (up1 rfl rfl rfl rfl rfl rfl) rfl rfl) rfl ?_
          refine OpsFrom.v (Y.gtrZ (b := 4194304) (up1 rfl rfl rfl rfl rfl rfl) rfl rfl rfl rfl rfl) rfl ?_
          refine OpsFrom.v (Y.pickF (up0 rfl rfl rfl) rfl rfl rfl) rfl ?_
          refine OpsFrom.v (Doing.isB (c := false) (decide_eq_false a6_6) (Y.move (up0 rfl rfl rfl) rfl rfl)) rfl ?_
          refine OpsFrom.v (Y.move (up1 rfl rfl rfl rfl rfl rfl) rfl rfl) rfl ?_
          refine OpsFrom.v (Y.move (up1 rfl rfl rfl rfl rfl rfl) rfl rfl) rfl ?_
          refine OpsFrom.v (Y.gtrZ (up1 rfl rfl rfl rfl rfl rfl) rfl rfl rfl rfl rfl) rfl ?_
          refine OpsFrom.v (Y.pickF (up0 rfl rfl rfl) rfl rfl rfl) rfl ?_
          refine OpsFrom.v (Doing.isB (c := false) (decide_eq_false a6_11) (Y.move (up0 rfl rfl rfl) rfl rfl)) rfl ?_
          refine OpsFrom.v (Y.move (up1 rfl rfl rfl rfl rfl rfl) rfl rfl) rfl ?_
          refine OpsFrom.v (Y.move (up1 rfl rfl rfl rfl rfl rfl) rfl rfl) rfl ?_
          refine OpsFrom.v (Doing.isB (c := true) (decide_eq_true (count_le a6_2 a6_6 a6_11).1) (Y.leq (up1 rfl rfl rfl rfl rfl rfl) rfl rfl rfl)) rfl ?_
          refine OpsFrom.v (Y.move (up1 rfl rfl rfl rfl rfl rfl) rfl rfl) rfl ?_
          refine OpsFrom.v (Y.move (up1 rfl rfl rfl rfl rfl rfl) rfl rfl) rfl ?_
          refine OpsFrom.v (Y.move (up1 rfl rfl rfl rfl rfl rfl) rfl rfl) rfl ?_
          refine OpsFrom.v (Doing.isB (c := true) (decide_eq_true (count_le a6_2 a6_6 a6_11).2.1) (Y.leq (up1 rfl rfl rfl rfl rfl rfl) rfl rfl rfl)) rfl ?_
          refine OpsFrom.v (Y.pickT (up1 rfl rfl rfl rfl rfl rfl) rfl rfl rfl) rfl ?_
          refine OpsFrom.v (Y.move (up1 rfl rfl rfl rfl rfl rfl) rfl rfl) rfl ?_
          refine OpsFrom.v (Y.move (up1 rfl rfl rfl rfl rfl rfl) rfl rfl) rfl ?_
          refine OpsFrom.v (Doing.isB (c := true) (decide_eq_true (count_le a6_2 a6_6 a6_11).2.2.1) (Y.geq (b := 1) (up1 rfl rfl rfl rfl rfl rfl) rfl rfl rfl)) rfl ?_
          refine OpsFrom.v (Y.pickT (up1 rfl rfl rfl rfl rfl rfl) rfl rfl rfl) rfl ?_
          refine OpsFrom.v (Y.move (up1 rfl rfl rfl rfl rfl rfl) rfl rfl) rfl ?_
          refine OpsFrom.v (Y.move (up1 rfl rfl rfl rfl rfl rfl) rfl rfl) rfl ?_
          refine OpsFrom.v (Y.move (up1 rfl rfl rfl rfl rfl rfl) rfl rfl) rfl ?_
          refine OpsFrom.v (Y.eqlZ (up1 rfl rfl rfl rfl rfl rfl) rfl rfl rfl rfl rfl) rfl ?_
          refine OpsFrom.v (Doing.isB (c := true) (decide_eq_true a6_28) (Y.move (up1 rfl rfl rfl rfl rfl rfl) rfl rfl)) rfl ?_
          refine OpsFrom.v (Doing.skip _ _ _ _ rfl rfl rfl rfl (dlt rfl (Nat.le_of_ble_eq_true rfl))) rfl ?_
          refine OpsFrom.v (Doing.skip _ _ _ _ rfl rfl rfl rfl (dlt rfl (Nat.le_of_ble_eq_true rfl))) rfl ?_
          refine OpsFrom.v (Doing.skip _ _ _ _ rfl rfl rfl rfl (dlt rfl (Nat.le_of_ble_eq_true rfl))) rfl ?_
          refine OpsFrom.v (Y.pickT (up1 rfl rfl rfl rfl rfl rfl) rfl rfl rfl) rfl ?_
          refine OpsFrom.v (Y.pickT (up1 rfl rfl rfl rfl rfl rfl) rfl rfl rfl) rfl ?_
          refine OpsFrom.v (Y.pickF (up0 rfl rfl rfl) rfl rfl rfl) rfl ?_
          refine OpsFrom.v (Y.assign (up0 rfl rfl rfl) rfl rfl) rfl ?_
          refine OpsFrom.nil ?_
          refine Holds.seq ?_
          by_cases a7_8 : (n = m)
          · refine Holds.reg ?_
            refine OpsFrom.v (Y.move (up0 rfl rfl rfl) rfl rfl) rfl ?_
            refine OpsFrom.v (Y.move (up0 rfl rfl rfl) rfl rfl) rfl ?_
            refine OpsFrom.v (Y.ldAll ty25 rfl (up1 rfl rfl rfl rfl rfl rfl) rfl rfl rfl (by first | (with_reducible assumption) | omega | (simp only [lens, nonce_len, *]; first | done | omega) | decide | (split <;> simp only [lens, nonce_len, *]) | (with_reducible exact Lt.mono (by assumption) (by decide)) | (simp only [Cs.len]; done) | rfl) (by decide)) rfl ?_
            refine OpsFrom.v (Y.ldAll ty25 rfl (up1 rfl rfl rfl rfl rfl rfl) rfl rfl rfl (by first | (with_reducible assumption) | omega | (simp only [lens, nonce_len, *]; first | done | omega) | decide | (split <;> simp only [lens, nonce_len, *]) | (with_reducible exact Lt.mono (by assumption) (by decide)) | (simp only [Cs.len]; done) | rfl) (by decide)) rfl ?_
            refine OpsFrom.v (Y.eqR ty25 ty5 (by kernel_rfl) (up1 rfl rfl rfl rfl rfl rfl) rfl rfl rfl (by first | (with_reducible assumption) | omega | (simp only [lens, nonce_len, *]; first | done | omega) | decide | (split <;> simp only [lens, nonce_len, *]) | (with_reducible exact Lt.mono (by assumption) (by decide)) | (simp only [Cs.len]; done) | rfl) (by first | (with_reducible assumption) | omega | (simp only [lens, nonce_len, *]; first | done | omega) | decide | (split <;> simp only [lens, nonce_len, *]) | (with_reducible exact Lt.mono (by assumption) (by decide)) | (simp only [Cs.len]; done) | rfl)) rfl ?_
            refine OpsFrom.v (Y.move (up1 rfl rfl rfl rfl rfl rfl) rfl rfl) rfl ?_
            refine OpsFrom.v (Y.move (up1 rfl rfl rfl rfl rfl rfl) rfl rfl) rfl ?_
            refine OpsFrom.v (Y.eql (up1 rfl rfl rfl rfl rfl rfl) rfl rfl rfl) rfl ?_
            refine OpsFrom.v (Doing.isB (c := true) (decide_eq_true a7_8) (Y.move (up1 rfl rfl rfl rfl rfl rfl) rfl rfl)) rfl ?_
            refine OpsFrom.v (Y.move (up1 rfl rfl rfl rfl rfl rfl) rfl rfl) rfl ?_
            refine OpsFrom.v (Y.move (up1 rfl rfl rfl rfl rfl rfl) rfl rfl) rfl ?_
            refine OpsFrom.v (Y.eqB ty4 (up1 rfl rfl rfl rfl rfl rfl) rfl rfl rfl) rfl ?_
            refine OpsFrom.v (Y.pickT (up1 rfl rfl rfl rfl rfl rfl) rfl rfl rfl) rfl ?_
            refine OpsFrom.v (Doing.isB (c := true) (by first | exact nonce_eq1 a7_8 | exact nonce_eq2 b_n b_m a7_8) (Y.eqB ty4 (up1 rfl rfl rfl rfl rfl rfl) rfl rfl rfl)) rfl ?_
            refine OpsFrom.v (Y.pickT (up0 rfl rfl rfl) rfl rfl rfl) rfl ?_
            refine OpsFrom.v (Y.move (up0 rfl rfl rfl) rfl rfl) rfl ?_
            refine OpsFrom.v (Y.ia0 (i := 9) ty25 ty5 (up1 rfl rfl rfl rfl rfl rfl) rfl rfl rfl (by first | (with_reducible assumption) | omega | (simp only [lens, nonce_len, *]; first | done | omega) | decide | (split <;> simp only [lens, nonce_len, *]) | (with_reducible exact Lt.mono (by assumption) (by decide)) | (simp only [Cs.len]; done) | rfl)) rfl ?_
            refine OpsFrom.v (Y.ldI ty5 rfl (up1 rfl rfl rfl rfl rfl rfl) rfl rfl rfl (by first | (with_reducible assumption) | omega | (simp only [lens, nonce_len, *]; first | done | omega) | decide | (split <;> simp only [lens, nonce_len, *]) | (with_reducible exact Lt.mono (by assumption) (by decide)) | (simp only [Cs.len]; done) | rfl)) rfl ?_
            refine OpsFrom.v (Doing.isB (c := true) (decide_eq_true (nonce_hi _ _ (by decide))) (Y.eql (b := 0) (up1 rfl rfl rfl rfl rfl rfl) rfl rfl rfl)) rfl ?_
            refine OpsFrom.v (Y.pickT (up0 rfl rfl rfl) rfl rfl rfl) rfl ?_
            refine OpsFrom.v (Y.move (up0 rfl rfl rfl) rfl rfl) rfl ?_
            refine OpsFrom.v (Y.ia0 (i := 10) ty25 ty5 (up1 rfl rfl rfl rfl rfl rfl) rfl rfl rfl (by first | (with_reducible assumption) | omega | (simp only [lens, nonce_len, *]; first | done | omega) | decide | (split <;> simp only [lens, nonce_len, *]) | (with_reducible exact Lt.mono (by assumption) (by decide)) | (simp only [Cs.len]; done) | rfl)) rfl ?_
            refine OpsFrom.v (Y.ldI ty5 rfl (up1 rfl rfl rfl rfl rfl rfl) rfl rfl rfl (by first | (with_reducible assumption) | omega | (simp only [lens, nonce_len, *]; first | done | omega) | decide | (split <;> simp only [lens, nonce_len, *]) | (with_reducible exact Lt.mono (by assumption) (by decide)) | (simp only [Cs.len]; done) | rfl)) rfl ?_
            refine OpsFrom.v (Doing.isB (c := true) (decide_eq_true (nonce_hi _ _ (by decide))) (Y.eql (b := 0) (up1 rfl rfl rfl rfl rfl rfl) rfl rfl rfl)) rfl ?_
            refine OpsFrom.v (Y.pickT (up0 rfl rfl rfl) rfl rfl rfl) rfl ?_
            refine OpsFrom.v (Y.move (up0 rfl rfl rfl) rfl rfl) rfl ?_
            refine OpsFrom.v (Y.ia0 (i := 11) ty25 ty5 (up1 rfl rfl rfl rfl rfl rfl) rfl rfl rfl (by first | (with_reducible assumption) | omega | (simp only [lens, nonce_len, *]; first | done | omega) | decide | (split <;> simp only [lens, nonce_len, *]) | (with_reducible exact Lt.mono (by assumption) (by decide)) | (simp only [Cs.len]; done) | rfl)) rfl ?_
            refine OpsFrom.v (Y.ldI ty5 rfl (up1 rfl rfl rfl rfl rfl rfl) rfl rfl rfl (by first | (with_reducible assumption) | omega | (simp only [lens, nonce_len, *]; first | done | omega) | decide | (split <;> simp only [lens, nonce_len, *]) | (with_reducible exact Lt.mono (by assumption) (by decide)) | (simp only [Cs.len]; done) | rfl)) rfl ?_
            refine OpsFrom.v (Doing.isB (c := true) (decide_eq_true (nonce_hi _ _ (by decide))) (Y.eql (b := 0) (up1 rfl rfl rfl rfl rfl rfl) rfl rfl rfl)) rfl ?_
            refine OpsFrom.v (Y.pickT (up0 rfl rfl rfl) rfl rfl rfl) rfl ?_
            refine OpsFrom.v (Y.move (up0 rfl rfl rfl) rfl rfl) rfl ?_
            refine OpsFrom.v (Y.move (up1 rfl rfl rfl rfl rfl rfl) rfl rfl) rfl ?_
            refine OpsFrom.v (Y.pickT (up0 rfl rfl rfl) rfl rfl rfl) rfl ?_
            refine OpsFrom.v (Y.assign (up0 rfl rfl rfl) rfl rfl) rfl ?_
            refine OpsFrom.nil ?_
            refine Holds.ret ?_
            exact Holds.ret1 (.inl rfl) rfl (.tmp _ _ rfl) (.same _) rfl
          · refine Holds.reg ?_
            refine OpsFrom.v (Y.move (up0 rfl rfl rfl) rfl rfl) rfl ?_
            refine OpsFrom.v (Y.move (up0 rfl rfl rfl) rfl rfl) rfl ?_
            refine OpsFrom.v (Y.ldAll ty25 rfl (up1 rfl rfl rfl rfl rfl rfl) rfl rfl rfl (by first | (with_reducible assumption) | omega | (simp only [lens, nonce_len, *]; first | done | omega) | decide | (split <;> simp only [lens, nonce_len, *]) | (with_reducible exact Lt.mono (by assumption) (by decide)) | (simp only [Cs.len]; done) | rfl) (by decide)) rfl ?_
            refine OpsFrom.v (Y.ldAll ty25 rfl (up1 rfl rfl rfl rfl rfl rfl) rfl rfl rfl (by first | (with_reducible assumption) | omega | (simp only [lens, nonce_len, *]; first | done | omega) | decide | (split <;> simp only [lens, nonce_len, *]) | (with_reducible exact Lt.mono (by assumption) (by decide)) | (simp only [Cs.len]; done) | rfl) (by decide)) rfl ?_
            refine OpsFrom.v (Y.eqR ty25 ty5 (by kernel_rfl) (up1 rfl rfl rfl rfl rfl rfl) rfl rfl rfl (by first | (with_reducible assumption) | omega | (simp only [lens, nonce_len, *]; first | done | omega) | decide | (split <;> simp only [lens, nonce_len, *]) | (with_reducible exact Lt.mono (by assumption) (by decide)) | (simp only [Cs.len]; done) | rfl) (by first | (with_reducible assumption) | omega | (simp only [lens, nonce_len, *]; first | done | omega) | decide | (split <;> simp only [lens, nonce_len, *]) | (with_reducible exact Lt.mono (by assumption) (by decide)) | (simp only [Cs.len]; done) | rfl)) rfl ?_
            refine OpsFrom.v (Y.move (up1 rfl rfl rfl rfl rfl rfl) rfl rfl) rfl ?_
            refine OpsFrom.v (Y.move (up1 rfl rfl rfl rfl rfl rfl) rfl rfl) rfl ?_
            refine OpsFrom.v (Y.eql (up1 rfl rfl rfl rfl rfl rfl) rfl rfl rfl) rfl ?_
            refine OpsFrom.v (Doing.isB (c := false) (decide_eq_false a7_8) (Y.move (up1 rfl rfl rfl rfl rfl rfl) rfl rfl)) rfl ?_
            refine OpsFrom.v (Doing.skip _ _ _ _ rfl rfl rfl rfl (dlt rfl (Nat.le_of_ble_eq_true rfl))) rfl ?_
            refine OpsFrom.v (Doing.skip _ _ _ _ rfl rfl rfl rfl (dlt rfl (Nat.le_of_ble_eq_true rfl))) rfl ?_
            refine OpsFrom.v (Doing.skip _ _ _ _ rfl rfl rfl rfl (dlt rfl (Nat.le_of_ble_eq_true rfl))) rfl ?_
            refine OpsFrom.v (Y.pickF (up1 rfl rfl rfl rfl rfl rfl) rfl rfl rfl) rfl ?_
            refine OpsFrom.v (Doing.isB (c := true) (by first | exact nonce_eq1 a7_8 | exact nonce_eq2 b_n b_m a7_8) (Y.eqB ty4 (up1 rfl rfl rfl rfl rfl rfl) rfl rfl rfl)) rfl ?_
            refine OpsFrom.v (Y.pickT (up0 rfl rfl rfl) rfl rfl rfl) rfl ?_
            refine OpsFrom.v (Y.move (up0 rfl rfl rfl) rfl rfl) rfl ?_
            refine OpsFrom.v (Y.ia0 (i := 9) ty25 ty5 (up1 rfl rfl rfl rfl rfl rfl) rfl rfl rfl (by first | (with_reducible assumption) | omega | (simp only [lens, nonce_len, *]; first | done | omega) | decide | (split <;> simp only [lens, nonce_len, *]) | (with_reducible exact Lt.mono (by assumption) (by decide)) | (simp only [Cs.len]; done) | rfl)) rfl ?_
            refine OpsFrom.v (Y.ldI ty5 rfl (up1 rfl rfl rfl rfl rfl rfl) rfl rfl rfl (by first | (with_reducible assumption) | omega | (simp only [lens, nonce_len, *]; first | done | omega) | decide | (split <;> simp only [lens, nonce_len, *]) | (with_reducible exact Lt.mono (by assumption) (by decide)) | (simp only [Cs.len]; done) | rfl)) rfl ?_
            refine OpsFrom.v (Doing.isB (c := true) (decide_eq_true (nonce_hi _ _ (by decide))) (Y.eql (b := 0) (up1 rfl rfl rfl rfl rfl rfl) rfl rfl rfl)) rfl ?_
            refine OpsFrom.v (Y.pickT (up0 rfl rfl rfl) rfl rfl rfl) rfl ?_
            refine OpsFrom.v (Y.move (up0 rfl rfl rfl) rfl rfl) rfl ?_
            refine OpsFrom.v (Y.ia0 (i := 10) ty25 ty5 (up1 rfl rfl rfl rfl rfl rfl) rfl rfl rfl (by first | (with_reducible assumption) | omega | (simp only [lens, nonce_len, *]; first | done | omega) | decide | (split <;> simp only [lens, nonce_len, *]) | (with_reducible exact Lt.mono (by assumption) (by decide)) | (simp only [Cs.len]; done) | rfl)) rfl ?_
            refine OpsFrom.v (Y.ldI ty5 rfl (up1 rfl rfl rfl rfl rfl rfl) rfl rfl rfl (by first | (with_reducible assumption) | omega | (simp only [lens, nonce_len, *]; first | done | omega) | decide | (split <;> simp only [lens, nonce_len, *]) | (with_reducible exact Lt.mono (by assumption) (by decide)) | (simp only [Cs.len]; done) | rfl)) rfl ?_
            refine OpsFrom.v (Doing.isB (c := true) (decide_eq_true (nonce_hi _ _ (by decide))) (Y.eql (b := 0) (up1 rfl rfl rfl rfl rfl rfl) rfl rfl rfl)) rfl ?_
            refine OpsFrom.v (Y.pickT (up0 rfl rfl rfl) rfl rfl rfl) rfl ?_
            refine OpsFrom.v (Y.move (up0 rfl rfl rfl) rfl rfl) rfl ?_
            refine OpsFrom.v (Y.ia0 (i := 11) ty25 ty5 (up1 rfl rfl rfl rfl rfl rfl) rfl rfl rfl (by first | (with_reducible assumption) | omega | (simp only [lens, nonce_len, *]; first | done | omega) | decide | (split <;> simp only [lens, nonce_len, *]) | (with_reducible exact Lt.mono (by assumption) (by decide)) | (simp only [Cs.len]; done) | rfl)) rfl ?_
            refine OpsFrom.v (Y.ldI ty5 rfl (up1 rfl rfl rfl rfl rfl rfl) rfl rfl rfl (by first | (with_reducible assumption) | omega | (simp only [lens, nonce_len, *]; first | done | omega) | decide | (split <;> simp only [lens, nonce_len, *]) | (with_reducible exact Lt.mono (by assumption) (by decide)) | (simp only [Cs.len]; done) | rfl)) rfl ?_
            refine OpsFrom.v (Doing.isB (c := true) (decide_eq_true (nonce_hi _ _ (by decide))) (Y.eql (b := 0) (up1 rfl rfl rfl rfl rfl rfl) rfl rfl rfl)) rfl ?_
            refine OpsFrom.v (Y.pickT (up0 rfl rfl rfl) rfl rfl rfl) rfl ?_
            refine OpsFrom.v (Y.move (up0 rfl rfl rfl) rfl rfl) rfl ?_
            refine OpsFrom.v (Y.move (up1 rfl rfl rfl rfl rfl rfl) rfl rfl) rfl ?_
            refine OpsFrom.v (Y.pickT (up0 rfl rfl rfl) rfl rfl rfl) rfl ?_
            refine OpsFrom.v (Y.assign (up0 rfl rfl rfl) rfl rfl) rfl ?_
            refine OpsFrom.nil ?_
            refine Holds.ret ?_
            exact Holds.ret1 (.inl rfl) rfl (.tmp _ _ rfl) (.same _) rfl
        · refine Holds.reg ?_
          refine OpsFrom.v (Y.move (up0 rfl rfl rfl) rfl rfl) rfl ?_
          refine OpsFrom.v (Y.lssZ (b := 0) (up0 rfl rfl rfl) rfl rfl rfl rfl rfl) rfl ?_
          refine OpsFrom.v (Doing.isB (c := false) (decide_eq_false a6_2) (Y.move (up0 rfl rfl rfl) rfl rfl)) rfl ?_
          refine OpsFrom.v (Y.move (up1 rfl rfl rfl rfl rfl rfl) rfl rfl) rfl ?_
          refine OpsFrom.v (Y.gtrZ (b := 4194304) (up1 rfl rfl rfl rfl rfl rfl) rfl rfl rfl rfl rfl) rfl ?_
          refine OpsFrom.v (Y.pickF (up0 rfl rfl rfl) rfl rfl rfl) rfl ?_
          refine OpsFrom.v (Doing.isB (c := false) (decide_eq_false a6_6) (Y.move (up0 rfl rfl rfl) rfl rfl)) rfl ?_
          refine OpsFrom.v (Y.move (up1 rfl rfl rfl rfl rfl rfl) rfl rfl) rfl ?_
          refine OpsFrom.v (Y.move (up1 rfl rfl rfl rfl rfl rfl) rfl rfl) rfl ?_
          refine OpsFrom.v (Y.gtrZ (up1 rfl rfl rfl rfl rfl rfl) rfl rfl rfl rfl rfl) rfl ?_
          refine OpsFrom.v (Y.pickF (up0 rfl rfl rfl) rfl rfl rfl) rfl ?_
          refine OpsFrom.v (Doing.isB (c := false) (decide_eq_false a6_11) (Y.move (up0 rfl rfl rfl) rfl rfl)) rfl ?_
          refine OpsFrom.v (Y.move (up1 rfl rfl rfl rfl rfl rfl) rfl rfl) rfl ?_
          refine OpsFrom.v (Y.move (up1 rfl rfl rfl rfl rfl rfl) rfl rfl) rfl ?_
          refine OpsFrom.v (Doing.isB (c := true) (decide_eq_true (count_le a6_2 a6_6 a6_11).1) (Y.leq (up1 rfl rfl rfl rfl rfl rfl) rfl rfl rfl)) rfl ?_
          refine OpsFrom.v (Y.move (up1 rfl rfl rfl rfl rfl rfl) rfl rfl) rfl ?_
          refine OpsFrom.v (Y.move (up1 rfl rfl rfl rfl rfl rfl) rfl rfl) rfl ?_
          refine OpsFrom.v (Y.move (up1 rfl rfl rfl rfl rfl rfl) rfl rfl) rfl ?_
          refine OpsFrom.v (Doing.isB (c := true) (decide_eq_true (count_le a6_2 a6_6 a6_11).2.1) (Y.leq (up1 rfl rfl rfl rfl rfl rfl) rfl rfl rfl)) rfl ?_
          refine OpsFrom.v (Y.pickT (up1 rfl rfl rfl rfl rfl rfl) rfl rfl rfl) rfl ?_
          refine OpsFrom.v (Y.move (up1 rfl rfl rfl rfl rfl rfl) rfl rfl) rfl ?_
          refine OpsFrom.v (Y.move (up1 rfl rfl rfl rfl rfl rfl) rfl rfl) rfl ?_
          refine OpsFrom.v (Doing.isB (c := true) (decide_eq_true (count_le a6_2 a6_6 a6_11).2.2.1) (Y.geq (b := 1) (up1 rfl rfl rfl rfl rfl rfl) rfl rfl rfl)) rfl ?_
          refine OpsFrom.v (Y.pickT (up1 rfl rfl rfl rfl rfl rfl) rfl rfl rfl) rfl ?_
          refine OpsFrom.v (Y.move (up1 rfl rfl rfl rfl rfl rfl) rfl rfl) rfl ?_
          refine OpsFrom.v (Y.move (up1 rfl rfl rfl rfl rfl rfl) rfl rfl) rfl ?_
          refine OpsFrom.v (Y.move (up1 rfl rfl rfl rfl rfl rfl) rfl rfl) rfl ?_
          refine OpsFrom.v (Y.eqlZ (up1 rfl rfl rfl rfl rfl rfl) rfl rfl rfl rfl rfl) rfl ?_
          refine OpsFrom.v (Doing.isB (c := false) (decide_eq_false a6_28) (Y.move (up1 rfl rfl rfl rfl rfl rfl) rfl rfl)) rfl ?_
          refine OpsFrom.v (Y.move (up1 rfl rfl rfl rfl rfl rfl) rfl rfl) rfl ?_
          refine OpsFrom.v (Y.move (up1 rfl rfl rfl rfl rfl rfl) rfl rfl) rfl ?_
          refine OpsFrom.v (Doing.isB (c := true) (decide_eq_true ((count_le a6_2 a6_6 a6_11).2.2.2 a6_28)) (Y.lss (up1 rfl rfl rfl rfl rfl rfl) rfl rfl rfl)) rfl ?_
          refine OpsFrom.v (Y.pickF (up1 rfl rfl rfl rfl rfl rfl) rfl rfl rfl) rfl ?_
          refine OpsFrom.v (Y.pickT (up1 rfl rfl rfl rfl rfl rfl) rfl rfl rfl) rfl ?_
          refine OpsFrom.v (Y.pickF (up0 rfl rfl rfl) rfl rfl rfl) rfl ?_
          refine OpsFrom.v (Y.assign (up0 rfl rfl rfl) rfl rfl) rfl ?_
          refine OpsFrom.nil ?_
          refine Holds.seq ?_
          by_cases a7_8 : (n = m)
          · refine Holds.reg ?_
            refine OpsFrom.v (Y.move (up0 rfl rfl rfl) rfl rfl) rfl ?_
            refine OpsFrom.v (Y.move (up0 rfl rfl rfl) rfl rfl) rfl ?_
            refine OpsFrom.v (Y.ldAll ty25 rfl (up1 rfl rfl rfl rfl rfl rfl) rfl rfl rfl (by first | (with_reducible assumption) | omega | (simp only [lens, nonce_len, *]; first | done | omega) | decide | (split <;> simp only [lens, nonce_len, *]) | (with_reducible exact Lt.mono (by assumption) (by decide)) | (simp only [Cs.len]; done) | rfl) (by decide)) rfl ?_
            refine OpsFrom.v (Y.ldAll ty25 rfl (up1 rfl rfl rfl rfl rfl rfl) rfl rfl rfl (by first | (with_reducible assumption) | omega | (simp only [lens, nonce_len, *]; first | done | omega) | decide | (split <;> simp only [lens, nonce_len, *]) | (with_reducible exact Lt.mono (by assumption) (by decide)) | (simp only [Cs.len]; done) | rfl) (by decide)) rfl ?_
            refine OpsFrom.v (Y.eqR ty25 ty5 (by kernel_rfl) (up1 rfl rfl rfl rfl rfl rfl) rfl rfl rfl (by first | (with_reducible assumption) | omega | (simp only [lens, nonce_len, *]; first | done | omega) | decide | (split <;> simp only [lens, nonce_len, *]) | (with_reducible exact Lt.mono (by assumption) (by decide)) | (simp only [Cs.len]; done) | rfl) (by first | (with_reducible assumption) | omega | (simp only [lens, nonce_len, *]; first | done | omega) | decide | (split <;> simp only [lens, nonce_len, *]) | (with_reducible exact Lt.mono (by assumption) (by decide)) | (simp only [Cs.len]; done) | rfl)) rfl ?_
            refine OpsFrom.v (Y.move (up1 rfl rfl rfl rfl rfl rfl) rfl rfl) rfl ?_
            refine OpsFrom.v (Y.move (up1 rfl rfl rfl rfl rfl rfl) rfl rfl) rfl ?_
            refine OpsFrom.v (Y.eql (up1 rfl rfl rfl rfl rfl rfl) rfl rfl rfl) rfl ?_
            refine OpsFrom.v (Doing.isB (c := true) (decide_eq_true a7_8) (Y.move (up1 rfl rfl rfl rfl rfl rfl) rfl rfl)) rfl ?_
            refine OpsFrom.v (Y.move (up1 rfl rfl rfl rfl rfl rfl) rfl rfl) rfl ?_
            refine OpsFrom.v (Y.move (up1 rfl rfl rfl rfl rfl rfl) rfl rfl) rfl ?_
            refine OpsFrom.v (Y.eqB ty4 (up1 rfl rfl rfl rfl rfl rfl) rfl rfl rfl) rfl ?_
            refine OpsFrom.v (Y.pickT (up1 rfl rfl rfl rfl rfl rfl) rfl rfl rfl) rfl ?_
            refine OpsFrom.v (Doing.isB (c := true) (by first | exact nonce_eq1 a7_8 | exact nonce_eq2 b_n b_m a7_8) (Y.eqB ty4 (up1 rfl rfl rfl rfl rfl rfl) rfl rfl rfl)) rfl ?_
            refine OpsFrom.v (Y.pickT (up0 rfl rfl rfl) rfl rfl rfl) rfl ?_
            refine OpsFrom.v (Y.move (up0 rfl rfl rfl) rfl rfl) rfl ?_
            refine OpsFrom.v (Y.ia0 (i := 9) ty25 ty5 (up1 rfl rfl rfl rfl rfl rfl) rfl rfl rfl (by first | (with_reducible assumption) | omega | (simp only [lens, nonce_len, *]; first | done | omega) | decide | (split <;> simp only [lens, nonce_len, *]) | (with_reducible exact Lt.mono (by assumption) (by decide)) | (simp only [Cs.len]; done) | rfl)) rfl ?_
            refine OpsFrom.v (Y.ldI ty5 rfl (up1 rfl rfl rfl rfl rfl rfl) rfl rfl rfl (by first | (with_reducible assumption) | omega | (simp only [lens, nonce_len, *]; first | done | omega) | decide | (split <;> simp only [lens, nonce_len, *]) | (with_reducible exact Lt.mono (by assumption) (by decide)) | (simp only [Cs.len]; done) | rfl)) rfl ?_
            refine OpsFrom.v (Doing.isB (c := true) (decide_eq_true (nonce_hi _ _ (by decide))) (Y.eql (b := 0) (up1 rfl rfl rfl rfl rfl rfl) rfl rfl rfl)) rfl ?_
            refine OpsFrom.v (Y.pickT (up0 rfl rfl rfl) rfl rfl rfl) rfl ?_
            refine OpsFrom.v (Y.move (up0 rfl rfl rfl) rfl rfl) rfl ?_
            refine OpsFrom.v (Y.ia0 (i := 10) ty25 ty5 (up1 rfl rfl rfl rfl rfl rfl) rfl rfl rfl (by first | (with_reducible assumption) | omega | (simp only [lens, nonce_len, *]; first | done | omega) | decide | (split <;> simp only [lens, nonce_len, *]) | (with_reducible exact Lt.mono (by assumption) (by decide)) | (simp only [Cs.len]; done) | rfl)) rfl ?_
            refine OpsFrom.v (Y.ldI ty5 rfl (up1 rfl rfl rfl rfl rfl rfl) rfl rfl rfl (by first | (with_reducible assumption) | omega | (simp only [lens, nonce_len, *]; first | done | omega) | decide | (split <;> simp only [lens, nonce_len, *]) | (with_reducible exact Lt.mono (by assumption) (by decide)) | (simp only [Cs.len]; done) | rfl)) rfl ?_
            refine OpsFrom.v (Doing.isB (c := true) (decide_eq_true (nonce_hi _ _ (by decide))) (Y.eql (b := 0) (up1 rfl rfl rfl rfl rfl rfl) rfl rfl rfl)) rfl ?_
            refine OpsFrom.v (Y.pickT (up0 rfl rfl rfl) rfl rfl rfl) rfl ?_
            refine OpsFrom.v (Y.move (up0 rfl rfl rfl) rfl rfl) rfl ?_
            refine OpsFrom.v (Y.ia0 (i := 11) ty25 ty5 (up1 rfl rfl rfl rfl rfl rfl) rfl rfl rfl (by first | (with_reducible assumption) | omega | (simp only [lens, nonce_len, *]; first | done | omega) | decide | (split <;> simp only [lens, nonce_len, *]) | (with_reducible exact Lt.mono (by assumption) (by decide)) | (simp only [Cs.len]; done) | rfl)) rfl ?_
            refine OpsFrom.v (Y.ldI ty5 rfl (up1 rfl rfl rfl rfl rfl rfl) rfl rfl rfl (by first | (with_reducible assumption) | omega | (simp only [lens, nonce_len, *]; first | done | omega) | decide | (split <;> simp only [lens, nonce_len, *]) | (with_reducible exact Lt.mono (by assumption) (by decide)) | (simp only [Cs.len]; done) | rfl)) rfl ?_
            refine OpsFrom.v (Doing.isB (c := true) (decide_eq_true (nonce_hi _ _ (by decide))) (Y.eql (b := 0) (up1 rfl rfl rfl rfl rfl rfl) rfl rfl rfl)) rfl ?_
            refine OpsFrom.v (Y.pickT (up0 rfl rfl rfl) rfl rfl rfl) rfl ?_
            refine OpsFrom.v (Y.move (up0 rfl rfl rfl) rfl rfl) rfl ?_
            refine OpsFrom.v (Y.move (up1 rfl rfl rfl rfl rfl rfl) rfl rfl) rfl ?_
            refine OpsFrom.v (Y.pickT (up0 rfl rfl rfl) rfl rfl rfl) rfl ?_
            refine OpsFrom.v (Y.assign (up0 rfl rfl rfl) rfl rfl) rfl ?_
            refine OpsFrom.nil ?_
            refine Holds.ret ?_
            exact Holds.ret1 (.inl rfl) rfl (.tmp _ _ rfl) (.same _) rfl
          · refine Holds.reg ?_
            refine OpsFrom.v (Y.move (up0 rfl rfl rfl) rfl rfl) rfl ?_
            refine OpsFrom.v (Y.move (up0 rfl rfl rfl) rfl rfl) rfl ?_
            refine OpsFrom.v (Y.ldAll ty25 rfl (up1 rfl rfl rfl rfl rfl rfl) rfl rfl rfl (by first | (with_reducible assumption) | omega | (simp only [lens, nonce_len, *]; first | done | omega) | decide | (split <;> simp only [lens, nonce_len, *]) | (with_reducible exact Lt.mono (by assumption) (by decide)) | (simp only [Cs.len]; done) | rfl) (by decide)) rfl ?_
            refine OpsFrom.v (Y.ldAll ty25 rfl (up1 rfl rfl rfl rfl rfl rfl) rfl rfl rfl (by first | (with_reducible assumption) | omega | (simp only [lens, nonce_len, *]; first | done | omega) | decide | (split <;> simp only [lens, nonce_len, *]) | (with_reducible exact Lt.mono (by assumption) (by decide)) | (simp only [Cs.len]; done) | rfl) (by decide)) rfl ?_
            refine OpsFrom.v (Y.eqR ty25 ty5 (by kernel_rfl) (up1 rfl rfl rfl rfl rfl rfl) rfl rfl rfl (by first | (with_reducible assumption) | omega | (simp only [lens, nonce_len, *]; first | done | omega) | decide | (split <;> simp only [lens, nonce_len, *]) | (with_reducible exact Lt.mono (by assumption) (by decide)) | (simp only [Cs.len]; done) | rfl) (by first | (with_reducible assumption) | omega | (simp only [lens, nonce_len, *]; first | done | omega) | decide | (split <;> simp only [lens, nonce_len, *]) | (with_reducible exact Lt.mono (by assumption) (by decide)) | (simp only [Cs.len]; done) | rfl)) rfl ?_
            refine OpsFrom.v (Y.move (up1 rfl rfl rfl rfl rfl rfl) rfl rfl) rfl ?_
            refine OpsFrom.v (Y.move (up1 rfl rfl rfl rfl rfl rfl) rfl rfl) rfl ?_
            refine OpsFrom.v (Y.eql (up1 rfl rfl rfl rfl rfl rfl) rfl rfl rfl) rfl ?_
            refine OpsFrom.v (Doing.isB (c := false) (decide_eq_false a7_8) (Y.move (up1 rfl rfl rfl rfl rfl rfl) rfl rfl)) rfl ?_
            refine OpsFrom.v (Doing.skip _ _ _ _ rfl rfl rfl rfl (dlt rfl (Nat.le_of_ble_eq_true rfl))) rfl ?_
            refine OpsFrom.v (Doing.skip _ _ _ _ rfl rfl rfl rfl (dlt rfl (Nat.le_of_ble_eq_true rfl))) rfl ?_
            refine OpsFrom.v (Doing.skip _ _ _ _ rfl rfl rfl rfl (dlt rfl (Nat.le_of_ble_eq_true rfl))) rfl ?_
            refine OpsFrom.v (Y.pickF (up1 rfl rfl rfl rfl rfl rfl) rfl rfl rfl) rfl ?_
            refine OpsFrom.v (Doing.isB (c := true) (by first | exact nonce_eq1 a7_8 | exact nonce_eq2 b_n b_m a7_8) (Y.eqB ty4 (up1 rfl rfl rfl rfl rfl rfl) rfl rfl rfl)) rfl ?_
            refine OpsFrom.v (Y.pickT (up0 rfl rfl rfl) rfl rfl rfl) rfl ?_
            refine OpsFrom.v (Y.move (up0 rfl rfl rfl) rfl rfl) rfl ?_
            refine OpsFrom.v (Y.ia0 (i := 9) ty25 ty5 (up1 rfl rfl rfl rfl rfl rfl) rfl rfl rfl (by first | (with_reducible assumption) | omega | (simp only [lens, nonce_len, *]; first | done | omega) | decide | (split <;> simp only [lens, nonce_len, *]) | (with_reducible exact Lt.mono (by assumption) (by decide)) | (simp only [Cs.len]; done) | rfl)) rfl ?_
            refine OpsFrom.v (Y.ldI ty5 rfl (up1 rfl rfl rfl rfl rfl rfl) rfl rfl rfl (by first | (with_reducible assumption) | omega | (simp only [lens, nonce_len, *]; first | done | omega) | decide | (split <;> simp only [lens, nonce_len, *]) | (with_reducible exact Lt.mono (by assumption) (by decide)) | (simp only [Cs.len]; done) | rfl)) rfl ?_
            refine OpsFrom.v (Doing.isB (c := true) (decide_eq_true (nonce_hi _ _ (by decide))) (Y.eql (b := 0) (up1 rfl rfl rfl rfl rfl rfl) rfl rfl rfl)) rfl ?_
            refine OpsFrom.v (Y.pickT (up0 rfl rfl rfl) rfl rfl rfl) rfl ?_
            refine OpsFrom.v (Y.move (up0 rfl rfl rfl) rfl rfl) rfl ?_
            refine OpsFrom.v (Y.ia0 (i := 10) ty25 ty5 (up1 rfl rfl rfl rfl rfl rfl) rfl rfl rfl (by first | (with_reducible assumption) | omega | (simp only [lens, nonce_len, *]; first | done | omega) | decide | (split <;> simp only [lens, nonce_len, *]) | (with_reducible exact Lt.mono (by assumption) (by decide)) | (simp only [Cs.len]; done) | rfl)) rfl ?_
            refine OpsFrom.v (Y.ldI ty5 rfl (up1 rfl rfl rfl rfl rfl rfl) rfl rfl rfl (by first | (with_reducible assumption) | omega | (simp only [lens, nonce_len, *]; first | done | omega) | decide | (split <;> simp only [lens, nonce_len, *]) | (with_reducible exact Lt.mono (by assumption) (by decide)) | (simp only [Cs.len]; done) | rfl)) rfl ?_
            refine OpsFrom.v (Doing.isB (c := true) (decide_eq_true (nonce_hi _ _ (by decide))) (Y.eql (b := 0) (up1 rfl rfl rfl rfl rfl rfl) rfl rfl rfl)) rfl ?_
            refine OpsFrom.v (Y.pickT (up0 rfl rfl rfl) rfl rfl rfl) rfl ?_
            refine OpsFrom.v (Y.move (up0 rfl rfl rfl) rfl rfl) rfl ?_
            refine OpsFrom.v (Y.ia0 (i := 11) ty25 ty5 (up1 rfl rfl rfl rfl rfl rfl) rfl rfl rfl (by first | (with_reducible assumption) | omega | (simp only [lens, nonce_len, *]; first | done | omega) | decide | (split <;> simp only [lens, nonce_len, *]) | (with_reducible exact Lt.mono (by assumption) (by decide)) | (simp only [Cs.len]; done) | rfl)) rfl ?_
            refine OpsFrom.v (Y.ldI ty5 rfl (up1 rfl rfl rfl rfl rfl rfl) rfl rfl rfl (by first | (with_reducible assumption) | omega | (simp only [lens, nonce_len, *]; first | done | omega) | decide | (split <;> simp only [lens, nonce_len, *]) | (with_reducible exact Lt.mono (by assumption) (by decide)) | (simp only [Cs.len]; done) | rfl)) rfl ?_
            refine OpsFrom.v (Doing.isB (c := true) (decide_eq_true (nonce_hi _ _ (by decide))) (Y.eql (b := 0) (up1 rfl rfl rfl rfl rfl rfl) rfl rfl rfl)) rfl ?_
            refine OpsFrom.v (Y.pickT (up0 rfl rfl rfl) rfl rfl rfl) rfl ?_
            refine OpsFrom.v (Y.move (up0 rfl rfl rfl) rfl rfl) rfl ?_
            refine OpsFrom.v (Y.move (up1 rfl rfl rfl rfl rfl rfl) rfl rfl) rfl ?_
            refine OpsFrom.v (Y.pickT (up0 rfl rfl rfl) rfl rfl rfl) rfl ?_
            refine OpsFrom.v (Y.assign (up0 rfl rfl rfl) rfl rfl) rfl ?_
            refine OpsFrom.nil ?_
            refine Holds.ret ?_
            exact Holds.ret1 (.inl rfl) rfl (.tmp _ _ rfl) (.same _) rfl


end Go.Proofs.Ytkpelchcpiafaaa
