/-
  Walks: LadderBits.
-/
import Derived.Test.YtnfiiclmbiiokaaZd
namespace Go.Proofs.Ytnfiiclmbiiokaa
open Go Go.Fx
set_option linter.unusedVariables false
set_option linter.unusedSimpArgs false
theorem w_lbits (a : List Nat) (b : List Nat) (y : Nat) (z : Nat) (l_a : a.length = 32) (l_b : b.length = 32) : VC Try.prog 12 [.row (.ints .u8 a), .row (.ints .u8 b), .one (.n .u8 y), .one (.n .u8 z)] (.one (.b true)) := by
  refine VC.go Try.func12 rfl Try.ntmps12 rfl rfl fun O w => ?_
  refine Holds.ltRow 0 rfl u8s u8m (fun ba => ?_)
  refine Holds.ltRow 1 rfl u8s u8m (fun bb => ?_)
  refine Holds.ltN 2 rfl u8s u8m (fun hy => ?_)
  refine Holds.ltN 3 rfl u8s u8m (fun hz => ?_)
  refine Holds.seq ?_
  refine Holds.reg ?_
  refine OpsFrom.u (Y.boxR (d := 4) (up0 rfl rfl rfl) rfl rfl rfl) rfl rfl rfl ?_
  refine OpsFrom.u (Y.boxR (d := 5) (up0 rfl rfl rfl) rfl rfl rfl) rfl rfl rfl ?_
  refine OpsFrom.v (Y.assign (up0 rfl rfl rfl) rfl rfl) rfl ?_
  refine OpsFrom.nil ?_
  refine Holds.seq ?_
  refine Holds.reg ?_
  refine OpsFrom.v (Y.callV w_lawake fnok38 (up0 rfl rfl rfl) rfl rfl .nil .nil rfl rfl) rfl ?_
  refine OpsFrom.v (Y.assign (up0 rfl rfl rfl) rfl rfl) rfl ?_
  refine OpsFrom.nil ?_
  refine Holds.seq ?_
  refine Holds.reg ?_
  refine OpsFrom.v (Y.ldAll ty22 rfl (up0 rfl rfl rfl) rfl rfl rfl (by first | (with_reducible assumption) | omega | (simp only [lens, *]; first | done | omega) | decide | (split <;> simp only [lens, *]) | (with_reducible exact Lt.mono (by assumption) (by decide)) | (simp only [Cs.len]; done) | rfl) (by decide)) rfl ?_
  refine OpsFrom.v (Y.ldAll ty22 rfl (up0 rfl rfl rfl) rfl rfl rfl (by first | (with_reducible assumption) | omega | (simp only [lens, *]; first | done | omega) | decide | (split <;> simp only [lens, *]) | (with_reducible exact Lt.mono (by assumption) (by decide)) | (simp only [Cs.len]; done) | rfl) (by decide)) rfl ?_
  refine OpsFrom.v (Y.callV (w_lmul _ _ (by first | (with_reducible assumption) | omega | (simp only [lens, lmul_l, *]; first | done | omega) | decide | (split <;> simp only [lens, lmul_l, *]) | (with_reducible exact Lt.mono (by assumption) (by decide)) | (simp only [Cs.len]; done) | rfl) (by first | (with_reducible assumption) | omega | (simp only [lens, lmul_l, *]; first | done | omega) | decide | (split <;> simp only [lens, lmul_l, *]) | (with_reducible exact Lt.mono (by assumption) (by decide)) | (simp only [Cs.len]; done) | rfl)) fnok39 (up0 rfl rfl rfl) rfl rfl (.cons _ _ _ _ rfl (.cons _ _ _ _ rfl .nil)) (.cons _ _ _ _ (.same _) (.cons _ _ _ _ (.same _) .nil)) rfl rfl) rfl ?_
  refine OpsFrom.u (Y.alloc (d := 10) ty22 rfl rfl (up0 rfl rfl rfl) rfl) rfl rfl rfl ?_
  refine OpsFrom.n (Y.stR ty22 (upN rfl rfl) rfl rfl rfl rfl rfl (by first | (with_reducible assumption) | omega | (simp only [lens, lmul_l, *]; first | done | omega) | decide | (split <;> simp only [lens, lmul_l, *]) | (with_reducible exact Lt.mono (by assumption) (by decide)) | (simp only [Cs.len]; done) | rfl) (by first | (with_reducible assumption) | omega | (simp only [lens, lmul_l, *]; first | done | omega) | decide | (split <;> simp only [lens, lmul_l, *]) | (with_reducible exact Lt.mono (by assumption) (by decide)) | (simp only [Cs.len]; done) | rfl) (by decide)) rfl rfl ?_
  refine OpsFrom.nil ?_
  refine Holds.seq ?_
  refine Holds.reg ?_
  refine OpsFrom.v (Y.ldAll ty22 rfl (up0 rfl rfl rfl) rfl rfl rfl (by first | (with_reducible assumption) | omega | (simp only [lens, lmul_l, *]; first | done | omega) | decide | (split <;> simp only [lens, lmul_l, *]) | (with_reducible exact Lt.mono (by assumption) (by decide)) | (simp only [Cs.len]; done) | rfl) (by decide)) rfl ?_
  refine OpsFrom.u (Y.alloc (d := 11) ty22 rfl rfl (up0 rfl rfl rfl) rfl) rfl rfl rfl ?_
  refine OpsFrom.n (Y.stR ty22 (upN rfl rfl) rfl rfl rfl rfl rfl (by first | (with_reducible assumption) | omega | (simp only [lens, lmul_l, *]; first | done | omega) | decide | (split <;> simp only [lens, lmul_l, *]) | (with_reducible exact Lt.mono (by assumption) (by decide)) | (simp only [Cs.len]; done) | rfl) (by first | (with_reducible assumption) | omega | (simp only [lens, lmul_l, *]; first | done | omega) | decide | (split <;> simp only [lens, lmul_l, *]) | (with_reducible exact Lt.mono (by assumption) (by decide)) | (simp only [Cs.len]; done) | rfl) (by decide)) rfl rfl ?_
  refine OpsFrom.nil ?_
  refine Holds.seq ?_
  refine Holds.reg ?_
  refine OpsFrom.v (Y.ia0 (i := 0) ty22 ty5 (up0 rfl rfl rfl) rfl rfl rfl (by first | (with_reducible assumption) | omega | (simp only [lens, lmul_l, *]; first | done | omega) | decide | (split <;> simp only [lens, lmul_l, *]) | (with_reducible exact Lt.mono (by assumption) (by decide)) | (simp only [Cs.len]; done) | rfl)) rfl ?_
  refine OpsFrom.v (Y.ldI ty5 rfl (up0 rfl rfl rfl) rfl rfl rfl (by first | (with_reducible assumption) | omega | (simp only [lens, lmul_l, *]; first | done | omega) | decide | (split <;> simp only [lens, lmul_l, *]) | (with_reducible exact Lt.mono (by assumption) (by decide)) | (simp only [Cs.len]; done) | rfl)) rfl ?_
  refine OpsFrom.v (Y.move (up0 rfl rfl rfl) rfl rfl) rfl ?_
  refine OpsFrom.v (Y.and (b := 7) u8s u8m (up0 rfl rfl rfl) rfl rfl rfl) rfl ?_
  refine OpsFrom.v (Y.xor u8s u8m (up0 rfl rfl rfl) rfl rfl rfl) rfl ?_
  refine OpsFrom.v (Y.ia0 (i := 0) ty22 ty5 (up0 rfl rfl rfl) rfl rfl rfl (by first | (with_reducible assumption) | omega | (simp only [lens, lmul_l, *]; first | done | omega) | decide | (split <;> simp only [lens, lmul_l, *]) | (with_reducible exact Lt.mono (by assumption) (by decide)) | (simp only [Cs.len]; done) | rfl)) rfl ?_
  refine OpsFrom.n (Y.stI ty5 (upN rfl rfl) rfl rfl rfl rfl (by first | (with_reducible assumption) | omega | (simp only [lens, lmul_l, *]; first | done | omega) | decide | (split <;> simp only [lens, lmul_l, *]) | (with_reducible exact Lt.mono (by assumption) (by decide)) | (simp only [Cs.len]; done) | rfl)) rfl rfl ?_
  refine OpsFrom.nil ?_
  refine Holds.seq ?_
  refine Holds.reg ?_
  refine OpsFrom.v (Y.ia0 (i := 31) ty22 ty5 (up0 rfl rfl rfl) rfl rfl rfl (by first | (with_reducible assumption) | omega | (simp only [lens, lmul_l, *]; first | done | omega) | decide | (split <;> simp only [lens, lmul_l, *]) | (with_reducible exact Lt.mono (by assumption) (by decide)) | (simp only [Cs.len]; done) | rfl)) rfl ?_
  refine OpsFrom.v (Y.ldI ty5 rfl (up0 rfl rfl rfl) rfl rfl rfl (by first | (with_reducible assumption) | omega | (simp only [lens, lmul_l, *]; first | done | omega) | decide | (split <;> simp only [lens, lmul_l, *]) | (with_reducible exact Lt.mono (by assumption) (by decide)) | (simp only [Cs.len]; done) | rfl)) rfl ?_
  refine OpsFrom.v (Y.move (up0 rfl rfl rfl) rfl rfl) rfl ?_
  refine OpsFrom.v (Y.and (b := 192) u8s u8m (up0 rfl rfl rfl) rfl rfl rfl) rfl ?_
  refine OpsFrom.v (Y.xor u8s u8m (up0 rfl rfl rfl) rfl rfl rfl) rfl ?_
  refine OpsFrom.v (Y.ia0 (i := 31) ty22 ty5 (up0 rfl rfl rfl) rfl rfl rfl (by first | (with_reducible assumption) | omega | (simp only [lens, lmul_l, *]; first | done | omega) | decide | (split <;> simp only [lens, lmul_l, *]) | (with_reducible exact Lt.mono (by assumption) (by decide)) | (simp only [Cs.len]; done) | rfl)) rfl ?_
  refine OpsFrom.n (Y.stI ty5 (upN rfl rfl) rfl rfl rfl rfl (by first | (with_reducible assumption) | omega | (simp only [lens, lmul_l, *]; first | done | omega) | decide | (split <;> simp only [lens, lmul_l, *]) | (with_reducible exact Lt.mono (by assumption) (by decide)) | (simp only [Cs.len]; done) | rfl)) rfl rfl ?_
  refine OpsFrom.nil ?_
  refine Holds.seq ?_
  refine Holds.reg ?_
  refine OpsFrom.v (Y.ldAll ty22 rfl (up0 rfl rfl rfl) rfl rfl rfl (by first | (with_reducible assumption) | omega | (simp only [lens, lmul_l, *]; first | done | omega) | decide | (split <;> simp only [lens, lmul_l, *]) | (with_reducible exact Lt.mono (by assumption) (by decide)) | (simp only [Cs.len]; done) | rfl) (by decide)) rfl ?_
  refine OpsFrom.u (Y.alloc (d := 12) ty22 rfl rfl (up0 rfl rfl rfl) rfl) rfl rfl rfl ?_
  refine OpsFrom.n (Y.stR ty22 (upN rfl rfl) rfl rfl rfl rfl rfl (by first | (with_reducible assumption) | omega | (simp only [lens, lmul_l, *]; first | done | omega) | decide | (split <;> simp only [lens, lmul_l, *]) | (with_reducible exact Lt.mono (by assumption) (by decide)) | (simp only [Cs.len]; done) | rfl) (by first | (with_reducible assumption) | omega | (simp only [lens, lmul_l, *]; first | done | omega) | decide | (split <;> simp only [lens, lmul_l, *]) | (with_reducible exact Lt.mono (by assumption) (by decide)) | (simp only [Cs.len]; done) | rfl) (by decide)) rfl rfl ?_
  refine OpsFrom.nil ?_
  refine Holds.seq ?_
  refine Holds.reg ?_
  refine OpsFrom.v (Y.ia0 (i := 31) ty22 ty5 (up0 rfl rfl rfl) rfl rfl rfl (by first | (with_reducible assumption) | omega | (simp only [lens, lmul_l, *]; first | done | omega) | decide | (split <;> simp only [lens, lmul_l, *]) | (with_reducible exact Lt.mono (by assumption) (by decide)) | (simp only [Cs.len]; done) | rfl)) rfl ?_
  refine OpsFrom.v (Y.ldI ty5 rfl (up0 rfl rfl rfl) rfl rfl rfl (by first | (with_reducible assumption) | omega | (simp only [lens, lmul_l, *]; first | done | omega) | decide | (split <;> simp only [lens, lmul_l, *]) | (with_reducible exact Lt.mono (by assumption) (by decide)) | (simp only [Cs.len]; done) | rfl)) rfl ?_
  refine OpsFrom.v (Y.xor (b := 128) u8s u8m (up0 rfl rfl rfl) rfl rfl rfl) rfl ?_
  refine OpsFrom.v (Y.ia0 (i := 31) ty22 ty5 (up0 rfl rfl rfl) rfl rfl rfl (by first | (with_reducible assumption) | omega | (simp only [lens, lmul_l, *]; first | done | omega) | decide | (split <;> simp only [lens, lmul_l, *]) | (with_reducible exact Lt.mono (by assumption) (by decide)) | (simp only [Cs.len]; done) | rfl)) rfl ?_
  refine OpsFrom.n (Y.stI ty5 (upN rfl rfl) rfl rfl rfl rfl (by first | (with_reducible assumption) | omega | (simp only [lens, lmul_l, *]; first | done | omega) | decide | (split <;> simp only [lens, lmul_l, *]) | (with_reducible exact Lt.mono (by assumption) (by decide)) | (simp only [Cs.len]; done) | rfl)) rfl rfl ?_
  refine OpsFrom.nil ?_
  refine Holds.seq ?_
  refine Holds.reg ?_
  refine OpsFrom.v (Y.ldAll ty22 rfl (up0 rfl rfl rfl) rfl rfl rfl (by first | (with_reducible assumption) | omega | (simp only [lens, lmul_l, *]; first | done | omega) | decide | (split <;> simp only [lens, lmul_l, *]) | (with_reducible exact Lt.mono (by assumption) (by decide)) | (simp only [Cs.len]; done) | rfl) (by decide)) rfl ?_
  refine OpsFrom.u (Y.alloc (d := 13) ty22 rfl rfl (up0 rfl rfl rfl) rfl) rfl rfl rfl ?_
  refine OpsFrom.n (Y.stR ty22 (upN rfl rfl) rfl rfl rfl rfl rfl (by first | (with_reducible assumption) | omega | (simp only [lens, lmul_l, *]; first | done | omega) | decide | (split <;> simp only [lens, lmul_l, *]) | (with_reducible exact Lt.mono (by assumption) (by decide)) | (simp only [Cs.len]; done) | rfl) (by first | (with_reducible assumption) | omega | (simp only [lens, lmul_l, *]; first | done | omega) | decide | (split <;> simp only [lens, lmul_l, *]) | (with_reducible exact Lt.mono (by assumption) (by decide)) | (simp only [Cs.len]; done) | rfl) (by decide)) rfl rfl ?_
  refine OpsFrom.nil ?_
  refine Holds.seq ?_
  refine Holds.reg ?_
  refine OpsFrom.v (Y.ia0 (i := 31) ty22 ty5 (up0 rfl rfl rfl) rfl rfl rfl (by first | (with_reducible assumption) | omega | (simp only [lens, lmul_l, *]; first | done | omega) | decide | (split <;> simp only [lens, lmul_l, *]) | (with_reducible exact Lt.mono (by assumption) (by decide)) | (simp only [Cs.len]; done) | rfl)) rfl ?_
  refine OpsFrom.v (Y.ldI ty5 rfl (up0 rfl rfl rfl) rfl rfl rfl (by first | (with_reducible assumption) | omega | (simp only [lens, lmul_l, *]; first | done | omega) | decide | (split <;> simp only [lens, lmul_l, *]) | (with_reducible exact Lt.mono (by assumption) (by decide)) | (simp only [Cs.len]; done) | rfl)) rfl ?_
  refine OpsFrom.v (Y.andNot (b := 128) u8s u8m (up0 rfl rfl rfl) rfl rfl rfl) rfl ?_
  refine OpsFrom.v (Y.ia0 (i := 31) ty22 ty5 (up0 rfl rfl rfl) rfl rfl rfl (by first | (with_reducible assumption) | omega | (simp only [lens, lmul_l, *]; first | done | omega) | decide | (split <;> simp only [lens, lmul_l, *]) | (with_reducible exact Lt.mono (by assumption) (by decide)) | (simp only [Cs.len]; done) | rfl)) rfl ?_
  refine OpsFrom.n (Y.stI ty5 (upN rfl rfl) rfl rfl rfl rfl (by first | (with_reducible assumption) | omega | (simp only [lens, lmul_l, *]; first | done | omega) | decide | (split <;> simp only [lens, lmul_l, *]) | (with_reducible exact Lt.mono (by assumption) (by decide)) | (simp only [Cs.len]; done) | rfl)) rfl rfl ?_
  refine OpsFrom.nil ?_
  refine Holds.seq ?_
  refine Holds.reg ?_
  refine OpsFrom.v (Y.ldAll ty22 rfl (up0 rfl rfl rfl) rfl rfl rfl (by first | (with_reducible assumption) | omega | (simp only [lens, lmul_l, *]; first | done | omega) | decide | (split <;> simp only [lens, lmul_l, *]) | (with_reducible exact Lt.mono (by assumption) (by decide)) | (simp only [Cs.len]; done) | rfl) (by decide)) rfl ?_
  refine OpsFrom.v (Y.callV (w_load _ (by first | (with_reducible assumption) | omega | (simp only [lens, lmul_l, load_l, *]; first | done | omega) | decide | (split <;> simp only [lens, lmul_l, load_l, *]) | (with_reducible exact Lt.mono (by assumption) (by decide)) | (simp only [Cs.len]; done) | rfl)) fnok16 (up0 rfl rfl rfl) rfl rfl (.cons _ _ _ _ rfl .nil) (.cons _ _ _ _ (.same _) .nil) rfl rfl) rfl ?_
  refine OpsFrom.v (Y.callV (w_fbytes _ (by first | (with_reducible assumption) | omega | (simp only [lens, lmul_l, load_l, fbytes_l, *]; first | done | omega) | decide | (split <;> simp only [lens, lmul_l, load_l, fbytes_l, *]) | (with_reducible exact Lt.mono (by assumption) (by decide)) | (simp only [Cs.len]; done) | rfl)) fnok19 (up0 rfl rfl rfl) rfl rfl (.cons _ _ _ _ rfl .nil) (.cons _ _ _ _ (.same _) .nil) rfl rfl) rfl ?_
  refine OpsFrom.u (Y.alloc (d := 14) ty22 rfl rfl (up0 rfl rfl rfl) rfl) rfl rfl rfl ?_
  refine OpsFrom.n (Y.stR ty22 (upN rfl rfl) rfl rfl rfl rfl rfl (by first | (with_reducible assumption) | omega | (simp only [lens, lmul_l, load_l, fbytes_l, *]; first | done | omega) | decide | (split <;> simp only [lens, lmul_l, load_l, fbytes_l, *]) | (with_reducible exact Lt.mono (by assumption) (by decide)) | (simp only [Cs.len]; done) | rfl) (by first | (with_reducible assumption) | omega | (simp only [lens, lmul_l, load_l, fbytes_l, *]; first | done | omega) | decide | (split <;> simp only [lens, lmul_l, load_l, fbytes_l, *]) | (with_reducible exact Lt.mono (by assumption) (by decide)) | (simp only [Cs.len]; done) | rfl) (by decide)) rfl rfl ?_
  refine OpsFrom.nil ?_
  refine Holds.seq ?_
  refine Holds.dr mx [([45], []), ([46], []), ([47], [48, 50]), ([48], [47, 50]), ([49], [50]), ([50], [47, 48, 49]), ([51], []), ([52], []), ([53], []), ([54], [55, 57]), ([55], [54, 57]), ([56], [57]), ([57], [54, 55, 56]), ([58], []), ([59], []), ([60], []), ([61], [62, 64]), ([62], [61, 64]), ([63], [64]), ([64], [61, 62, 63]), ([65], []), ([66], []), ([8], [])] (by kernel_rfl) ?_
  refine CertK.v (Y.move (up0 rfl rfl rfl) rfl rfl) rfl ?_
  refine CertK.v (Y.move (up0 rfl rfl rfl) rfl rfl) rfl ?_
  refine CertK.vd (Y.ldAll ty22 rfl (up1 rfl rfl rfl rfl rfl rfl) rfl rfl rfl (by first | (with_reducible assumption) | omega | (simp only [lens, lmul_l, load_l, fbytes_l, *]; first | done | omega) | decide | (split <;> simp only [lens, lmul_l, load_l, fbytes_l, *]) | (with_reducible exact Lt.mono (by assumption) (by decide)) | (simp only [Cs.len]; done) | rfl) (by decide)) rfl rfl ?_
  refine CertK.vd (Y.ldAll ty22 rfl (up1 rfl rfl rfl rfl rfl rfl) rfl rfl rfl (by first | (with_reducible assumption) | omega | (simp only [lens, lmul_l, load_l, fbytes_l, *]; first | done | omega) | decide | (split <;> simp only [lens, lmul_l, load_l, fbytes_l, *]) | (with_reducible exact Lt.mono (by assumption) (by decide)) | (simp only [Cs.len]; done) | rfl) (by decide)) rfl rfl ?_
  refine CertK.vd (Y.callV (w_lmul _ _ (by first | (with_reducible assumption) | omega | (simp only [lens, lmul_l, load_l, fbytes_l, *]; first | done | omega) | decide | (split <;> simp only [lens, lmul_l, load_l, fbytes_l, *]) | (with_reducible exact Lt.mono (by assumption) (by decide)) | (simp only [Cs.len]; done) | rfl) (by first | (with_reducible assumption) | omega | (simp only [lens, lmul_l, load_l, fbytes_l, *]; first | done | omega) | decide | (split <;> simp only [lens, lmul_l, load_l, fbytes_l, *]) | (with_reducible exact Lt.mono (by assumption) (by decide)) | (simp only [Cs.len]; done) | rfl)) fnok39 (up1 rfl rfl rfl rfl rfl rfl) rfl rfl (.cons _ _ _ _ rfl (.cons _ _ _ _ rfl .nil)) (.cons _ _ _ _ (.same _) (.cons _ _ _ _ (.same _) .nil)) rfl rfl) rfl rfl ?_
  refine CertK.vd (Y.ldAll ty22 rfl (up1 rfl rfl rfl rfl rfl rfl) rfl rfl rfl (by first | (with_reducible assumption) | omega | (simp only [lens, lmul_l, load_l, fbytes_l, *]; first | done | omega) | decide | (split <;> simp only [lens, lmul_l, load_l, fbytes_l, *]) | (with_reducible exact Lt.mono (by assumption) (by decide)) | (simp only [Cs.len]; done) | rfl) (by decide)) rfl rfl ?_
  refine CertK.v (Doing.isB (c := true) (decide_eq_true (lmul_bits l_a ba l_b bb hz)) (Y.eqR ty22 ty5 (by kernel_rfl) (up1 rfl rfl rfl rfl rfl rfl) rfl rfl rfl (by first | (with_reducible assumption) | omega | (simp only [lens, lmul_l, load_l, fbytes_l, *]; first | done | omega) | decide | (split <;> simp only [lens, lmul_l, load_l, fbytes_l, *]) | (with_reducible exact Lt.mono (by assumption) (by decide)) | (simp only [Cs.len]; done) | rfl) (by first | (with_reducible assumption) | omega | (simp only [lens, lmul_l, load_l, fbytes_l, *]; first | done | omega) | decide | (split <;> simp only [lens, lmul_l, load_l, fbytes_l, *]) | (with_reducible exact Lt.mono (by assumption) (by decide)) | (simp only [Cs.len]; done) | rfl))) rfl ?_
  refine CertK.v (Y.pickT (up0 rfl rfl rfl) rfl rfl rfl) rfl ?_
  refine CertK.v (Y.move (up0 rfl rfl rfl) rfl rfl) rfl ?_
  refine CertK.vd (Y.ldAll ty22 rfl (up1 rfl rfl rfl rfl rfl rfl) rfl rfl rfl (by first | (with_reducible assumption) | omega | (simp only [lens, lmul_l, load_l, fbytes_l, *]; first | done | omega) | decide | (split <;> simp only [lens, lmul_l, load_l, fbytes_l, *]) | (with_reducible exact Lt.mono (by assumption) (by decide)) | (simp only [Cs.len]; done) | rfl) (by decide)) rfl rfl ?_
  refine CertK.vd (Y.ldAll ty22 rfl (up1 rfl rfl rfl rfl rfl rfl) rfl rfl rfl (by first | (with_reducible assumption) | omega | (simp only [lens, lmul_l, load_l, fbytes_l, *]; first | done | omega) | decide | (split <;> simp only [lens, lmul_l, load_l, fbytes_l, *]) | (with_reducible exact Lt.mono (by assumption) (by decide)) | (simp only [Cs.len]; done) | rfl) (by decide)) rfl rfl ?_
  refine CertK.vd (Y.callV (w_lmul _ _ (by first | (with_reducible assumption) | omega | (simp only [lens, lmul_l, load_l, fbytes_l, *]; first | done | omega) | decide | (split <;> simp only [lens, lmul_l, load_l, fbytes_l, *]) | (with_reducible exact Lt.mono (by assumption) (by decide)) | (simp only [Cs.len]; done) | rfl) (by first | (with_reducible assumption) | omega | (simp only [lens, lmul_l, load_l, fbytes_l, *]; first | done | omega) | decide | (split <;> simp only [lens, lmul_l, load_l, fbytes_l, *]) | (with_reducible exact Lt.mono (by assumption) (by decide)) | (simp only [Cs.len]; done) | rfl)) fnok39 (up1 rfl rfl rfl rfl rfl rfl) rfl rfl (.cons _ _ _ _ rfl (.cons _ _ _ _ rfl .nil)) (.cons _ _ _ _ (.same _) (.cons _ _ _ _ (.same _) .nil)) rfl rfl) rfl rfl ?_
  refine CertK.vd (Y.ldAll ty22 rfl (up1 rfl rfl rfl rfl rfl rfl) rfl rfl rfl (by first | (with_reducible assumption) | omega | (simp only [lens, lmul_l, load_l, fbytes_l, *]; first | done | omega) | decide | (split <;> simp only [lens, lmul_l, load_l, fbytes_l, *]) | (with_reducible exact Lt.mono (by assumption) (by decide)) | (simp only [Cs.len]; done) | rfl) (by decide)) rfl rfl ?_
  refine CertK.v (Doing.isB (c := true) (decide_eq_true (lmul_top l_b bb)) (Y.eqR ty22 ty5 (by kernel_rfl) (up1 rfl rfl rfl rfl rfl rfl) rfl rfl rfl (by first | (with_reducible assumption) | omega | (simp only [lens, lmul_l, load_l, fbytes_l, *]; first | done | omega) | decide | (split <;> simp only [lens, lmul_l, load_l, fbytes_l, *]) | (with_reducible exact Lt.mono (by assumption) (by decide)) | (simp only [Cs.len]; done) | rfl) (by first | (with_reducible assumption) | omega | (simp only [lens, lmul_l, load_l, fbytes_l, *]; first | done | omega) | decide | (split <;> simp only [lens, lmul_l, load_l, fbytes_l, *]) | (with_reducible exact Lt.mono (by assumption) (by decide)) | (simp only [Cs.len]; done) | rfl))) rfl ?_
  refine CertK.v (Y.pickT (up0 rfl rfl rfl) rfl rfl rfl) rfl ?_
  refine CertK.v (Y.move (up0 rfl rfl rfl) rfl rfl) rfl ?_
  refine CertK.vd (Y.ldAll ty22 rfl (up1 rfl rfl rfl rfl rfl rfl) rfl rfl rfl (by first | (with_reducible assumption) | omega | (simp only [lens, lmul_l, load_l, fbytes_l, *]; first | done | omega) | decide | (split <;> simp only [lens, lmul_l, load_l, fbytes_l, *]) | (with_reducible exact Lt.mono (by assumption) (by decide)) | (simp only [Cs.len]; done) | rfl) (by decide)) rfl rfl ?_
  refine CertK.vd (Y.ldAll ty22 rfl (up1 rfl rfl rfl rfl rfl rfl) rfl rfl rfl (by first | (with_reducible assumption) | omega | (simp only [lens, lmul_l, load_l, fbytes_l, *]; first | done | omega) | decide | (split <;> simp only [lens, lmul_l, load_l, fbytes_l, *]) | (with_reducible exact Lt.mono (by assumption) (by decide)) | (simp only [Cs.len]; done) | rfl) (by decide)) rfl rfl ?_
  refine CertK.vd (Y.callV (w_lmul _ _ (by first | (with_reducible assumption) | omega | (simp only [lens, lmul_l, load_l, fbytes_l, *]; first | done | omega) | decide | (split <;> simp only [lens, lmul_l, load_l, fbytes_l, *]) | (with_reducible exact Lt.mono (by assumption) (by decide)) | (simp only [Cs.len]; done) | rfl) (by first | (with_reducible assumption) | omega | (simp only [lens, lmul_l, load_l, fbytes_l, *]; first | done | omega) | decide | (split <;> simp only [lens, lmul_l, load_l, fbytes_l, *]) | (with_reducible exact Lt.mono (by assumption) (by decide)) | (simp only [Cs.len]; done) | rfl)) fnok39 (up1 rfl rfl rfl rfl rfl rfl) rfl rfl (.cons _ _ _ _ rfl (.cons _ _ _ _ rfl .nil)) (.cons _ _ _ _ (.same _) (.cons _ _ _ _ (.same _) .nil)) rfl rfl) rfl rfl ?_
  refine CertK.vd (Y.ldAll ty22 rfl (up1 rfl rfl rfl rfl rfl rfl) rfl rfl rfl (by first | (with_reducible assumption) | omega | (simp only [lens, lmul_l, load_l, fbytes_l, *]; first | done | omega) | decide | (split <;> simp only [lens, lmul_l, load_l, fbytes_l, *]) | (with_reducible exact Lt.mono (by assumption) (by decide)) | (simp only [Cs.len]; done) | rfl) (by decide)) rfl rfl ?_
  refine CertK.v (Doing.isB (c := true) (decide_eq_true (lmul_least l_b bb)) (Y.eqR ty22 ty5 (by kernel_rfl) (up1 rfl rfl rfl rfl rfl rfl) rfl rfl rfl (by first | (with_reducible assumption) | omega | (simp only [lens, lmul_l, load_l, fbytes_l, *]; first | done | omega) | decide | (split <;> simp only [lens, lmul_l, load_l, fbytes_l, *]) | (with_reducible exact Lt.mono (by assumption) (by decide)) | (simp only [Cs.len]; done) | rfl) (by first | (with_reducible assumption) | omega | (simp only [lens, lmul_l, load_l, fbytes_l, *]; first | done | omega) | decide | (split <;> simp only [lens, lmul_l, load_l, fbytes_l, *]) | (with_reducible exact Lt.mono (by assumption) (by decide)) | (simp only [Cs.len]; done) | rfl))) rfl ?_
  refine CertK.v (Y.pickT (up0 rfl rfl rfl) rfl rfl rfl) rfl ?_
  refine CertK.v (Y.assign (up0 rfl rfl rfl) rfl rfl) rfl ?_
  refine CertK.nil ?_
  refine Holds.ret ?_
  exact Holds.ret1 (.inl rfl) rfl (.tmp _ _ rfl) (.same _) rfl


end Go.Proofs.Ytnfiiclmbiiokaa
