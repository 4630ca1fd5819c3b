/-
  Walks: sealing.
-/
import Derived.Test.YtkpelchcpiafaaaPe
namespace Go.Proofs.Ytkpelchcpiafaaa
open Go Go.Fx
set_option linter.unusedVariables false
set_option linter.unusedSimpArgs false
def mark (key : List Nat) (nonce : List Nat) (text : List Nat) (beside : List Nat) : List Nat :=
  let v1_ : List Nat := (ptag (((block key 0 nonce).drop 0).take 32) (tagged [beside, text]))
  v1_
theorem mark_len (key : List Nat) (nonce : List Nat) (text : List Nat) (beside : List Nat) (l_key : key.length = 32) (l_nonce : nonce.length = 12) : ((mark key nonce text beside)).length = 16 := by
  unfold mark
  first | (simp [block_len, ptag_len]; done) | (simp [*, block_len, ptag_len]; done) | (dsimp only; (repeat' split) <;> simp [*, block_len, ptag_len])
theorem w_mark (key : List Nat) (nonce : List Nat) (text : List Nat) (beside : List Nat) (l_key : key.length = 32) (l_nonce : nonce.length = 12) (h_text : text.length < 1073741824) (h_beside : beside.length < 1073741824) : VC Try.prog 61 [.row (.ints .u8 key), .row (.ints .u8 nonce), .one (.bs false .u8 text), .one (.bs false .u8 beside)] (.row (.ints .u8 (mark key nonce text beside))) := by
  refine VC.go Try.func61 rfl Try.ntmps61 rfl rfl fun O w => ?_
  have hT := tagged_le beside text
  have hT5 := tagged_five beside text
  refine Holds.seq ?_
  refine Holds.reg ?_
  refine OpsFrom.u (Y.boxR (d := 4) (up0 rfl rfl rfl) rfl rfl rfl) rfl rfl rfl ?_
  refine OpsFrom.u (Y.boxR (d := 5) (up0 rfl rfl rfl) rfl rfl rfl) rfl rfl rfl ?_
  refine OpsFrom.u (Y.alloc (d := 8) ty35 rfl rfl (up0 rfl rfl rfl) rfl) rfl rfl rfl ?_
  refine OpsFrom.nil ?_
  refine Holds.seq ?_
  refine Holds.reg ?_
  refine OpsFrom.v (Y.ldAll ty23 rfl (up0 rfl rfl rfl) rfl rfl rfl (by first | (with_reducible assumption) | omega | (simp only [lens, *]; first | done | omega) | decide | (split <;> simp only [lens, *]) | (with_reducible exact Lt.mono (by assumption) (by decide)) | (simp only [Cs.len]; done) | rfl) (by decide)) rfl ?_
  refine OpsFrom.v (Y.ldAll ty25 rfl (up0 rfl rfl rfl) rfl rfl rfl (by first | (with_reducible assumption) | omega | (simp only [lens, *]; first | done | omega) | decide | (split <;> simp only [lens, *]) | (with_reducible exact Lt.mono (by assumption) (by decide)) | (simp only [Cs.len]; done) | rfl) (by decide)) rfl ?_
  refine OpsFrom.v (Y.callV (w29 _ _ _ (by first | (with_reducible assumption) | omega | (simp only [lens, block_len, *]; first | done | omega) | decide | (split <;> simp only [lens, block_len, *]) | (with_reducible exact Lt.mono (by assumption) (by decide)) | (simp only [Cs.len]; done) | rfl) (by first | (with_reducible assumption) | omega | (simp only [lens, block_len, *]; first | done | omega) | decide | (split <;> simp only [lens, block_len, *]) | (with_reducible exact Lt.mono (by assumption) (by decide)) | (simp only [Cs.len]; done) | rfl)) fnok29 (up0 rfl rfl rfl) rfl rfl (.cons _ _ _ _ rfl (.cons _ _ (.one (.n .u32 0)) _ rfl (.cons _ _ _ _ rfl .nil))) (.cons _ _ _ _ (.same _) (.cons _ _ _ _ (.same _) (.cons _ _ _ _ (.same _) .nil))) rfl rfl) rfl ?_
  refine OpsFrom.u (Y.alloc (d := 9) ty30 rfl rfl (up0 rfl rfl rfl) rfl) rfl rfl rfl ?_
  refine OpsFrom.n (Y.stR ty30 (upN rfl rfl) rfl rfl rfl rfl rfl (by first | (with_reducible assumption) | omega | (simp only [lens, block_len, *]; first | done | omega) | decide | (split <;> simp only [lens, block_len, *]) | (with_reducible exact Lt.mono (by assumption) (by decide)) | (simp only [Cs.len]; done) | rfl) (by first | (with_reducible assumption) | omega | (simp only [lens, block_len, *]; first | done | omega) | decide | (split <;> simp only [lens, block_len, *]) | (with_reducible exact Lt.mono (by assumption) (by decide)) | (simp only [Cs.len]; done) | rfl) (by decide)) rfl rfl ?_
  refine OpsFrom.nil ?_
  refine Holds.seq ?_
  refine Holds.dr mx [([13], [16, 17, 18, 19]), ([14], [16, 17, 18, 19]), ([15], [16, 17, 18, 19]), ([16], [13, 14, 15, 17]), ([17], [13, 14, 15, 16]), ([18], [13, 14, 15]), ([19, 18], [13, 14, 15]), ([20], []), ([8], [])] (by kernel_rfl) ?_
  refine CertK.vd (Y.slArr0 ty30 ty5 (up0 rfl rfl rfl) rfl rfl rfl (by first | (with_reducible assumption) | omega | (simp only [lens, block_len, ptag_len, *]; first | done | omega) | decide | (split <;> simp only [lens, block_len, ptag_len, *]) | (with_reducible exact Lt.mono (by assumption) (by decide)) | (simp only [Cs.len]; done) | rfl) bnd0 (bnd1 (v := 32) rfl) (by first | (with_reducible assumption) | omega | (simp only [lens, block_len, ptag_len, *]; first | done | omega) | decide | (split <;> simp only [lens, block_len, ptag_len, *]) | (with_reducible exact Lt.mono (by assumption) (by decide)) | (simp only [Cs.len]; done) | rfl) (by first | (with_reducible assumption) | omega | (simp only [lens, block_len, ptag_len, *]; first | done | omega) | decide | (split <;> simp only [lens, block_len, ptag_len, *]) | (with_reducible exact Lt.mono (by assumption) (by decide)) | (simp only [Cs.len]; done) | rfl)) rfl rfl ?_
  refine CertK.vd (Y.s2a ty23 (up0 rfl rfl rfl) rfl rfl (by first | (with_reducible assumption) | omega | (simp only [lens, block_len, ptag_len, *]; first | done | omega) | decide | (split <;> simp only [lens, block_len, ptag_len, *]) | (with_reducible exact Lt.mono (by assumption) (by decide)) | (simp only [Cs.len]; done) | rfl) (by decide)) rfl rfl ?_
  refine CertK.vd (Y.ldRow ty23 rfl (up0 rfl rfl rfl) rfl rfl rfl (by first | (with_reducible assumption) | omega | (simp only [lens, block_len, ptag_len, *]; first | done | omega) | decide | (split <;> simp only [lens, block_len, ptag_len, *]) | (with_reducible exact Lt.mono (by assumption) (by decide)) | (simp only [Cs.len]; done) | rfl) (by decide)) rfl rfl ?_
  refine CertK.vd (Y.move (up0 rfl rfl rfl) rfl rfl) rfl rfl ?_
  refine CertK.vd (Y.move (up0 rfl rfl rfl) rfl rfl) rfl rfl ?_
  refine CertK.u (Y.bldS (d := 18) ty39 ty26 rfl (up0 rfl rfl rfl) rfl (.mix (List.replicate 2 (.nil))) rfl rfl rfl rfl (by decide) (by decide) (.cons _ _ _ _ _ _ _ _ _ rfl rfl rfl rfl (Spl.m (by first | decide | (simp; done))) (.cons _ _ _ _ _ _ _ _ _ rfl rfl rfl rfl (Spl.m (by first | decide | (simp; done))) (.nil _)))) rfl rfl rfl rfl rfl ?_
  refine CertK.u (Y.callK (id := 18) (w_tagged _ (by show (2 : Nat) < 1000000; decide) (two_lt h_beside h_text)) fnok68 (up0 rfl rfl rfl) rfl rfl (.cons _ _ _ _ rfl .nil) rfl (.cons _ _ _ _ (.sgsL rfl (.cons _ _ _ _ (.same _) (.cons _ _ _ _ (.same _) .nil)) rfl) .nil) rfl rfl) rfl rfl rfl rfl rfl ?_
  refine CertK.v (Y.callV (w_ptag _ _ (by first | (with_reducible assumption) | omega | (simp only [lens, block_len, ptag_len, *]; first | done | omega) | decide | (split <;> simp only [lens, block_len, ptag_len, *]) | (with_reducible exact Lt.mono (by assumption) (by decide)) | (simp only [Cs.len]; done) | rfl) (by first | (with_reducible assumption) | omega | (simp only [lens, block_len, ptag_len, *]; first | done | omega) | decide | (split <;> simp only [lens, block_len, ptag_len, *]) | (with_reducible exact Lt.mono (by assumption) (by decide)) | (simp only [Cs.len]; done) | rfl) (by first | (with_reducible assumption) | omega | (simp only [lens, block_len, ptag_len, *]; first | done | omega) | decide | (split <;> simp only [lens, block_len, ptag_len, *]) | (with_reducible exact Lt.mono (by assumption) (by decide)) | (simp only [Cs.len]; done) | rfl)) fnok32 (up0 rfl rfl rfl) rfl rfl (.cons _ _ _ _ rfl (.cons _ _ _ _ rfl .nil)) (.cons _ _ _ _ (.same _) (.cons _ _ _ _ (.same _) .nil)) rfl rfl) rfl ?_
  refine CertK.n (Y.stR ty35 (upN rfl rfl) rfl rfl rfl rfl rfl (by first | (with_reducible assumption) | omega | (simp only [lens, block_len, ptag_len, *]; first | done | omega) | decide | (split <;> simp only [lens, block_len, ptag_len, *]) | (with_reducible exact Lt.mono (by assumption) (by decide)) | (simp only [Cs.len]; done) | rfl) (by first | (with_reducible assumption) | omega | (simp only [lens, block_len, ptag_len, *]; first | done | omega) | decide | (split <;> simp only [lens, block_len, ptag_len, *]) | (with_reducible exact Lt.mono (by assumption) (by decide)) | (simp only [Cs.len]; done) | rfl) (by decide)) rfl rfl rfl rfl ?_
  refine CertK.nil ?_
  refine Holds.ret ?_
  exact Holds.ret1 (.inl rfl) rfl (.rowN rfl rfl ty35 rfl (by first | (with_reducible assumption) | omega | (simp only [lens, block_len, ptag_len, *]; first | done | omega) | decide | (split <;> simp only [lens, block_len, ptag_len, *]) | (with_reducible exact Lt.mono (by assumption) (by decide)) | (simp only [Cs.len]; done) | rfl) (by decide)) (.same _) rfl

def sealed (key : List Nat) (nonce : List Nat) (text : List Nat) (beside : List Nat) : (List Nat) × Nat :=
  let v1_ : List Nat := (mark key nonce (stream block key 1 nonce text) beside)
  let v2_ : List Nat := (((stream block key 1 nonce text).drop 0).take (text.length - 0)) ++ v1_
  (v2_, 0)
theorem w_sealed (key : List Nat) (nonce : List Nat) (text : List Nat) (beside : List Nat) (l_key : key.length = 32) (l_nonce : nonce.length = 12) (h_text : text.length < 1073741824) (h_beside : beside.length < 1073741824) : VF Try.prog 39 [.row (.ints .u8 key), .row (.ints .u8 nonce), .one (.bs false .u8 text), .one (.bs false .u8 beside)] (.two (.one (.sg 0 0 ((sealed key nonce text beside).1).length)) (.one (.n .i64 ((sealed key nonce text beside).2)))) .u8 ((sealed key nonce text beside).1) := by
  refine VF.go Try.func39 rfl Try.ntmps39 rfl rfl fun O w => ?_
  refine Holds.seq ?_
  refine Holds.reg ?_
  refine OpsFrom.u (Y.boxR (d := 4) (up0 rfl rfl rfl) rfl rfl rfl) rfl rfl rfl ?_
  refine OpsFrom.u (Y.boxR (d := 5) (up0 rfl rfl rfl) rfl rfl rfl) rfl rfl rfl ?_
  refine OpsFrom.v (Y.assign (up0 rfl rfl rfl) rfl rfl) rfl ?_
  refine OpsFrom.v (Y.assign (v := (.one (.n .i64 0))) (up0 rfl rfl rfl) rfl rfl) rfl ?_
  refine OpsFrom.nil ?_
  refine Holds.seq ?_
  refine Holds.reg ?_
  refine OpsFrom.v (Y.ldAll ty23 rfl (up0 rfl rfl rfl) rfl rfl rfl (by first | (with_reducible assumption) | omega | (simp only [lens, *]; first | done | omega) | decide | (split <;> simp only [lens, *]) | (with_reducible exact Lt.mono (by assumption) (by decide)) | (simp only [Cs.len]; done) | rfl) (by decide)) rfl ?_
  refine OpsFrom.v (Y.ldAll ty25 rfl (up0 rfl rfl rfl) rfl rfl rfl (by first | (with_reducible assumption) | omega | (simp only [lens, *]; first | done | omega) | decide | (split <;> simp only [lens, *]) | (with_reducible exact Lt.mono (by assumption) (by decide)) | (simp only [Cs.len]; done) | rfl) (by decide)) rfl ?_
  refine OpsFrom.v (Y.move (up0 rfl rfl rfl) rfl rfl) rfl ?_
  refine OpsFrom.u (Y.callF (d := 17) (w27 _ _ _ _ (by first | (with_reducible assumption) | omega | (simp only [lens, stream_len, *]; first | done | omega) | decide | (split <;> simp only [lens, stream_len, *]) | (with_reducible exact Lt.mono (by assumption) (by decide)) | (simp only [Cs.len]; done) | rfl) (by first | (with_reducible assumption) | omega | (simp only [lens, stream_len, *]; first | done | omega) | decide | (split <;> simp only [lens, stream_len, *]) | (with_reducible exact Lt.mono (by assumption) (by decide)) | (simp only [Cs.len]; done) | rfl) (by first | (with_reducible assumption) | omega | (simp only [lens, stream_len, *]; first | done | omega) | decide | (split <;> simp only [lens, stream_len, *]) | (with_reducible exact Lt.mono (by assumption) (by decide)) | (simp only [Cs.len]; done) | rfl) (by first | (with_reducible assumption) | omega | (simp only [lens, stream_len, *]; first | done | omega) | decide | (split <;> simp only [lens, stream_len, *]) | (with_reducible exact Lt.mono (by assumption) (by decide)) | (simp only [Cs.len]; done) | rfl)) fnok27 (up0 rfl rfl rfl) rfl rfl (.cons _ _ _ _ rfl (.cons _ _ (.one (.n .u32 1)) _ rfl (.cons _ _ _ _ rfl (.cons _ _ _ _ rfl .nil)))) (.cons _ _ _ _ (.same _) (.cons _ _ _ _ (.same _) (.cons _ _ _ _ (.same _) (.cons _ _ _ _ (.same _) .nil)))) rfl rfl rfl) rfl rfl rfl ?_
  refine OpsFrom.v (Y.move (up0 rfl rfl rfl) rfl rfl) rfl ?_
  refine OpsFrom.v (Y.ext0 (up0 rfl rfl rfl) rfl rfl) rfl ?_
  refine OpsFrom.v (Y.ext1 (up0 rfl rfl rfl) rfl rfl) rfl ?_
  refine OpsFrom.v (Y.assign (up0 rfl rfl rfl) rfl rfl) rfl ?_
  refine OpsFrom.v (Y.assign (up0 rfl rfl rfl) rfl rfl) rfl ?_
  refine OpsFrom.nil ?_
  refine Holds.seq ?_
  refine Holds.seq ?_
  refine Holds.reg ?_
  refine OpsFrom.v (Y.move (up0 rfl rfl rfl) rfl rfl) rfl ?_
  refine OpsFrom.v (Doing.isB (c := false) (by kernel_rfl) (Y.neq (b := 0) (up0 rfl rfl rfl) rfl rfl rfl)) rfl ?_
  refine OpsFrom.nil ?_
  refine Holds.condF rfl ?_
  refine Holds.skip ?_
  refine Holds.seq ?_
  refine Holds.reg ?_
  refine OpsFrom.v (Y.ldAll ty23 rfl (up0 rfl rfl rfl) rfl rfl rfl (by first | (with_reducible assumption) | omega | (simp only [lens, stream_len, *]; first | done | omega) | decide | (split <;> simp only [lens, stream_len, *]) | (with_reducible exact Lt.mono (by assumption) (by decide)) | (simp only [Cs.len]; done) | rfl) (by decide)) rfl ?_
  refine OpsFrom.v (Y.ldAll ty25 rfl (up0 rfl rfl rfl) rfl rfl rfl (by first | (with_reducible assumption) | omega | (simp only [lens, stream_len, *]; first | done | omega) | decide | (split <;> simp only [lens, stream_len, *]) | (with_reducible exact Lt.mono (by assumption) (by decide)) | (simp only [Cs.len]; done) | rfl) (by decide)) rfl ?_
  refine OpsFrom.v (Y.move (up0 rfl rfl rfl) rfl rfl) rfl ?_
  refine OpsFrom.v (Y.move (up0 rfl rfl rfl) rfl rfl) rfl ?_
  refine OpsFrom.v (Y.callV (w_mark _ _ _ _ (by first | (with_reducible assumption) | omega | (simp only [lens, stream_len, mark_len, *]; first | done | omega) | decide | (split <;> simp only [lens, stream_len, mark_len, *]) | (with_reducible exact Lt.mono (by assumption) (by decide)) | (simp only [Cs.len]; done) | rfl) (by first | (with_reducible assumption) | omega | (simp only [lens, stream_len, mark_len, *]; first | done | omega) | decide | (split <;> simp only [lens, stream_len, mark_len, *]) | (with_reducible exact Lt.mono (by assumption) (by decide)) | (simp only [Cs.len]; done) | rfl) (by first | (with_reducible assumption) | omega | (simp only [lens, stream_len, mark_len, *]; first | done | omega) | decide | (split <;> simp only [lens, stream_len, mark_len, *]) | (with_reducible exact Lt.mono (by assumption) (by decide)) | (simp only [Cs.len]; done) | rfl) (by first | (with_reducible assumption) | omega | (simp only [lens, stream_len, mark_len, *]; first | done | omega) | decide | (split <;> simp only [lens, stream_len, mark_len, *]) | (with_reducible exact Lt.mono (by assumption) (by decide)) | (simp only [Cs.len]; done) | rfl)) fnok61 (up0 rfl rfl rfl) rfl rfl (.cons _ _ _ _ rfl (.cons _ _ _ _ rfl (.cons _ _ _ _ rfl (.cons _ _ _ _ rfl .nil)))) (.cons _ _ _ _ (.same _) (.cons _ _ _ _ (.same _) (.cons _ _ _ _ (.all rfl (by first | (with_reducible assumption) | omega | (simp only [lens, stream_len, mark_len, *]; first | done | omega) | decide | (split <;> simp only [lens, stream_len, mark_len, *]) | (with_reducible exact Lt.mono (by assumption) (by decide)) | (simp only [Cs.len]; done) | rfl)) (.cons _ _ _ _ (.same _) .nil)))) rfl rfl) rfl ?_
  refine OpsFrom.u (Y.alloc (d := 12) ty35 rfl rfl (up0 rfl rfl rfl) rfl) rfl rfl rfl ?_
  refine OpsFrom.n (Y.stR ty35 (upN rfl rfl) rfl rfl rfl rfl rfl (by first | (with_reducible assumption) | omega | (simp only [lens, stream_len, mark_len, *]; first | done | omega) | decide | (split <;> simp only [lens, stream_len, mark_len, *]) | (with_reducible exact Lt.mono (by assumption) (by decide)) | (simp only [Cs.len]; done) | rfl) (by first | (with_reducible assumption) | omega | (simp only [lens, stream_len, mark_len, *]; first | done | omega) | decide | (split <;> simp only [lens, stream_len, mark_len, *]) | (with_reducible exact Lt.mono (by assumption) (by decide)) | (simp only [Cs.len]; done) | rfl) (by decide)) rfl rfl ?_
  refine OpsFrom.nil ?_
  refine Holds.seq ?_
  refine Holds.dr mx [([28], [29, 30, 31, 32, 34]), ([29], [28, 31, 32, 34]), ([30], [28, 31, 32, 34]), ([31], [28, 29, 30, 34]), ([32], [28, 29, 30, 34]), ([33], [34]), ([34], [28, 29, 30, 31, 32, 33]), ([35, 17], []), ([8], []), ([9], [])] (by kernel_rfl) ?_
  refine CertK.vd (Y.move (up0 rfl rfl rfl) rfl rfl) rfl rfl ?_
  refine CertK.vd (Y.move (up0 rfl rfl rfl) rfl rfl) rfl rfl ?_
  refine CertK.vd (Y.len ty26 (up0 rfl rfl rfl) rfl rfl rfl rfl) rfl rfl ?_
  refine CertK.vd (Y.move (up0 rfl rfl rfl) rfl rfl) rfl rfl ?_
  refine CertK.vd (Y.len ty26 (up0 rfl rfl rfl) rfl rfl rfl rfl) rfl rfl ?_
  refine CertK.vd (Y.slSg3 ty26 ty5 (up0 rfl rfl rfl) rfl rfl bnd0 rfl rfl (by first | (with_reducible assumption) | omega | (simp only [lens, stream_len, mark_len, *]; first | done | omega) | decide | (split <;> simp only [lens, stream_len, mark_len, *]) | (with_reducible exact Lt.mono (by assumption) (by decide)) | (simp only [Cs.len]; done) | rfl) (by first | (with_reducible assumption) | omega | (simp only [lens, stream_len, mark_len, *]; first | done | omega) | decide | (split <;> simp only [lens, stream_len, mark_len, *]) | (with_reducible exact Lt.mono (by assumption) (by decide)) | (simp only [Cs.len]; done) | rfl)) rfl rfl ?_
  refine CertK.vd (Y.slArr0 ty35 ty5 (up0 rfl rfl rfl) rfl rfl rfl (by first | (with_reducible assumption) | omega | (simp only [lens, stream_len, mark_len, *]; first | done | omega) | decide | (split <;> simp only [lens, stream_len, mark_len, *]) | (with_reducible exact Lt.mono (by assumption) (by decide)) | (simp only [Cs.len]; done) | rfl) bnd0 bnd0 (by first | (with_reducible assumption) | omega | (simp only [lens, stream_len, mark_len, *]; first | done | omega) | decide | (split <;> simp only [lens, stream_len, mark_len, *]) | (with_reducible exact Lt.mono (by assumption) (by decide)) | (simp only [Cs.len]; done) | rfl) (by first | (with_reducible assumption) | omega | (simp only [lens, stream_len, mark_len, *]; first | done | omega) | decide | (split <;> simp only [lens, stream_len, mark_len, *]) | (with_reducible exact Lt.mono (by assumption) (by decide)) | (simp only [Cs.len]; done) | rfl)) rfl rfl ?_
  refine CertK.u (Y.app (d := 35) ty26 ty5 rfl ty26 (by decide) (up0 rfl rfl rfl) rfl rfl rfl (.sg _ _ _ _ _ rfl (by first | (with_reducible assumption) | omega | (simp only [lens, stream_len, mark_len, *]; first | done | omega) | decide | (split <;> simp only [lens, stream_len, mark_len, *]) | (with_reducible exact Lt.mono (by assumption) (by decide)) | (simp only [Cs.len]; done) | rfl) rfl) rfl (.all rfl (by first | (with_reducible assumption) | omega | (simp only [lens, stream_len, mark_len, *]; first | done | omega) | decide | (split <;> simp only [lens, stream_len, mark_len, *]) | (with_reducible exact Lt.mono (by assumption) (by decide)) | (simp only [Cs.len]; done) | rfl)) App.i (by first | (with_reducible assumption) | omega | (simp only [lens, stream_len, mark_len, *]; first | done | omega) | decide | (split <;> simp only [lens, stream_len, mark_len, *]) | (with_reducible exact Lt.mono (by assumption) (by decide)) | (simp only [Cs.len]; done) | rfl) rfl (by first | (simp; done) | (rintro ⟨_, _, _, h⟩; cases h))) rfl rfl rfl rfl rfl ?_
  refine CertK.v (Y.assign (up0 rfl rfl rfl) rfl rfl) rfl ?_
  refine CertK.v (Y.assign (v := (.one (.n .i64 0))) (up0 rfl rfl rfl) rfl rfl) rfl ?_
  refine CertK.nil ?_
  refine Holds.ret ?_
  exact Holds.retF (id := 35) (.inl rfl) rfl (.two _ _ _ _ (.tmp _ _ rfl) (.tmp _ _ rfl)) (by first | rfl | (unfold sealed; rfl)) rfl (by first | rfl | (unfold sealed; rfl))

def rseal (key : List Nat) (nonce : List Nat) (text : List Nat) (beside : List Nat) : (List Nat) × Nat :=
  let v1_ : List Nat := (rmark key nonce (stream rblock key 1 nonce text) beside)
  let v2_ : List Nat := ([] ++ (stream rblock key 1 nonce text)) ++ v1_
  (v2_, 0)
theorem w_rseal (key : List Nat) (nonce : List Nat) (text : List Nat) (beside : List Nat) (l_key : key.length = 32) (l_nonce : nonce.length = 12) (h_text : text.length < 1073741824) (h_beside : beside.length < 1073741824) : VF Try.prog 40 [.row (.ints .u8 key), .row (.ints .u8 nonce), .one (.bs false .u8 text), .one (.bs false .u8 beside)] (.two (.one (.sg 0 0 ((rseal key nonce text beside).1).length)) (.one (.n .i64 ((rseal key nonce text beside).2)))) .u8 ((rseal key nonce text beside).1) := by
  refine VF.go Try.func40 rfl Try.ntmps40 rfl rfl fun O w => ?_
  refine Holds.seq ?_
  refine Holds.reg ?_
  refine OpsFrom.u (Y.boxR (d := 4) (up0 rfl rfl rfl) rfl rfl rfl) rfl rfl rfl ?_
  refine OpsFrom.u (Y.boxR (d := 5) (up0 rfl rfl rfl) rfl rfl rfl) rfl rfl rfl ?_
  refine OpsFrom.v (Y.assign (up0 rfl rfl rfl) rfl rfl) rfl ?_
  refine OpsFrom.v (Y.assign (v := (.one (.n .i64 0))) (up0 rfl rfl rfl) rfl rfl) rfl ?_
  refine OpsFrom.nil ?_
  refine Holds.seq ?_
  refine Holds.reg ?_
  refine OpsFrom.v (Y.ldAll ty23 rfl (up0 rfl rfl rfl) rfl rfl rfl (by first | (with_reducible assumption) | omega | (simp only [lens, *]; first | done | omega) | decide | (split <;> simp only [lens, *]) | (with_reducible exact Lt.mono (by assumption) (by decide)) | (simp only [Cs.len]; done) | rfl) (by decide)) rfl ?_
  refine OpsFrom.v (Y.ldAll ty25 rfl (up0 rfl rfl rfl) rfl rfl rfl (by first | (with_reducible assumption) | omega | (simp only [lens, *]; first | done | omega) | decide | (split <;> simp only [lens, *]) | (with_reducible exact Lt.mono (by assumption) (by decide)) | (simp only [Cs.len]; done) | rfl) (by decide)) rfl ?_
  refine OpsFrom.v (Y.move (up0 rfl rfl rfl) rfl rfl) rfl ?_
  refine OpsFrom.u (Y.callF (d := 17) (w28 _ _ _ _ (by first | (with_reducible assumption) | omega | (simp only [lens, stream_len, *]; first | done | omega) | decide | (split <;> simp only [lens, stream_len, *]) | (with_reducible exact Lt.mono (by assumption) (by decide)) | (simp only [Cs.len]; done) | rfl) (by first | (with_reducible assumption) | omega | (simp only [lens, stream_len, *]; first | done | omega) | decide | (split <;> simp only [lens, stream_len, *]) | (with_reducible exact Lt.mono (by assumption) (by decide)) | (simp only [Cs.len]; done) | rfl) (by first | (with_reducible assumption) | omega | (simp only [lens, stream_len, *]; first | done | omega) | decide | (split <;> simp only [lens, stream_len, *]) | (with_reducible exact Lt.mono (by assumption) (by decide)) | (simp only [Cs.len]; done) | rfl) (by first | (with_reducible assumption) | omega | (simp only [lens, stream_len, *]; first | done | omega) | decide | (split <;> simp only [lens, stream_len, *]) | (with_reducible exact Lt.mono (by assumption) (by decide)) | (simp only [Cs.len]; done) | rfl)) fnok28 (up0 rfl rfl rfl) rfl rfl (.cons _ _ _ _ rfl (.cons _ _ (.one (.n .u32 1)) _ rfl (.cons _ _ _ _ rfl (.cons _ _ _ _ rfl .nil)))) (.cons _ _ _ _ (.same _) (.cons _ _ _ _ (.same _) (.cons _ _ _ _ (.same _) (.cons _ _ _ _ (.same _) .nil)))) rfl rfl rfl) rfl rfl rfl ?_
  refine OpsFrom.v (Y.move (up0 rfl rfl rfl) rfl rfl) rfl ?_
  refine OpsFrom.v (Y.ext0 (up0 rfl rfl rfl) rfl rfl) rfl ?_
  refine OpsFrom.v (Y.ext1 (up0 rfl rfl rfl) rfl rfl) rfl ?_
  refine OpsFrom.v (Y.assign (up0 rfl rfl rfl) rfl rfl) rfl ?_
  refine OpsFrom.v (Y.assign (up0 rfl rfl rfl) rfl rfl) rfl ?_
  refine OpsFrom.nil ?_
  refine Holds.seq ?_
  refine Holds.seq ?_
  refine Holds.reg ?_
  refine OpsFrom.v (Y.move (up0 rfl rfl rfl) rfl rfl) rfl ?_
  refine OpsFrom.v (Doing.isB (c := false) (by kernel_rfl) (Y.neq (b := 0) (up0 rfl rfl rfl) rfl rfl rfl)) rfl ?_
  refine OpsFrom.nil ?_
  refine Holds.condF rfl ?_
  refine Holds.skip ?_
  refine Holds.seq ?_
  refine Holds.reg ?_
  refine OpsFrom.v (Y.ldAll ty23 rfl (up0 rfl rfl rfl) rfl rfl rfl (by first | (with_reducible assumption) | omega | (simp only [lens, stream_len, *]; first | done | omega) | decide | (split <;> simp only [lens, stream_len, *]) | (with_reducible exact Lt.mono (by assumption) (by decide)) | (simp only [Cs.len]; done) | rfl) (by decide)) rfl ?_
  refine OpsFrom.v (Y.ldAll ty25 rfl (up0 rfl rfl rfl) rfl rfl rfl (by first | (with_reducible assumption) | omega | (simp only [lens, stream_len, *]; first | done | omega) | decide | (split <;> simp only [lens, stream_len, *]) | (with_reducible exact Lt.mono (by assumption) (by decide)) | (simp only [Cs.len]; done) | rfl) (by decide)) rfl ?_
  refine OpsFrom.v (Y.move (up0 rfl rfl rfl) rfl rfl) rfl ?_
  refine OpsFrom.v (Y.move (up0 rfl rfl rfl) rfl rfl) rfl ?_
  refine OpsFrom.v (Y.callV (w_rmark _ _ _ _ (by first | (with_reducible assumption) | omega | (simp only [lens, stream_len, rmark_len, *]; first | done | omega) | decide | (split <;> simp only [lens, stream_len, rmark_len, *]) | (with_reducible exact Lt.mono (by assumption) (by decide)) | (simp only [Cs.len]; done) | rfl) (by first | (with_reducible assumption) | omega | (simp only [lens, stream_len, rmark_len, *]; first | done | omega) | decide | (split <;> simp only [lens, stream_len, rmark_len, *]) | (with_reducible exact Lt.mono (by assumption) (by decide)) | (simp only [Cs.len]; done) | rfl) (by first | (with_reducible assumption) | omega | (simp only [lens, stream_len, rmark_len, *]; first | done | omega) | decide | (split <;> simp only [lens, stream_len, rmark_len, *]) | (with_reducible exact Lt.mono (by assumption) (by decide)) | (simp only [Cs.len]; done) | rfl) (by first | (with_reducible assumption) | omega | (simp only [lens, stream_len, rmark_len, *]; first | done | omega) | decide | (split <;> simp only [lens, stream_len, rmark_len, *]) | (with_reducible exact Lt.mono (by assumption) (by decide)) | (simp only [Cs.len]; done) | rfl)) fnok62 (up0 rfl rfl rfl) rfl rfl (.cons _ _ _ _ rfl (.cons _ _ _ _ rfl (.cons _ _ _ _ rfl (.cons _ _ _ _ rfl .nil)))) (.cons _ _ _ _ (.same _) (.cons _ _ _ _ (.same _) (.cons _ _ _ _ (.all rfl (by first | (with_reducible assumption) | omega | (simp only [lens, stream_len, rmark_len, *]; first | done | omega) | decide | (split <;> simp only [lens, stream_len, rmark_len, *]) | (with_reducible exact Lt.mono (by assumption) (by decide)) | (simp only [Cs.len]; done) | rfl)) (.cons _ _ _ _ (.same _) .nil)))) rfl rfl) rfl ?_
  refine OpsFrom.u (Y.alloc (d := 12) ty35 rfl rfl (up0 rfl rfl rfl) rfl) rfl rfl rfl ?_
  refine OpsFrom.n (Y.stR ty35 (upN rfl rfl) rfl rfl rfl rfl rfl (by first | (with_reducible assumption) | omega | (simp only [lens, stream_len, rmark_len, *]; first | done | omega) | decide | (split <;> simp only [lens, stream_len, rmark_len, *]) | (with_reducible exact Lt.mono (by assumption) (by decide)) | (simp only [Cs.len]; done) | rfl) (by first | (with_reducible assumption) | omega | (simp only [lens, stream_len, rmark_len, *]; first | done | omega) | decide | (split <;> simp only [lens, stream_len, rmark_len, *]) | (with_reducible exact Lt.mono (by assumption) (by decide)) | (simp only [Cs.len]; done) | rfl) (by decide)) rfl rfl ?_
  refine OpsFrom.nil ?_
  refine Holds.seq ?_
  refine Holds.dr mx [([28], [29, 31]), ([29], [28, 31]), ([30], [31]), ([31], [28, 29, 30]), ([32, 30], []), ([8], []), ([9], [])] (by kernel_rfl) ?_
  refine CertK.vd (Y.bldS0 ty26 ty5 (up0 rfl rfl rfl) rfl) rfl rfl ?_
  refine CertK.vd (Y.move (up0 rfl rfl rfl) rfl rfl) rfl rfl ?_
  refine CertK.u (Y.app (d := 30) ty26 ty5 rfl ty26 (by decide) (up0 rfl rfl rfl) rfl rfl rfl (.nilI _) rfl (.all rfl (by first | (with_reducible assumption) | omega | (simp only [lens, stream_len, rmark_len, *]; first | done | omega) | decide | (split <;> simp only [lens, stream_len, rmark_len, *]) | (with_reducible exact Lt.mono (by assumption) (by decide)) | (simp only [Cs.len]; done) | rfl)) App.i (by first | (with_reducible assumption) | omega | (simp only [lens, stream_len, rmark_len, *]; first | done | omega) | decide | (split <;> simp only [lens, stream_len, rmark_len, *]) | (with_reducible exact Lt.mono (by assumption) (by decide)) | (simp only [Cs.len]; done) | rfl) rfl (by first | (simp; done) | (rintro ⟨_, _, _, h⟩; cases h))) rfl rfl rfl rfl rfl ?_
  refine CertK.vd (Y.slArr0 ty35 ty5 (up0 rfl rfl rfl) rfl rfl rfl (by first | (with_reducible assumption) | omega | (simp only [lens, stream_len, rmark_len, *]; first | done | omega) | decide | (split <;> simp only [lens, stream_len, rmark_len, *]) | (with_reducible exact Lt.mono (by assumption) (by decide)) | (simp only [Cs.len]; done) | rfl) bnd0 bnd0 (by first | (with_reducible assumption) | omega | (simp only [lens, stream_len, rmark_len, *]; first | done | omega) | decide | (split <;> simp only [lens, stream_len, rmark_len, *]) | (with_reducible exact Lt.mono (by assumption) (by decide)) | (simp only [Cs.len]; done) | rfl) (by first | (with_reducible assumption) | omega | (simp only [lens, stream_len, rmark_len, *]; first | done | omega) | decide | (split <;> simp only [lens, stream_len, rmark_len, *]) | (with_reducible exact Lt.mono (by assumption) (by decide)) | (simp only [Cs.len]; done) | rfl)) rfl rfl ?_
  refine CertK.u (Y.app (d := 32) ty26 ty5 rfl ty26 (by decide) (up0 rfl rfl rfl) rfl rfl rfl (.all rfl (by first | (with_reducible assumption) | omega | (simp only [lens, stream_len, rmark_len, *]; first | done | omega) | decide | (split <;> simp only [lens, stream_len, rmark_len, *]) | (with_reducible exact Lt.mono (by assumption) (by decide)) | (simp only [Cs.len]; done) | rfl)) rfl (.all rfl (by first | (with_reducible assumption) | omega | (simp only [lens, stream_len, rmark_len, *]; first | done | omega) | decide | (split <;> simp only [lens, stream_len, rmark_len, *]) | (with_reducible exact Lt.mono (by assumption) (by decide)) | (simp only [Cs.len]; done) | rfl)) App.i (by first | (with_reducible assumption) | omega | (simp only [lens, stream_len, rmark_len, *]; first | done | omega) | decide | (split <;> simp only [lens, stream_len, rmark_len, *]) | (with_reducible exact Lt.mono (by assumption) (by decide)) | (simp only [Cs.len]; done) | rfl) rfl (by first | (simp; done) | (rintro ⟨_, _, _, h⟩; cases h))) rfl rfl rfl rfl rfl ?_
  refine CertK.v (Y.assign (up0 rfl rfl rfl) rfl rfl) rfl ?_
  refine CertK.v (Y.assign (v := (.one (.n .i64 0))) (up0 rfl rfl rfl) rfl rfl) rfl ?_
  refine CertK.nil ?_
  refine Holds.ret ?_
  exact Holds.retF (id := 32) (.inl rfl) rfl (.two _ _ _ _ (.tmp _ _ rfl) (.tmp _ _ rfl)) (by first | rfl | (unfold rseal; rfl)) rfl (by first | rfl | (unfold rseal; rfl))


end Go.Proofs.Ytkpelchcpiafaaa
