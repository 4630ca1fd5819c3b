/-
  Walks: opening.
-/
import Derived.Test.YtkpelchcpiafaaaRd
namespace Go.Proofs.Ytkpelchcpiafaaa
open Go Go.Fx
set_option linter.unusedVariables false
set_option linter.unusedSimpArgs false
def opened (key : List Nat) (nonce : List Nat) (text : List Nat) (beside : List Nat) : (List Nat) × Nat :=
  let v1_ : Int := ((text.length : Nat) : Int) - ((16 : Nat) : Int)
  if v1_ < ((0 : Nat) : Int) then
    ([], 110)
  else
    if (!(same (mark key nonce ((text.drop 0).take ((text.length - 16) - 0)) beside) ((text.drop (text.length - 16)).take (text.length - (text.length - 16))))) = true then
      ([], 110)
    else
      let v4_ : List Nat := (text.drop 0).take ((text.length - 16) - 0)
      ((stream block key 1 nonce v4_), 0)
theorem w_opened (key : List Nat) (nonce : List Nat) (text : List Nat) (beside : List Nat) (l_key : key.length = 32) (l_nonce : nonce.length = 12) (h_text : text.length < 1073741824) (h_beside : beside.length < 1073741824) : VC Try.prog 41 [.row (.ints .u8 key), .row (.ints .u8 nonce), .one (.bs false .u8 text), .one (.bs false .u8 beside)] (.two (.one (.bs false .u8 ((opened key nonce text beside).1))) (.one (.n .i64 ((opened key nonce text beside).2)))) := by
  refine VC.go Try.func41 rfl Try.ntmps41 rfl rfl fun O w => ?_
  refine Holds.seq ?_
  refine Holds.reg ?_
  refine OpsFrom.u (Y.boxR (d := 4) (up0 rfl rfl rfl) rfl rfl rfl) rfl rfl rfl ?_
  refine OpsFrom.u (Y.boxR (d := 5) (up0 rfl rfl rfl) rfl rfl rfl) rfl rfl rfl ?_
  refine OpsFrom.v (Y.assign (up0 rfl rfl rfl) rfl rfl) rfl ?_
  refine OpsFrom.v (Y.assign (v := (.one (.n .i64 0))) (up0 rfl rfl rfl) rfl rfl) rfl ?_
  refine OpsFrom.nil ?_
  refine Holds.seq ?_
  refine Holds.reg ?_
  refine OpsFrom.v (Y.move (up0 rfl rfl rfl) rfl rfl) rfl ?_
  refine OpsFrom.v (Y.len ty26 (up0 rfl rfl rfl) rfl rfl rfl rfl) rfl ?_
  refine OpsFrom.v (Y.subZ (b := 16) (up0 rfl rfl rfl) rfl rfl rfl rfl rfl (by first | (with_reducible assumption) | omega | (simp only [lens, *]; first | done | omega) | decide | (split <;> simp only [lens, *]) | (with_reducible exact Lt.mono (by assumption) (by decide)) | (simp only [Cs.len]; done) | rfl) (by first | (with_reducible assumption) | omega | (simp only [lens, *]; first | done | omega) | decide | (split <;> simp only [lens, *]) | (with_reducible exact Lt.mono (by assumption) (by decide)) | (simp only [Cs.len]; done) | rfl)) rfl ?_
  refine OpsFrom.v (Y.assign (up0 rfl rfl rfl) rfl rfl) rfl ?_
  refine OpsFrom.nil ?_
  refine Holds.seq ?_
  refine Holds.seq ?_
  refine Holds.reg ?_
  refine OpsFrom.v (Y.move (up0 rfl rfl rfl) rfl rfl) rfl ?_
  refine OpsFrom.v (Y.lssZ (b := 0) (up0 rfl rfl rfl) rfl rfl rfl rfl rfl) rfl ?_
  refine OpsFrom.nil ?_
  refine Holds.condD rfl (fun h16 => ?_) (fun h16 => ?_)
  · refine Holds.seq ?_
    refine Holds.reg ?_
    refine OpsFrom.v (Y.assign (up0 rfl rfl rfl) rfl rfl) rfl ?_
    refine OpsFrom.v (Y.assign (v := (.one (.n .i64 110))) (up0 rfl rfl rfl) rfl rfl) rfl ?_
    refine OpsFrom.nil ?_
    refine Holds.ret ?_
    exact Holds.ret2 (.inl rfl) rfl (.tmp _ _ rfl) (.tmp _ _ rfl) (View.cg (congrArg (fun z => (.two (.one (.bs false .u8 z.1)) (.one (.n .i64 z.2)) : AV)) (show (opened key nonce text beside) = _ from (by unfold opened; exact (if_pos h16)))) (.two _ _ _ _ (.nilB _ _) (.same _))) rfl
  · refine Holds.nat 10 rfl (text.length - 16) (by first | (with_reducible assumption) | omega | (simp only [lens, *]; first | done | omega) | decide | (split <;> simp only [lens, *]) | (with_reducible exact Lt.mono (by assumption) (by decide)) | (simp only [Cs.len]; done) | rfl) ?_
    refine Holds.skip ?_
    refine Holds.seq ?_
    refine Holds.dr mx [([17], [18, 19, 20, 21, 22, 11]), ([18], [17, 19, 20, 21, 22, 11]), ([19], [17, 18, 20, 22, 11]), ([20], [17, 18, 19, 22, 11]), ([21], [17, 18, 22, 11]), ([22], [17, 18, 19, 20, 21, 11]), ([23], [11]), ([11], [17, 18, 19, 20, 21, 22, 23]), ([11], [])] (by kernel_rfl) ?_
    refine CertK.vd (Y.ldAll ty23 rfl (up0 rfl rfl rfl) rfl rfl rfl (by first | (with_reducible assumption) | omega | (simp only [lens, mark_len, *]; first | done | omega) | decide | (split <;> simp only [lens, mark_len, *]) | (with_reducible exact Lt.mono (by assumption) (by decide)) | (simp only [Cs.len]; done) | rfl) (by decide)) rfl rfl ?_
    refine CertK.vd (Y.ldAll ty25 rfl (up0 rfl rfl rfl) rfl rfl rfl (by first | (with_reducible assumption) | omega | (simp only [lens, mark_len, *]; first | done | omega) | decide | (split <;> simp only [lens, mark_len, *]) | (with_reducible exact Lt.mono (by assumption) (by decide)) | (simp only [Cs.len]; done) | rfl) (by decide)) rfl rfl ?_
    refine CertK.vd (Y.move (up0 rfl rfl rfl) rfl rfl) rfl rfl ?_
    refine CertK.vd (Y.move (up0 rfl rfl rfl) rfl rfl) rfl rfl ?_
    refine CertK.vd (Y.slBs ty26 ty5 (up0 rfl rfl rfl) rfl rfl bnd0 (bnd1 rfl) (by first | (with_reducible assumption) | omega | (simp only [lens, mark_len, *]; first | done | omega) | decide | (split <;> simp only [lens, mark_len, *]) | (with_reducible exact Lt.mono (by assumption) (by decide)) | (simp only [Cs.len]; done) | rfl) (by first | (with_reducible assumption) | omega | (simp only [lens, mark_len, *]; first | done | omega) | decide | (split <;> simp only [lens, mark_len, *]) | (with_reducible exact Lt.mono (by assumption) (by decide)) | (simp only [Cs.len]; done) | rfl)) rfl rfl ?_
    refine CertK.vd (Y.move (up0 rfl rfl rfl) rfl rfl) rfl rfl ?_
    refine CertK.vd (Y.callV (w_mark _ _ _ _ (by first | (with_reducible assumption) | omega | (simp only [lens, mark_len, *]; first | done | omega) | decide | (split <;> simp only [lens, mark_len, *]) | (with_reducible exact Lt.mono (by assumption) (by decide)) | (simp only [Cs.len]; done) | rfl) (by first | (with_reducible assumption) | omega | (simp only [lens, mark_len, *]; first | done | omega) | decide | (split <;> simp only [lens, mark_len, *]) | (with_reducible exact Lt.mono (by assumption) (by decide)) | (simp only [Cs.len]; done) | rfl) (by first | (with_reducible assumption) | omega | (simp only [lens, mark_len, *]; first | done | omega) | decide | (split <;> simp only [lens, mark_len, *]) | (with_reducible exact Lt.mono (by assumption) (by decide)) | (simp only [Cs.len]; done) | rfl) (by first | (with_reducible assumption) | omega | (simp only [lens, mark_len, *]; first | done | omega) | decide | (split <;> simp only [lens, mark_len, *]) | (with_reducible exact Lt.mono (by assumption) (by decide)) | (simp only [Cs.len]; done) | rfl)) fnok61 (up0 rfl rfl rfl) rfl rfl (.cons _ _ _ _ rfl (.cons _ _ _ _ rfl (.cons _ _ _ _ rfl (.cons _ _ _ _ rfl .nil)))) (.cons _ _ _ _ (.same _) (.cons _ _ _ _ (.same _) (.cons _ _ _ _ (.same _) (.cons _ _ _ _ (.same _) .nil)))) rfl rfl) rfl rfl ?_
    refine CertK.u (Y.alloc (d := 11) ty35 rfl rfl (up0 rfl rfl rfl) rfl) rfl rfl rfl rfl rfl ?_
    refine CertK.n (Y.stR ty35 (upN rfl rfl) rfl rfl rfl rfl rfl (by first | (with_reducible assumption) | omega | (simp only [lens, mark_len, *]; first | done | omega) | decide | (split <;> simp only [lens, mark_len, *]) | (with_reducible exact Lt.mono (by assumption) (by decide)) | (simp only [Cs.len]; done) | rfl) (by first | (with_reducible assumption) | omega | (simp only [lens, mark_len, *]; first | done | omega) | decide | (split <;> simp only [lens, mark_len, *]) | (with_reducible exact Lt.mono (by assumption) (by decide)) | (simp only [Cs.len]; done) | rfl) (by decide)) rfl rfl rfl rfl ?_
    refine CertK.nil ?_
    refine Holds.seq ?_
    refine Holds.seq ?_
    refine Holds.dr mx [([24], [25, 26, 27]), ([25], [24, 26]), ([26], [24, 25]), ([27], [24]), ([28], []), ([29], [])] (by kernel_rfl) ?_
    refine CertK.vd (Y.slArr0 ty35 ty5 (up0 rfl rfl rfl) rfl rfl rfl (by first | (with_reducible assumption) | omega | (simp only [lens, mark_len, *]; first | done | omega) | decide | (split <;> simp only [lens, mark_len, *]) | (with_reducible exact Lt.mono (by assumption) (by decide)) | (simp only [Cs.len]; done) | rfl) bnd0 bnd0 (by first | (with_reducible assumption) | omega | (simp only [lens, mark_len, *]; first | done | omega) | decide | (split <;> simp only [lens, mark_len, *]) | (with_reducible exact Lt.mono (by assumption) (by decide)) | (simp only [Cs.len]; done) | rfl) (by first | (with_reducible assumption) | omega | (simp only [lens, mark_len, *]; first | done | omega) | decide | (split <;> simp only [lens, mark_len, *]) | (with_reducible exact Lt.mono (by assumption) (by decide)) | (simp only [Cs.len]; done) | rfl)) rfl rfl ?_
    refine CertK.vd (Y.move (up0 rfl rfl rfl) rfl rfl) rfl rfl ?_
    refine CertK.vd (Y.move (up0 rfl rfl rfl) rfl rfl) rfl rfl ?_
    refine CertK.vd (Y.slBs ty26 ty5 (up0 rfl rfl rfl) rfl rfl (bnd1 rfl) bnd0 (by first | (with_reducible assumption) | omega | (simp only [lens, mark_len, *]; first | done | omega) | decide | (split <;> simp only [lens, mark_len, *]) | (with_reducible exact Lt.mono (by assumption) (by decide)) | (simp only [Cs.len]; done) | rfl) (by first | (with_reducible assumption) | omega | (simp only [lens, mark_len, *]; first | done | omega) | decide | (split <;> simp only [lens, mark_len, *]) | (with_reducible exact Lt.mono (by assumption) (by decide)) | (simp only [Cs.len]; done) | rfl)) rfl rfl ?_
    refine CertK.v (Y.callV (w_same _ _ (by first | (with_reducible assumption) | omega | (simp only [lens, mark_len, *]; first | done | omega) | decide | (split <;> simp only [lens, mark_len, *]) | (with_reducible exact Lt.mono (by assumption) (by decide)) | (simp only [Cs.len]; done) | rfl)) fnok63 (up0 rfl rfl rfl) rfl rfl (.cons _ _ _ _ rfl (.cons _ _ _ _ rfl .nil)) (.cons _ _ _ _ (.all rfl (by first | (with_reducible assumption) | omega | (simp only [lens, mark_len, *]; first | done | omega) | decide | (split <;> simp only [lens, mark_len, *]) | (with_reducible exact Lt.mono (by assumption) (by decide)) | (simp only [Cs.len]; done) | rfl)) (.cons _ _ _ _ (.same _) .nil)) rfl rfl) rfl ?_
    refine CertK.v (Y.not (up0 rfl rfl rfl) rfl rfl) rfl ?_
    refine CertK.nil ?_
    refine Holds.cond _ rfl (fun h29 => ?_) (fun h29 => ?_)
    · refine Holds.seq ?_
      refine Holds.reg ?_
      refine OpsFrom.v (Y.assign (up0 rfl rfl rfl) rfl rfl) rfl ?_
      refine OpsFrom.v (Y.assign (v := (.one (.n .i64 110))) (up0 rfl rfl rfl) rfl rfl) rfl ?_
      refine OpsFrom.nil ?_
      refine Holds.ret ?_
      exact Holds.ret2 (.inl rfl) rfl (.tmp _ _ rfl) (.tmp _ _ rfl) (View.cg (congrArg (fun z => (.two (.one (.bs false .u8 z.1)) (.one (.n .i64 z.2)) : AV)) (show (opened key nonce text beside) = _ from (by unfold opened; exact (if_neg h16).trans (if_pos h29)))) (.two _ _ _ _ (.nilB _ _) (.same _))) rfl
    · refine Holds.skip ?_
      refine Holds.seq ?_
      refine Holds.dr mx [([30], [31, 32, 33, 34]), ([31], [30, 32, 33, 34]), ([32], [30, 31, 33]), ([33], [30, 31, 32]), ([34], [30, 31]), ([35], []), ([36], [37]), ([37], [36]), ([8], []), ([9], [])] (by kernel_rfl) ?_
      refine CertK.vd (Y.ldAll ty23 rfl (up0 rfl rfl rfl) rfl rfl rfl (by first | (with_reducible assumption) | omega | (simp only [lens, mark_len, stream_len, *]; first | done | omega) | decide | (split <;> simp only [lens, mark_len, stream_len, *]) | (with_reducible exact Lt.mono (by assumption) (by decide)) | (simp only [Cs.len]; done) | rfl) (by decide)) rfl rfl ?_
      refine CertK.vd (Y.ldAll ty25 rfl (up0 rfl rfl rfl) rfl rfl rfl (by first | (with_reducible assumption) | omega | (simp only [lens, mark_len, stream_len, *]; first | done | omega) | decide | (split <;> simp only [lens, mark_len, stream_len, *]) | (with_reducible exact Lt.mono (by assumption) (by decide)) | (simp only [Cs.len]; done) | rfl) (by decide)) rfl rfl ?_
      refine CertK.vd (Y.move (up0 rfl rfl rfl) rfl rfl) rfl rfl ?_
      refine CertK.vd (Y.move (up0 rfl rfl rfl) rfl rfl) rfl rfl ?_
      refine CertK.vd (Y.slBs ty26 ty5 (up0 rfl rfl rfl) rfl rfl bnd0 (bnd1 rfl) (by first | (with_reducible assumption) | omega | (simp only [lens, mark_len, stream_len, *]; first | done | omega) | decide | (split <;> simp only [lens, mark_len, stream_len, *]) | (with_reducible exact Lt.mono (by assumption) (by decide)) | (simp only [Cs.len]; done) | rfl) (by first | (with_reducible assumption) | omega | (simp only [lens, mark_len, stream_len, *]; first | done | omega) | decide | (split <;> simp only [lens, mark_len, stream_len, *]) | (with_reducible exact Lt.mono (by assumption) (by decide)) | (simp only [Cs.len]; done) | rfl)) rfl rfl ?_
      refine CertK.u (Y.callF (d := 35) (w27 _ _ _ _ (by first | (with_reducible assumption) | omega | (simp only [lens, mark_len, stream_len, *]; first | done | omega) | decide | (split <;> simp only [lens, mark_len, stream_len, *]) | (with_reducible exact Lt.mono (by assumption) (by decide)) | (simp only [Cs.len]; done) | rfl) (by first | (with_reducible assumption) | omega | (simp only [lens, mark_len, stream_len, *]; first | done | omega) | decide | (split <;> simp only [lens, mark_len, stream_len, *]) | (with_reducible exact Lt.mono (by assumption) (by decide)) | (simp only [Cs.len]; done) | rfl) (by first | (with_reducible assumption) | omega | (simp only [lens, mark_len, stream_len, *]; first | done | omega) | decide | (split <;> simp only [lens, mark_len, stream_len, *]) | (with_reducible exact Lt.mono (by assumption) (by decide)) | (simp only [Cs.len]; done) | rfl) (by first | (with_reducible assumption) | omega | (simp only [lens, mark_len, stream_len, *]; first | done | omega) | decide | (split <;> simp only [lens, mark_len, stream_len, *]) | (with_reducible exact Lt.mono (by assumption) (by decide)) | (simp only [Cs.len]; done) | rfl)) fnok27 (up0 rfl rfl rfl) rfl rfl (.cons _ _ _ _ rfl (.cons _ _ (.one (.n .u32 1)) _ rfl (.cons _ _ _ _ rfl (.cons _ _ _ _ rfl .nil)))) (.cons _ _ _ _ (.same _) (.cons _ _ _ _ (.same _) (.cons _ _ _ _ (.same _) (.cons _ _ _ _ (.same _) .nil)))) rfl rfl rfl) rfl rfl rfl rfl rfl ?_
      refine CertK.vd (Y.ext0 (up0 rfl rfl rfl) rfl rfl) rfl rfl ?_
      refine CertK.vd (Y.ext1 (up0 rfl rfl rfl) rfl rfl) rfl rfl ?_
      refine CertK.v (Y.assign (up0 rfl rfl rfl) rfl rfl) rfl ?_
      refine CertK.v (Y.assign (up0 rfl rfl rfl) rfl rfl) rfl ?_
      refine CertK.nil ?_
      refine Holds.ret ?_
      exact Holds.ret2 (.inl rfl) rfl (.tmp _ _ rfl) (.tmp _ _ rfl) (View.cg (congrArg (fun z => (.two (.one (.bs false .u8 z.1)) (.one (.n .i64 z.2)) : AV)) (show (opened key nonce text beside) = _ from (by unfold opened; exact (if_neg h16).trans (if_neg (by first | (rw [h29]; decide) | simp [h29]))))) (.two _ _ _ _ (.all rfl (by first | (with_reducible assumption) | omega | (simp only [lens, mark_len, stream_len, *]; first | done | omega) | decide | (split <;> simp only [lens, mark_len, stream_len, *]) | (with_reducible exact Lt.mono (by assumption) (by decide)) | (simp only [Cs.len]; done) | rfl)) (.same _))) rfl

def ropened (key : List Nat) (nonce : List Nat) (text : List Nat) (beside : List Nat) : (List Nat) × Nat :=
  if text.length < 16 then
    ([], 110)
  else
    if (rmark key nonce ((text.drop 0).take ((text.length - 16) - 0)) beside) ≠ ((text.drop (text.length - 16)).take (text.length - (text.length - 16))) then
      ([], 110)
    else
      let v4_ : List Nat := (text.drop 0).take ((text.length - 16) - 0)
      ((stream rblock key 1 nonce v4_), 0)
theorem w_ropened (key : List Nat) (nonce : List Nat) (text : List Nat) (beside : List Nat) (l_key : key.length = 32) (l_nonce : nonce.length = 12) (h_text : text.length < 1073741824) (h_beside : beside.length < 1073741824) : VC Try.prog 42 [.row (.ints .u8 key), .row (.ints .u8 nonce), .one (.bs false .u8 text), .one (.bs false .u8 beside)] (.two (.one (.bs false .u8 ((ropened key nonce text beside).1))) (.one (.n .i64 ((ropened key nonce text beside).2)))) := by
  refine VC.go Try.func42 rfl Try.ntmps42 rfl rfl fun O w => ?_
  refine Holds.seq ?_
  refine Holds.reg ?_
  refine OpsFrom.u (Y.boxR (d := 4) (up0 rfl rfl rfl) rfl rfl rfl) rfl rfl rfl ?_
  refine OpsFrom.u (Y.boxR (d := 5) (up0 rfl rfl rfl) rfl rfl rfl) rfl rfl rfl ?_
  refine OpsFrom.v (Y.assign (up0 rfl rfl rfl) rfl rfl) rfl ?_
  refine OpsFrom.v (Y.assign (v := (.one (.n .i64 0))) (up0 rfl rfl rfl) rfl rfl) rfl ?_
  refine OpsFrom.nil ?_
  refine Holds.seq ?_
  refine Holds.seq ?_
  refine Holds.reg ?_
  refine OpsFrom.v (Y.move (up0 rfl rfl rfl) rfl rfl) rfl ?_
  refine OpsFrom.v (Y.len ty26 (up0 rfl rfl rfl) rfl rfl rfl rfl) rfl ?_
  refine OpsFrom.v (Y.lss (b := 16) (up0 rfl rfl rfl) rfl rfl rfl) rfl ?_
  refine OpsFrom.nil ?_
  refine Holds.condD rfl (fun h14 => ?_) (fun h14 => ?_)
  · refine Holds.seq ?_
    refine Holds.reg ?_
    refine OpsFrom.v (Y.assign (up0 rfl rfl rfl) rfl rfl) rfl ?_
    refine OpsFrom.v (Y.assign (v := (.one (.n .i64 110))) (up0 rfl rfl rfl) rfl rfl) rfl ?_
    refine OpsFrom.nil ?_
    refine Holds.ret ?_
    exact Holds.ret2 (.inl rfl) rfl (.tmp _ _ rfl) (.tmp _ _ rfl) (View.cg (congrArg (fun z => (.two (.one (.bs false .u8 z.1)) (.one (.n .i64 z.2)) : AV)) (show (ropened key nonce text beside) = _ from (by unfold ropened; exact (if_pos h14)))) (.two _ _ _ _ (.nilB _ _) (.same _))) rfl
  · refine Holds.skip ?_
    refine Holds.seq ?_
    refine Holds.reg ?_
    refine OpsFrom.v (Y.move (up0 rfl rfl rfl) rfl rfl) rfl ?_
    refine OpsFrom.v (Y.len ty26 (up0 rfl rfl rfl) rfl rfl rfl rfl) rfl ?_
    refine OpsFrom.v (Y.subI (b := 16) (up0 rfl rfl rfl) rfl rfl rfl (by first | (with_reducible assumption) | omega | (simp only [lens, *]; first | done | omega) | decide | (split <;> simp only [lens, *]) | (with_reducible exact Lt.mono (by assumption) (by decide)) | (simp only [Cs.len]; done) | rfl) (by first | (with_reducible assumption) | omega | (simp only [lens, *]; first | done | omega) | decide | (split <;> simp only [lens, *]) | (with_reducible exact Lt.mono (by assumption) (by decide)) | (simp only [Cs.len]; done) | rfl)) rfl ?_
    refine OpsFrom.v (Y.assign (up0 rfl rfl rfl) rfl rfl) rfl ?_
    refine OpsFrom.nil ?_
    refine Holds.seq ?_
    refine Holds.dr mx [([18], [19, 20, 21, 22, 23, 11]), ([19], [18, 20, 21, 22, 23, 11]), ([20], [18, 19, 21, 23, 11]), ([21], [18, 19, 20, 23, 11]), ([22], [18, 19, 23, 11]), ([23], [18, 19, 20, 21, 22, 11]), ([24], [11]), ([11], [18, 19, 20, 21, 22, 23, 24]), ([11], [])] (by kernel_rfl) ?_
    refine CertK.vd (Y.ldAll ty23 rfl (up0 rfl rfl rfl) rfl rfl rfl (by first | (with_reducible assumption) | omega | (simp only [lens, rmark_len, *]; first | done | omega) | decide | (split <;> simp only [lens, rmark_len, *]) | (with_reducible exact Lt.mono (by assumption) (by decide)) | (simp only [Cs.len]; done) | rfl) (by decide)) rfl rfl ?_
    refine CertK.vd (Y.ldAll ty25 rfl (up0 rfl rfl rfl) rfl rfl rfl (by first | (with_reducible assumption) | omega | (simp only [lens, rmark_len, *]; first | done | omega) | decide | (split <;> simp only [lens, rmark_len, *]) | (with_reducible exact Lt.mono (by assumption) (by decide)) | (simp only [Cs.len]; done) | rfl) (by decide)) rfl rfl ?_
    refine CertK.vd (Y.move (up0 rfl rfl rfl) rfl rfl) rfl rfl ?_
    refine CertK.vd (Y.move (up0 rfl rfl rfl) rfl rfl) rfl rfl ?_
    refine CertK.vd (Y.slBs ty26 ty5 (up0 rfl rfl rfl) rfl rfl bnd0 (bnd1 rfl) (by first | (with_reducible assumption) | omega | (simp only [lens, rmark_len, *]; first | done | omega) | decide | (split <;> simp only [lens, rmark_len, *]) | (with_reducible exact Lt.mono (by assumption) (by decide)) | (simp only [Cs.len]; done) | rfl) (by first | (with_reducible assumption) | omega | (simp only [lens, rmark_len, *]; first | done | omega) | decide | (split <;> simp only [lens, rmark_len, *]) | (with_reducible exact Lt.mono (by assumption) (by decide)) | (simp only [Cs.len]; done) | rfl)) rfl rfl ?_
    refine CertK.vd (Y.move (up0 rfl rfl rfl) rfl rfl) rfl rfl ?_
    refine CertK.vd (Y.callV (w_rmark _ _ _ _ (by first | (with_reducible assumption) | omega | (simp only [lens, rmark_len, *]; first | done | omega) | decide | (split <;> simp only [lens, rmark_len, *]) | (with_reducible exact Lt.mono (by assumption) (by decide)) | (simp only [Cs.len]; done) | rfl) (by first | (with_reducible assumption) | omega | (simp only [lens, rmark_len, *]; first | done | omega) | decide | (split <;> simp only [lens, rmark_len, *]) | (with_reducible exact Lt.mono (by assumption) (by decide)) | (simp only [Cs.len]; done) | rfl) (by first | (with_reducible assumption) | omega | (simp only [lens, rmark_len, *]; first | done | omega) | decide | (split <;> simp only [lens, rmark_len, *]) | (with_reducible exact Lt.mono (by assumption) (by decide)) | (simp only [Cs.len]; done) | rfl) (by first | (with_reducible assumption) | omega | (simp only [lens, rmark_len, *]; first | done | omega) | decide | (split <;> simp only [lens, rmark_len, *]) | (with_reducible exact Lt.mono (by assumption) (by decide)) | (simp only [Cs.len]; done) | rfl)) fnok62 (up0 rfl rfl rfl) rfl rfl (.cons _ _ _ _ rfl (.cons _ _ _ _ rfl (.cons _ _ _ _ rfl (.cons _ _ _ _ rfl .nil)))) (.cons _ _ _ _ (.same _) (.cons _ _ _ _ (.same _) (.cons _ _ _ _ (.same _) (.cons _ _ _ _ (.same _) .nil)))) rfl rfl) rfl rfl ?_
    refine CertK.u (Y.alloc (d := 11) ty35 rfl rfl (up0 rfl rfl rfl) rfl) rfl rfl rfl rfl rfl ?_
    refine CertK.n (Y.stR ty35 (upN rfl rfl) rfl rfl rfl rfl rfl (by first | (with_reducible assumption) | omega | (simp only [lens, rmark_len, *]; first | done | omega) | decide | (split <;> simp only [lens, rmark_len, *]) | (with_reducible exact Lt.mono (by assumption) (by decide)) | (simp only [Cs.len]; done) | rfl) (by first | (with_reducible assumption) | omega | (simp only [lens, rmark_len, *]; first | done | omega) | decide | (split <;> simp only [lens, rmark_len, *]) | (with_reducible exact Lt.mono (by assumption) (by decide)) | (simp only [Cs.len]; done) | rfl) (by decide)) rfl rfl rfl rfl ?_
    refine CertK.nil ?_
    refine Holds.seq ?_
    refine Holds.seq ?_
    refine Holds.dr mx [([25], [27, 28, 29, 30]), ([26], [27, 28, 29, 30]), ([27], [25, 26, 28]), ([28], [25, 26, 27]), ([29], [25, 26]), ([30], [25, 26]), ([31], [])] (by kernel_rfl) ?_
    refine CertK.vd (Y.slArr0 ty35 ty5 (up0 rfl rfl rfl) rfl rfl rfl (by first | (with_reducible assumption) | omega | (simp only [lens, rmark_len, *]; first | done | omega) | decide | (split <;> simp only [lens, rmark_len, *]) | (with_reducible exact Lt.mono (by assumption) (by decide)) | (simp only [Cs.len]; done) | rfl) bnd0 bnd0 (by first | (with_reducible assumption) | omega | (simp only [lens, rmark_len, *]; first | done | omega) | decide | (split <;> simp only [lens, rmark_len, *]) | (with_reducible exact Lt.mono (by assumption) (by decide)) | (simp only [Cs.len]; done) | rfl) (by first | (with_reducible assumption) | omega | (simp only [lens, rmark_len, *]; first | done | omega) | decide | (split <;> simp only [lens, rmark_len, *]) | (with_reducible exact Lt.mono (by assumption) (by decide)) | (simp only [Cs.len]; done) | rfl)) rfl rfl ?_
    refine CertK.vd (Y.str ty26 ty5 ty9 (up0 rfl rfl rfl) rfl rfl (.all rfl (by first | (with_reducible assumption) | omega | (simp only [lens, rmark_len, *]; first | done | omega) | decide | (split <;> simp only [lens, rmark_len, *]) | (with_reducible exact Lt.mono (by assumption) (by decide)) | (simp only [Cs.len]; done) | rfl))) rfl rfl ?_
    refine CertK.vd (Y.move (up0 rfl rfl rfl) rfl rfl) rfl rfl ?_
    refine CertK.vd (Y.move (up0 rfl rfl rfl) rfl rfl) rfl rfl ?_
    refine CertK.vd (Y.slBs ty26 ty5 (up0 rfl rfl rfl) rfl rfl (bnd1 rfl) bnd0 (by first | (with_reducible assumption) | omega | (simp only [lens, rmark_len, *]; first | done | omega) | decide | (split <;> simp only [lens, rmark_len, *]) | (with_reducible exact Lt.mono (by assumption) (by decide)) | (simp only [Cs.len]; done) | rfl) (by first | (with_reducible assumption) | omega | (simp only [lens, rmark_len, *]; first | done | omega) | decide | (split <;> simp only [lens, rmark_len, *]) | (with_reducible exact Lt.mono (by assumption) (by decide)) | (simp only [Cs.len]; done) | rfl)) rfl rfl ?_
    refine CertK.vd (Y.str ty26 ty5 ty9 (up0 rfl rfl rfl) rfl rfl (.same _)) rfl rfl ?_
    refine CertK.v (Y.neqS (up0 rfl rfl rfl) rfl rfl rfl) rfl ?_
    refine CertK.nil ?_
    refine Holds.condD rfl (fun h31 => ?_) (fun h31 => ?_)
    · refine Holds.seq ?_
      refine Holds.reg ?_
      refine OpsFrom.v (Y.assign (up0 rfl rfl rfl) rfl rfl) rfl ?_
      refine OpsFrom.v (Y.assign (v := (.one (.n .i64 110))) (up0 rfl rfl rfl) rfl rfl) rfl ?_
      refine OpsFrom.nil ?_
      refine Holds.ret ?_
      exact Holds.ret2 (.inl rfl) rfl (.tmp _ _ rfl) (.tmp _ _ rfl) (View.cg (congrArg (fun z => (.two (.one (.bs false .u8 z.1)) (.one (.n .i64 z.2)) : AV)) (show (ropened key nonce text beside) = _ from (by unfold ropened; exact (if_neg h14).trans (if_pos h31)))) (.two _ _ _ _ (.nilB _ _) (.same _))) rfl
    · refine Holds.skip ?_
      refine Holds.seq ?_
      refine Holds.dr mx [([32], [33, 34, 35, 36]), ([33], [32, 34, 35, 36]), ([34], [32, 33, 35]), ([35], [32, 33, 34]), ([36], [32, 33]), ([37], []), ([38], [39]), ([39], [38]), ([8], []), ([9], [])] (by kernel_rfl) ?_
      refine CertK.vd (Y.ldAll ty23 rfl (up0 rfl rfl rfl) rfl rfl rfl (by first | (with_reducible assumption) | omega | (simp only [lens, rmark_len, stream_len, *]; first | done | omega) | decide | (split <;> simp only [lens, rmark_len, stream_len, *]) | (with_reducible exact Lt.mono (by assumption) (by decide)) | (simp only [Cs.len]; done) | rfl) (by decide)) rfl rfl ?_
      refine CertK.vd (Y.ldAll ty25 rfl (up0 rfl rfl rfl) rfl rfl rfl (by first | (with_reducible assumption) | omega | (simp only [lens, rmark_len, stream_len, *]; first | done | omega) | decide | (split <;> simp only [lens, rmark_len, stream_len, *]) | (with_reducible exact Lt.mono (by assumption) (by decide)) | (simp only [Cs.len]; done) | rfl) (by decide)) rfl rfl ?_
      refine CertK.vd (Y.move (up0 rfl rfl rfl) rfl rfl) rfl rfl ?_
      refine CertK.vd (Y.move (up0 rfl rfl rfl) rfl rfl) rfl rfl ?_
      refine CertK.vd (Y.slBs ty26 ty5 (up0 rfl rfl rfl) rfl rfl bnd0 (bnd1 rfl) (by first | (with_reducible assumption) | omega | (simp only [lens, rmark_len, stream_len, *]; first | done | omega) | decide | (split <;> simp only [lens, rmark_len, stream_len, *]) | (with_reducible exact Lt.mono (by assumption) (by decide)) | (simp only [Cs.len]; done) | rfl) (by first | (with_reducible assumption) | omega | (simp only [lens, rmark_len, stream_len, *]; first | done | omega) | decide | (split <;> simp only [lens, rmark_len, stream_len, *]) | (with_reducible exact Lt.mono (by assumption) (by decide)) | (simp only [Cs.len]; done) | rfl)) rfl rfl ?_
      refine CertK.u (Y.callF (d := 37) (w28 _ _ _ _ (by first | (with_reducible assumption) | omega | (simp only [lens, rmark_len, stream_len, *]; first | done | omega) | decide | (split <;> simp only [lens, rmark_len, stream_len, *]) | (with_reducible exact Lt.mono (by assumption) (by decide)) | (simp only [Cs.len]; done) | rfl) (by first | (with_reducible assumption) | omega | (simp only [lens, rmark_len, stream_len, *]; first | done | omega) | decide | (split <;> simp only [lens, rmark_len, stream_len, *]) | (with_reducible exact Lt.mono (by assumption) (by decide)) | (simp only [Cs.len]; done) | rfl) (by first | (with_reducible assumption) | omega | (simp only [lens, rmark_len, stream_len, *]; first | done | omega) | decide | (split <;> simp only [lens, rmark_len, stream_len, *]) | (with_reducible exact Lt.mono (by assumption) (by decide)) | (simp only [Cs.len]; done) | rfl) (by first | (with_reducible assumption) | omega | (simp only [lens, rmark_len, stream_len, *]; first | done | omega) | decide | (split <;> simp only [lens, rmark_len, stream_len, *]) | (with_reducible exact Lt.mono (by assumption) (by decide)) | (simp only [Cs.len]; done) | rfl)) fnok28 (up0 rfl rfl rfl) rfl rfl (.cons _ _ _ _ rfl (.cons _ _ (.one (.n .u32 1)) _ rfl (.cons _ _ _ _ rfl (.cons _ _ _ _ rfl .nil)))) (.cons _ _ _ _ (.same _) (.cons _ _ _ _ (.same _) (.cons _ _ _ _ (.same _) (.cons _ _ _ _ (.same _) .nil)))) rfl rfl rfl) rfl rfl rfl rfl rfl ?_
      refine CertK.vd (Y.ext0 (up0 rfl rfl rfl) rfl rfl) rfl rfl ?_
      refine CertK.vd (Y.ext1 (up0 rfl rfl rfl) rfl rfl) rfl rfl ?_
      refine CertK.v (Y.assign (up0 rfl rfl rfl) rfl rfl) rfl ?_
      refine CertK.v (Y.assign (up0 rfl rfl rfl) rfl rfl) rfl ?_
      refine CertK.nil ?_
      refine Holds.ret ?_
      exact Holds.ret2 (.inl rfl) rfl (.tmp _ _ rfl) (.tmp _ _ rfl) (View.cg (congrArg (fun z => (.two (.one (.bs false .u8 z.1)) (.one (.n .i64 z.2)) : AV)) (show (ropened key nonce text beside) = _ from (by unfold ropened; exact (if_neg h14).trans (if_neg h31)))) (.two _ _ _ _ (.all rfl (by first | (with_reducible assumption) | omega | (simp only [lens, rmark_len, stream_len, *]; first | done | omega) | decide | (split <;> simp only [lens, rmark_len, stream_len, *]) | (with_reducible exact Lt.mono (by assumption) (by decide)) | (simp only [Cs.len]; done) | rfl)) (.same _))) rfl


end Go.Proofs.Ytkpelchcpiafaaa
