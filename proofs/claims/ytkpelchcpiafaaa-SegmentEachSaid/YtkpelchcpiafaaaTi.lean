/-
  Walks: SegmentEach.
-/
import Derived.Test.YtkpelchcpiafaaaPl
namespace Go.Proofs.Ytkpelchcpiafaaa
open Go Go.Fx
set_option linter.unusedVariables false
set_option linter.unusedSimpArgs false
theorem w_seach (key : List Nat) (beside : List Nat) (b : List Nat) (i : Nat) (l_key : key.length = 32) : VC Try.prog 25 [.row (.ints .u8 key), .one (.bs false .u8 beside), .one (.bs false .u8 b), .one (.n .u8 i)] (.one (.b true)) := by
  refine VC.go Try.func25 rfl Try.ntmps25 rfl rfl fun O w => ?_
  refine Holds.ltRow 0 rfl u8s u8m (fun b_key => ?_)
  refine Holds.ltBs 1 rfl u8s u8m (fun b_beside => ?_)
  refine Holds.ltBs 2 rfl u8s u8m (fun b_b => ?_)
  refine Holds.seq ?_
  refine Holds.reg ?_
  refine OpsFrom.u (Y.boxR (d := 4) (up0 rfl rfl rfl) rfl rfl rfl) rfl rfl rfl ?_
  refine OpsFrom.v (Y.assign (up0 rfl rfl rfl) rfl rfl) rfl ?_
  refine OpsFrom.nil ?_
  refine Holds.seq ?_
  refine Holds.reg ?_
  refine OpsFrom.v (Y.callV w_sawake fnok34 (up0 rfl rfl rfl) rfl rfl .nil .nil rfl rfl) rfl ?_
  refine OpsFrom.v (Y.assign (up0 rfl rfl rfl) rfl rfl) rfl ?_
  refine OpsFrom.nil ?_
  refine Holds.seq ?_
  refine Holds.seq ?_
  by_cases a2_3 : (500 < beside.length)
  · refine Holds.reg ?_
    refine OpsFrom.v (Y.move (up0 rfl rfl rfl) rfl rfl) rfl ?_
    refine OpsFrom.v (Y.len ty26 (up0 rfl rfl rfl) rfl rfl rfl rfl) rfl ?_
    refine OpsFrom.v (Y.gtr (b := 500) (up0 rfl rfl rfl) rfl rfl rfl) rfl ?_
    refine OpsFrom.v (Doing.isB (c := true) (decide_eq_true a2_3) (Y.move (up0 rfl rfl rfl) rfl rfl)) rfl ?_
    refine OpsFrom.v (Doing.skip _ _ _ _ rfl rfl rfl rfl (dlt rfl (Nat.le_of_ble_eq_true rfl))) rfl ?_
    refine OpsFrom.v (Doing.skip _ _ _ _ rfl rfl rfl rfl (dlt rfl (Nat.le_of_ble_eq_true rfl))) rfl ?_
    refine OpsFrom.v (Doing.skip _ _ _ _ rfl rfl rfl rfl (dlt rfl (Nat.le_of_ble_eq_true rfl))) rfl ?_
    refine OpsFrom.v (Y.pickT (up0 rfl rfl rfl) rfl rfl rfl) rfl ?_
    refine OpsFrom.nil ?_
    refine Holds.condT rfl ?_
    refine Holds.seq ?_
    refine Holds.reg ?_
    refine OpsFrom.v (Y.move (up0 rfl rfl rfl) rfl rfl) rfl ?_
    refine OpsFrom.v (Y.assign (up0 rfl rfl rfl) rfl rfl) rfl ?_
    refine OpsFrom.nil ?_
    refine Holds.ret ?_
    exact Holds.ret1 (.inl rfl) rfl (.tmp _ _ rfl) (.same _) rfl
  · refine Holds.reg ?_
    refine OpsFrom.v (Y.move (up0 rfl rfl rfl) rfl rfl) rfl ?_
    refine OpsFrom.v (Y.len ty26 (up0 rfl rfl rfl) rfl rfl rfl rfl) rfl ?_
    refine OpsFrom.v (Y.gtr (b := 500) (up0 rfl rfl rfl) rfl rfl rfl) rfl ?_
    refine OpsFrom.v (Doing.isB (c := false) (decide_eq_false a2_3) (Y.move (up0 rfl rfl rfl) rfl rfl)) rfl ?_
    refine OpsFrom.v (Y.move (up1 rfl rfl rfl rfl rfl rfl) rfl rfl) rfl ?_
    refine OpsFrom.v (Y.len ty26 (up1 rfl rfl rfl rfl rfl rfl) rfl rfl rfl rfl) rfl ?_
    refine OpsFrom.v (Y.gtr (b := 3000) (up1 rfl rfl rfl rfl rfl rfl) rfl rfl rfl) rfl ?_
    refine OpsFrom.v (Y.pickF (up0 rfl rfl rfl) rfl rfl rfl) rfl ?_
    refine OpsFrom.nil ?_
    refine Holds.condD rfl (fun h28 => ?_) (fun h28 => ?_)
    · refine Holds.seq ?_
      refine Holds.reg ?_
      refine OpsFrom.v (Y.move (up0 rfl rfl rfl) rfl rfl) rfl ?_
      refine OpsFrom.v (Y.assign (up0 rfl rfl rfl) rfl rfl) rfl ?_
      refine OpsFrom.nil ?_
      refine Holds.ret ?_
      exact Holds.ret1 (.inl rfl) rfl (.tmp _ _ rfl) (.same _) rfl
    · refine Holds.skip ?_
      refine Holds.seq ?_
      refine Holds.reg ?_
      refine OpsFrom.v (Y.ldAll ty23 rfl (up0 rfl rfl rfl) rfl rfl rfl (by first | (with_reducible assumption) | omega | (simp only [lens, *]; first | done | omega) | decide | (split <;> simp only [lens, *]) | (with_reducible exact Lt.mono (by assumption) (by decide)) | (simp only [Cs.len]; done) | rfl) (by decide)) rfl ?_
      refine OpsFrom.v (Y.move (up0 rfl rfl rfl) rfl rfl) rfl ?_
      refine OpsFrom.v (Y.move (up0 rfl rfl rfl) rfl rfl) rfl ?_
      refine OpsFrom.u (Y.callF (d := 34) (w_sseal _ _ _ (by first | (with_reducible assumption) | omega | (simp only [lens, *]; first | done | omega) | decide | (split <;> simp only [lens, *]) | (with_reducible exact Lt.mono (by assumption) (by decide)) | (simp only [Cs.len]; done) | rfl) (by first | (with_reducible assumption) | omega | (simp only [lens, *]; first | done | omega) | decide | (split <;> simp only [lens, *]) | (with_reducible exact Lt.mono (by assumption) (by decide)) | (simp only [Cs.len]; done) | rfl) (by first | (with_reducible assumption) | omega | (simp only [lens, *]; first | done | omega) | decide | (split <;> simp only [lens, *]) | (with_reducible exact Lt.mono (by assumption) (by decide)) | (simp only [Cs.len]; done) | rfl)) fnok37 (up0 rfl rfl rfl) rfl rfl (.cons _ _ _ _ rfl (.cons _ _ _ _ rfl (.cons _ _ _ _ rfl .nil))) (.cons _ _ _ _ (.same _) (.cons _ _ _ _ (.same _) (.cons _ _ _ _ (.same _) .nil))) rfl rfl rfl) rfl rfl rfl ?_
      refine OpsFrom.v (Y.move (up0 rfl rfl rfl) rfl rfl) rfl ?_
      refine OpsFrom.v (Y.ext0 (up0 rfl rfl rfl) rfl rfl) rfl ?_
      refine OpsFrom.v (Y.ext1 (up0 rfl rfl rfl) rfl rfl) rfl ?_
      refine OpsFrom.v (Y.assign (up0 rfl rfl rfl) rfl rfl) rfl ?_
      refine OpsFrom.v (Y.assign (up0 rfl rfl rfl) rfl rfl) rfl ?_
      refine OpsFrom.nil ?_
      refine Holds.seq ?_
      refine Holds.freezeV 10 34 rfl rfl (.all rfl (by first | (with_reducible assumption) | omega | (simp only [lens, *]; first | done | omega) | decide | (split <;> simp only [lens, *]) | (with_reducible exact Lt.mono (by assumption) (by decide)) | (simp only [Cs.len]; done) | rfl)) ?_
      have hsl := sseal_len l_key beside (b := b) (by omega)
      have hsg := segs_sealed l_key beside (b := b) (by omega)
      have hml := Nat.mod_lt i (show 0 < (segs (sseal key beside b).1).length by omega)
      have hsl2 := segs_le (sseal key beside b).1 (i % (segs (sseal key beside b).1).length)
      refine Holds.reg ?_
      refine OpsFrom.v (Y.move (up0 rfl rfl rfl) rfl rfl) rfl ?_
      refine OpsFrom.v (Y.callW (w_segs _ (by first | (with_reducible assumption) | omega | (simp only [lens, *]; first | done | omega) | decide | (split <;> simp only [lens, *]) | (with_reducible exact Lt.mono (by assumption) (by decide)) | (simp only [Cs.len]; done) | rfl)) fnok48 (up0 rfl rfl rfl) rfl rfl (.cons _ _ _ _ rfl .nil) (.cons _ _ _ _ (.same _) .nil) rfl rfl) rfl ?_
      refine OpsFrom.v (Y.assign (up0 rfl rfl rfl) rfl rfl) rfl ?_
      refine OpsFrom.nil ?_
      refine Holds.seq ?_
      refine Holds.reg ?_
      refine OpsFrom.v (Y.move (up0 rfl rfl rfl) rfl rfl) rfl ?_
      refine OpsFrom.v (Y.convUpI ty5.u ty3.u rfl (by decide) (up0 rfl rfl rfl) rfl rfl) rfl ?_
      refine OpsFrom.v (Y.move (up0 rfl rfl rfl) rfl rfl) rfl ?_
      refine OpsFrom.v (Y.len ty39 (up0 rfl rfl rfl) rfl rfl rfl rfl) rfl ?_
      refine OpsFrom.v (Y.rem (up0 rfl rfl rfl) rfl rfl rfl (by first | (with_reducible assumption) | omega | (simp only [lens, *]; first | done | omega) | decide | (split <;> simp only [lens, *]) | (with_reducible exact Lt.mono (by assumption) (by decide)) | (simp only [Cs.len]; done) | rfl)) rfl ?_
      refine OpsFrom.v (Y.assign (up0 rfl rfl rfl) rfl rfl) rfl ?_
      refine OpsFrom.nil ?_
      refine Holds.seq ?_
      refine Holds.dr mx [([45], [46, 47, 48, 49, 50, 51, 52, 53, 54, 55, 56, 57, 58]), ([46], [45, 48, 49, 50, 51, 52, 54, 55, 56, 57, 58]), ([47], [45, 48, 49, 50, 51, 52, 54, 55, 56, 57, 58]), ([48], [45, 46, 47, 49, 50, 51, 54, 55, 56, 57, 58]), ([49], [45, 46, 47, 48, 54, 55, 56, 57, 58]), ([50], [45, 46, 47, 48, 54, 55, 56, 57, 58]), ([51], [45, 46, 47, 48, 54, 55, 56, 57, 58]), ([52], [45, 46, 47, 54, 55, 56, 57, 58]), ([53], [45, 54, 55, 56, 57, 58]), ([54], [45, 46, 47, 48, 49, 50, 51, 52, 53, 55, 58]), ([55], [45, 46, 47, 48, 49, 50, 51, 52, 53, 54, 58]), ([56], [45, 46, 47, 48, 49, 50, 51, 52, 53, 58]), ([57], [45, 46, 47, 48, 49, 50, 51, 52, 53, 58]), ([58], [45, 46, 47, 48, 49, 50, 51, 52, 53, 54, 55, 56, 57]), ([59], []), ([44], []), ([60], [61]), ([61], [60, 14]), ([14], [61]), ([15], [])] (by kernel_rfl) ?_
      refine CertK.vd (Y.ldAll ty23 rfl (up0 rfl rfl rfl) rfl rfl rfl (by first | (with_reducible assumption) | omega | (simp only [lens, nonce_len, *]; first | done | omega) | decide | (split <;> simp only [lens, nonce_len, *]) | (with_reducible exact Lt.mono (by assumption) (by decide)) | (simp only [Cs.len]; done) | rfl) (by decide)) rfl rfl ?_
      refine CertK.vd (Y.move (up0 rfl rfl rfl) rfl rfl) rfl rfl ?_
      refine CertK.vd (Y.conv ty3.u ty42.u u64s u64m (up0 rfl rfl rfl) rfl rfl) rfl rfl ?_
      refine CertK.vd (Y.move (up0 rfl rfl rfl) rfl rfl) rfl rfl ?_
      refine CertK.vd (Y.move (up0 rfl rfl rfl) rfl rfl) rfl rfl ?_
      refine CertK.vd (Y.len ty39 (up0 rfl rfl rfl) rfl rfl rfl rfl) rfl rfl ?_
      refine CertK.vd (Y.subI (b := 1) (up0 rfl rfl rfl) rfl rfl rfl (by first | (with_reducible assumption) | omega | (simp only [lens, nonce_len, *]; first | done | omega) | decide | (split <;> simp only [lens, nonce_len, *]) | (with_reducible exact Lt.mono (by assumption) (by decide)) | (simp only [Cs.len]; done) | rfl) (by first | (with_reducible assumption) | omega | (simp only [lens, nonce_len, *]; first | done | omega) | decide | (split <;> simp only [lens, nonce_len, *]) | (with_reducible exact Lt.mono (by assumption) (by decide)) | (simp only [Cs.len]; done) | rfl)) rfl rfl ?_
      refine CertK.vd (Y.eql (up0 rfl rfl rfl) rfl rfl rfl) rfl rfl ?_
      refine CertK.vd (Y.callV (w_nonce _ _ ) fnok35 (up0 rfl rfl rfl) rfl rfl (.cons _ _ _ _ rfl (.cons _ _ _ _ rfl .nil)) (.cons _ _ _ _ (.same _) (.cons _ _ _ _ (.same _) .nil)) rfl rfl) rfl rfl ?_
      refine CertK.vd (Y.move (up0 rfl rfl rfl) rfl rfl) rfl rfl ?_
      refine CertK.vd (Y.move (up0 rfl rfl rfl) rfl rfl) rfl rfl ?_
      refine CertK.vd (Y.iaBss ty39 ty26 (up0 rfl rfl rfl) rfl rfl rfl (by first | (with_reducible assumption) | omega | (simp only [lens, nonce_len, *]; first | done | omega) | decide | (split <;> simp only [lens, nonce_len, *]) | (with_reducible exact Lt.mono (by assumption) (by decide)) | (simp only [Cs.len]; done) | rfl)) rfl rfl ?_
      refine CertK.vd (Y.ldPcb ty26 rfl (up0 rfl rfl rfl) rfl rfl) rfl rfl ?_
      refine CertK.vd (Y.move (up0 rfl rfl rfl) rfl rfl) rfl rfl ?_
      refine CertK.v (Y.callW (w_ropened _ _ _ _ (by first | (with_reducible assumption) | omega | (simp only [lens, nonce_len, *]; first | done | omega) | decide | (split <;> simp only [lens, nonce_len, *]) | (with_reducible exact Lt.mono (by assumption) (by decide)) | (simp only [Cs.len]; done) | rfl) (by first | (with_reducible assumption) | omega | (simp only [lens, nonce_len, *]; first | done | omega) | decide | (split <;> simp only [lens, nonce_len, *]) | (with_reducible exact Lt.mono (by assumption) (by decide)) | (simp only [Cs.len]; done) | rfl) (by first | (with_reducible assumption) | omega | (simp only [lens, nonce_len, *]; first | done | omega) | decide | (split <;> simp only [lens, nonce_len, *]) | (with_reducible exact Lt.mono (by assumption) (by decide)) | (simp only [Cs.len]; done) | rfl) (by first | (with_reducible assumption) | omega | (simp only [lens, nonce_len, *]; first | done | omega) | decide | (split <;> simp only [lens, nonce_len, *]) | (with_reducible exact Lt.mono (by assumption) (by decide)) | (simp only [Cs.len]; done) | rfl)) fnok42 (up0 rfl rfl rfl) rfl rfl (.cons _ _ _ _ rfl (.cons _ _ _ _ rfl (.cons _ _ _ _ rfl (.cons _ _ _ _ rfl .nil)))) (.cons _ _ _ _ (.same _) (.cons _ _ _ _ (.same _) (.cons _ _ _ _ (.same _) (.cons _ _ _ _ (.same _) .nil)))) rfl rfl) rfl ?_
      refine CertK.v (Y.move (up0 rfl rfl rfl) rfl rfl) rfl ?_
      refine CertK.vd (Y.ext0 (up0 rfl rfl rfl) rfl rfl) rfl rfl ?_
      refine CertK.vd (Y.ext1 (up0 rfl rfl rfl) rfl rfl) rfl rfl ?_
      refine CertK.vd (Y.assign (up0 rfl rfl rfl) rfl rfl) rfl rfl ?_
      refine CertK.v (Y.assign (up0 rfl rfl rfl) rfl rfl) rfl ?_
      refine CertK.nil ?_
      refine Holds.seq ?_
      refine Holds.reg ?_
      refine OpsFrom.v (Y.move (up0 rfl rfl rfl) rfl rfl) rfl ?_
      refine OpsFrom.v (Y.mulI (a := 512) (up0 rfl rfl rfl) rfl rfl rfl (by first | (with_reducible assumption) | omega | (simp only [lens, nonce_len, *]; first | done | omega) | decide | (split <;> simp only [lens, nonce_len, *]) | (with_reducible exact Lt.mono (by assumption) (by decide)) | (simp only [Cs.len]; done) | rfl)) rfl ?_
      refine OpsFrom.v (Y.move (up0 rfl rfl rfl) rfl rfl) rfl ?_
      refine OpsFrom.v (Y.len ty26 (up0 rfl rfl rfl) rfl rfl rfl rfl) rfl ?_
      refine OpsFrom.v (Y.min (up0 rfl rfl rfl) rfl rfl rfl) rfl ?_
      refine OpsFrom.v (Y.assign (up0 rfl rfl rfl) rfl rfl) rfl ?_
      refine OpsFrom.nil ?_
      refine Holds.seq ?_
      refine Holds.reg ?_
      refine OpsFrom.v (Y.move (up0 rfl rfl rfl) rfl rfl) rfl ?_
      refine OpsFrom.v (Y.mulI (a := 512) (up0 rfl rfl rfl) rfl rfl rfl (by first | (with_reducible assumption) | omega | (simp only [lens, nonce_len, *]; first | done | omega) | decide | (split <;> simp only [lens, nonce_len, *]) | (with_reducible exact Lt.mono (by assumption) (by decide)) | (simp only [Cs.len]; done) | rfl)) rfl ?_
      refine OpsFrom.v (Y.addI (b := 512) (up0 rfl rfl rfl) rfl rfl rfl (by first | (with_reducible assumption) | omega | (simp only [lens, nonce_len, *]; first | done | omega) | decide | (split <;> simp only [lens, nonce_len, *]) | (with_reducible exact Lt.mono (by assumption) (by decide)) | (simp only [Cs.len]; done) | rfl)) rfl ?_
      refine OpsFrom.v (Y.move (up0 rfl rfl rfl) rfl rfl) rfl ?_
      refine OpsFrom.v (Y.len ty26 (up0 rfl rfl rfl) rfl rfl rfl rfl) rfl ?_
      refine OpsFrom.v (Y.min (up0 rfl rfl rfl) rfl rfl rfl) rfl ?_
      refine OpsFrom.v (Y.assign (up0 rfl rfl rfl) rfl rfl) rfl ?_
      refine OpsFrom.nil ?_
      refine Holds.seq ?_
      refine Holds.dr mx [([74], [75, 76, 77, 78, 79, 80, 81, 82, 83]), ([75], [74, 77, 78, 79, 80, 81, 83]), ([76], [74, 77, 78, 79, 80, 81, 83]), ([77], [74, 75, 76, 78, 79, 80, 83]), ([78], [74, 75, 76, 77, 83]), ([79], [74, 75, 76, 77, 83]), ([80], [74, 75, 76, 77, 83]), ([81], [74, 75, 76, 83]), ([82], [74, 83]), ([83], [74, 75, 76, 77, 78, 79, 80, 81, 82]), ([84], []), ([73], []), ([85], [86]), ([86], [85, 18]), ([18], [86]), ([19], [])] (by kernel_rfl) ?_
      refine CertK.vd (Y.ldAll ty23 rfl (up0 rfl rfl rfl) rfl rfl rfl (by first | (with_reducible assumption) | omega | (simp only [lens, nonce_len, *]; first | done | omega) | decide | (split <;> simp only [lens, nonce_len, *]) | (with_reducible exact Lt.mono (by assumption) (by decide)) | (simp only [Cs.len]; done) | rfl) (by decide)) rfl rfl ?_
      refine CertK.vd (Y.move (up0 rfl rfl rfl) rfl rfl) rfl rfl ?_
      refine CertK.vd (Y.conv ty3.u ty42.u u64s u64m (up0 rfl rfl rfl) rfl rfl) rfl rfl ?_
      refine CertK.vd (Y.move (up0 rfl rfl rfl) rfl rfl) rfl rfl ?_
      refine CertK.vd (Y.move (up0 rfl rfl rfl) rfl rfl) rfl rfl ?_
      refine CertK.vd (Y.len ty39 (up0 rfl rfl rfl) rfl rfl rfl rfl) rfl rfl ?_
      refine CertK.vd (Y.subI (b := 1) (up0 rfl rfl rfl) rfl rfl rfl (by first | (with_reducible assumption) | omega | (simp only [lens, nonce_len, *]; first | done | omega) | decide | (split <;> simp only [lens, nonce_len, *]) | (with_reducible exact Lt.mono (by assumption) (by decide)) | (simp only [Cs.len]; done) | rfl) (by first | (with_reducible assumption) | omega | (simp only [lens, nonce_len, *]; first | done | omega) | decide | (split <;> simp only [lens, nonce_len, *]) | (with_reducible exact Lt.mono (by assumption) (by decide)) | (simp only [Cs.len]; done) | rfl)) rfl rfl ?_
      refine CertK.vd (Y.neq (up0 rfl rfl rfl) rfl rfl rfl) rfl rfl ?_
      refine CertK.vd (Y.callV (w_nonce _ _ ) fnok35 (up0 rfl rfl rfl) rfl rfl (.cons _ _ _ _ rfl (.cons _ _ _ _ rfl .nil)) (.cons _ _ _ _ (.same _) (.cons _ _ _ _ (.same _) .nil)) rfl rfl) rfl rfl ?_
      refine CertK.vd (Y.move (up0 rfl rfl rfl) rfl rfl) rfl rfl ?_
      refine CertK.v (Y.callW (w_ropened _ _ _ _ (by first | (with_reducible assumption) | omega | (simp only [lens, nonce_len, *]; first | done | omega) | decide | (split <;> simp only [lens, nonce_len, *]) | (with_reducible exact Lt.mono (by assumption) (by decide)) | (simp only [Cs.len]; done) | rfl) (by first | (with_reducible assumption) | omega | (simp only [lens, nonce_len, *]; first | done | omega) | decide | (split <;> simp only [lens, nonce_len, *]) | (with_reducible exact Lt.mono (by assumption) (by decide)) | (simp only [Cs.len]; done) | rfl) (by first | (with_reducible assumption) | omega | (simp only [lens, nonce_len, *]; first | done | omega) | decide | (split <;> simp only [lens, nonce_len, *]) | (with_reducible exact Lt.mono (by assumption) (by decide)) | (simp only [Cs.len]; done) | rfl) (by first | (with_reducible assumption) | omega | (simp only [lens, nonce_len, *]; first | done | omega) | decide | (split <;> simp only [lens, nonce_len, *]) | (with_reducible exact Lt.mono (by assumption) (by decide)) | (simp only [Cs.len]; done) | rfl)) fnok42 (up0 rfl rfl rfl) rfl rfl (.cons _ _ _ _ rfl (.cons _ _ _ _ rfl (.cons _ _ _ _ rfl (.cons _ _ _ _ rfl .nil)))) (.cons _ _ _ _ (.same _) (.cons _ _ _ _ (.same _) (.cons _ _ _ _ (.nilB _ _) (.cons _ _ _ _ (.same _) .nil)))) rfl rfl) rfl ?_
      refine CertK.v (Y.move (up0 rfl rfl rfl) rfl rfl) rfl ?_
      refine CertK.vd (Y.ext0 (up0 rfl rfl rfl) rfl rfl) rfl rfl ?_
      refine CertK.vd (Y.ext1 (up0 rfl rfl rfl) rfl rfl) rfl rfl ?_
      refine CertK.vd (Y.assign (up0 rfl rfl rfl) rfl rfl) rfl rfl ?_
      refine CertK.v (Y.assign (up0 rfl rfl rfl) rfl rfl) rfl ?_
      refine CertK.nil ?_
      refine Holds.seq ?_
      refine Holds.dr mx [([87], []), ([88], []), ([89], []), ([90], []), ([91], []), ([92], []), ([93], [95, 96, 97, 98, 99]), ([94], [95, 96, 97, 98, 99]), ([95], [93, 94, 96, 97]), ([96], [93, 94, 95, 97]), ([97], [93, 94, 95, 96]), ([98], [93, 94]), ([99], [93, 94]), ([100], []), ([101], []), ([102], []), ([103], []), ([104], []), ([105], []), ([8], [])] (by kernel_rfl) ?_
      refine CertK.v (Y.move (up0 rfl rfl rfl) rfl rfl) rfl ?_
      refine CertK.v (Y.move (up0 rfl rfl rfl) rfl rfl) rfl ?_
      refine CertK.v (Y.move (up1 rfl rfl rfl rfl rfl rfl) rfl rfl) rfl ?_
      refine CertK.v (Doing.isB (c := true) (decide_eq_true (congrArg Prod.snd (seg_each l_key b_key b_beside b_b (by first | (with_reducible assumption) | omega | (simp only [lens, nonce_len, *]; first | done | omega) | decide | (split <;> simp only [lens, nonce_len, *]) | (with_reducible exact Lt.mono (by assumption) (by decide)) | (simp only [Cs.len]; done) | rfl) hml))) (Y.eql (b := 0) (up1 rfl rfl rfl rfl rfl rfl) rfl rfl rfl)) rfl ?_
      refine CertK.v (Y.pickT (up0 rfl rfl rfl) rfl rfl rfl) rfl ?_
      refine CertK.v (Y.move (up0 rfl rfl rfl) rfl rfl) rfl ?_
      refine CertK.vd (Y.move (up1 rfl rfl rfl rfl rfl rfl) rfl rfl) rfl rfl ?_
      refine CertK.vd (Y.str ty26 ty5 ty9 (up1 rfl rfl rfl rfl rfl rfl) rfl rfl (.same _)) rfl rfl ?_
      refine CertK.vd (Y.move (up1 rfl rfl rfl rfl rfl rfl) rfl rfl) rfl rfl ?_
      refine CertK.vd (Y.move (up1 rfl rfl rfl rfl rfl rfl) rfl rfl) rfl rfl ?_
      refine CertK.vd (Y.move (up1 rfl rfl rfl rfl rfl rfl) rfl rfl) rfl rfl ?_
      refine CertK.vd (Y.slBs ty26 ty5 (up1 rfl rfl rfl rfl rfl rfl) rfl rfl (bnd1 rfl) (bnd1 rfl) (by first | (with_reducible assumption) | omega | (simp only [lens, nonce_len, *]; first | done | omega) | decide | (split <;> simp only [lens, nonce_len, *]) | (with_reducible exact Lt.mono (by assumption) (by decide)) | (simp only [Cs.len]; done) | rfl) (by first | (with_reducible assumption) | omega | (simp only [lens, nonce_len, *]; first | done | omega) | decide | (split <;> simp only [lens, nonce_len, *]) | (with_reducible exact Lt.mono (by assumption) (by decide)) | (simp only [Cs.len]; done) | rfl)) rfl rfl ?_
      refine CertK.vd (Y.str ty26 ty5 ty9 (up1 rfl rfl rfl rfl rfl rfl) rfl rfl (.same _)) rfl rfl ?_
      refine CertK.v (Doing.isB (c := true) (decide_eq_true ((congrArg Prod.fst (seg_each l_key b_key b_beside b_b (by first | (with_reducible assumption) | omega | (simp only [lens, nonce_len, *]; first | done | omega) | decide | (split <;> simp only [lens, nonce_len, *]) | (with_reducible exact Lt.mono (by assumption) (by decide)) | (simp only [Cs.len]; done) | rfl) hml)).trans (seg_part (by first | (with_reducible assumption) | omega | (simp only [lens, nonce_len, *]; first | done | omega) | decide | (split <;> simp only [lens, nonce_len, *]) | (with_reducible exact Lt.mono (by assumption) (by decide)) | (simp only [Cs.len]; done) | rfl)))) (Y.eqS (up1 rfl rfl rfl rfl rfl rfl) rfl rfl rfl)) rfl ?_
      refine CertK.v (Y.pickT (up0 rfl rfl rfl) rfl rfl rfl) rfl ?_
      refine CertK.v (Y.move (up0 rfl rfl rfl) rfl rfl) rfl ?_
      refine CertK.v (Y.move (up1 rfl rfl rfl rfl rfl rfl) rfl rfl) rfl ?_
      refine CertK.v (Doing.isB (c := true) (decide_eq_true (congrArg Prod.snd (show ropened _ _ [] _ = ([], 110) from rfl))) (Y.eql (b := 110) (up1 rfl rfl rfl rfl rfl rfl) rfl rfl rfl)) rfl ?_
      refine CertK.v (Y.pickT (up0 rfl rfl rfl) rfl rfl rfl) rfl ?_
      refine CertK.v (Y.assign (up0 rfl rfl rfl) rfl rfl) rfl ?_
      refine CertK.nil ?_
      refine Holds.ret ?_
      exact Holds.ret1 (.inl rfl) rfl (.tmp _ _ rfl) (.same _) rfl


end Go.Proofs.Ytkpelchcpiafaaa
