/-
  Walks: KdfBegins.
-/
import Derived.Test.YtjgcmfedofmkpaaKg
namespace Go.Proofs.Ytjgcmfedofmkpaa
open Go Go.Fx
set_option linter.unusedVariables false
set_option linter.unusedSimpArgs false
theorem w_kbegins (key : List Nat) (use_ : List Nat) (n : Nat) (more : Nat)  : VC Try.prog 15 [.one (.bs false .u8 key), .one (.bs false .u8 use_), .one (.n .u16 n), .one (.n .u16 more)] (.one (.b true)) := by
  refine VC.go Try.func15 rfl Try.ntmps15 rfl rfl fun O w => ?_
  refine Holds.seq ?_
  refine Holds.reg ?_
  refine OpsFrom.v (Y.assign (up0 rfl rfl rfl) rfl rfl) rfl ?_
  refine OpsFrom.nil ?_
  refine Holds.seq ?_
  refine Holds.reg ?_
  refine OpsFrom.v (Y.callV w_kawake fnok34 (up0 rfl rfl rfl) rfl rfl .nil .nil rfl rfl) rfl ?_
  refine OpsFrom.v (Y.assign (up0 rfl rfl rfl) rfl rfl) rfl ?_
  refine OpsFrom.nil ?_
  refine Holds.seq ?_
  refine Holds.seq ?_
  by_cases a2_3 : (500 < key.length)
  · refine Holds.reg ?_
    refine OpsFrom.v (Y.move (up0 rfl rfl rfl) rfl rfl) rfl ?_
    refine OpsFrom.v (Y.len ty22 (up0 rfl rfl rfl) rfl rfl rfl rfl) rfl ?_
    refine OpsFrom.v (Y.gtr (b := 500) (up0 rfl rfl rfl) rfl rfl rfl) rfl ?_
    refine OpsFrom.v (Doing.isB (c := true) (decide_eq_true a2_3) (Y.move (up0 rfl rfl rfl) rfl rfl)) rfl ?_
    refine OpsFrom.v (Doing.skip _ _ _ _ rfl rfl rfl rfl (dlt rfl (Nat.le_of_ble_eq_true rfl))) rfl ?_
    refine OpsFrom.v (Doing.skip _ _ _ _ rfl rfl rfl rfl (dlt rfl (Nat.le_of_ble_eq_true rfl))) rfl ?_
    refine OpsFrom.v (Doing.skip _ _ _ _ rfl rfl rfl rfl (dlt rfl (Nat.le_of_ble_eq_true rfl))) rfl ?_
    refine OpsFrom.v (Y.pickT (up0 rfl rfl rfl) rfl rfl rfl) rfl ?_
    refine OpsFrom.nil ?_
    refine Holds.condT rfl ?_
    refine Holds.seq ?_
    refine Holds.reg ?_
    refine OpsFrom.v (Y.move (up0 rfl rfl rfl) rfl rfl) rfl ?_
    refine OpsFrom.v (Y.assign (up0 rfl rfl rfl) rfl rfl) rfl ?_
    refine OpsFrom.nil ?_
    refine Holds.ret ?_
    exact Holds.ret1 (.inl rfl) rfl (.tmp _ _ rfl) (.same _) rfl
  · refine Holds.reg ?_
    refine OpsFrom.v (Y.move (up0 rfl rfl rfl) rfl rfl) rfl ?_
    refine OpsFrom.v (Y.len ty22 (up0 rfl rfl rfl) rfl rfl rfl rfl) rfl ?_
    refine OpsFrom.v (Y.gtr (b := 500) (up0 rfl rfl rfl) rfl rfl rfl) rfl ?_
    refine OpsFrom.v (Doing.isB (c := false) (decide_eq_false a2_3) (Y.move (up0 rfl rfl rfl) rfl rfl)) rfl ?_
    refine OpsFrom.v (Y.move (up1 rfl rfl rfl rfl rfl rfl) rfl rfl) rfl ?_
    refine OpsFrom.v (Y.len ty22 (up1 rfl rfl rfl rfl rfl rfl) rfl rfl rfl rfl) rfl ?_
    refine OpsFrom.v (Y.gtr (b := 500) (up1 rfl rfl rfl rfl rfl rfl) rfl rfl rfl) rfl ?_
    refine OpsFrom.v (Y.pickF (up0 rfl rfl rfl) rfl rfl rfl) rfl ?_
    refine OpsFrom.nil ?_
    refine Holds.condD rfl (fun h24 => ?_) (fun h24 => ?_)
    · refine Holds.seq ?_
      refine Holds.reg ?_
      refine OpsFrom.v (Y.move (up0 rfl rfl rfl) rfl rfl) rfl ?_
      refine OpsFrom.v (Y.assign (up0 rfl rfl rfl) rfl rfl) rfl ?_
      refine OpsFrom.nil ?_
      refine Holds.ret ?_
      exact Holds.ret1 (.inl rfl) rfl (.tmp _ _ rfl) (.same _) rfl
    · refine Holds.skip ?_
      refine Holds.seq ?_
      refine Holds.reg ?_
      refine OpsFrom.v (Y.move (up0 rfl rfl rfl) rfl rfl) rfl ?_
      refine OpsFrom.v (Y.convUpI ty44.u ty3.u rfl (by decide) (up0 rfl rfl rfl) rfl rfl) rfl ?_
      refine OpsFrom.v (Y.rem (b := 1000) (up0 rfl rfl rfl) rfl rfl rfl (by decide)) rfl ?_
      refine OpsFrom.v (Y.assign (up0 rfl rfl rfl) rfl rfl) rfl ?_
      refine OpsFrom.nil ?_
      refine Holds.seq ?_
      refine Holds.reg ?_
      refine OpsFrom.v (Y.move (up0 rfl rfl rfl) rfl rfl) rfl ?_
      refine OpsFrom.v (Y.move (up0 rfl rfl rfl) rfl rfl) rfl ?_
      refine OpsFrom.v (Y.convUpI ty44.u ty3.u rfl (by decide) (up0 rfl rfl rfl) rfl rfl) rfl ?_
      refine OpsFrom.v (Y.rem (b := 1000) (up0 rfl rfl rfl) rfl rfl rfl (by decide)) rfl ?_
      refine OpsFrom.v (Y.addI (up0 rfl rfl rfl) rfl rfl rfl (by first | (with_reducible assumption) | omega | (simp only [lens, List.flatten_cons, List.flatten_nil, List.append_nil, List.length_cons, List.length_nil, Cs.len, List.length_map, List.length_set, List.length_replicate, *]; first | done | omega) | decide | (split <;> simp only [lens, List.flatten_cons, List.flatten_nil, List.append_nil, List.length_cons, List.length_nil, Cs.len, List.length_map, List.length_set, List.length_replicate, *]) | (with_reducible exact Lt.mono (by assumption) (by decide)) | (simp only [Cs.len]; done) | rfl)) rfl ?_
      refine OpsFrom.v (Y.assign (up0 rfl rfl rfl) rfl rfl) rfl ?_
      refine OpsFrom.nil ?_
      refine Holds.seq ?_
      refine Holds.reg ?_
      refine OpsFrom.v (Y.move (up0 rfl rfl rfl) rfl rfl) rfl ?_
      refine OpsFrom.v (Y.move (up0 rfl rfl rfl) rfl rfl) rfl ?_
      refine OpsFrom.v (Y.move (up0 rfl rfl rfl) rfl rfl) rfl ?_
      refine OpsFrom.u (Y.callF (d := 38) (w_kexpn _ _ _ (by first | (with_reducible assumption) | omega | (simp only [lens, kexp_len, List.flatten_cons, List.flatten_nil, List.append_nil, List.length_cons, List.length_nil, Cs.len, List.length_map, List.length_set, List.length_replicate, *]; first | done | omega) | decide | (split <;> simp only [lens, kexp_len, List.flatten_cons, List.flatten_nil, List.append_nil, List.length_cons, List.length_nil, Cs.len, List.length_map, List.length_set, List.length_replicate, *]) | (with_reducible exact Lt.mono (by assumption) (by decide)) | (simp only [Cs.len]; done) | rfl) (by first | (with_reducible assumption) | omega | (simp only [lens, kexp_len, List.flatten_cons, List.flatten_nil, List.append_nil, List.length_cons, List.length_nil, Cs.len, List.length_map, List.length_set, List.length_replicate, *]; first | done | omega) | decide | (split <;> simp only [lens, kexp_len, List.flatten_cons, List.flatten_nil, List.append_nil, List.length_cons, List.length_nil, Cs.len, List.length_map, List.length_set, List.length_replicate, *]) | (with_reducible exact Lt.mono (by assumption) (by decide)) | (simp only [Cs.len]; done) | rfl)) fnok35 (up0 rfl rfl rfl) rfl rfl (.cons _ _ _ _ rfl (.cons _ _ _ _ rfl (.cons _ _ _ _ rfl .nil))) (.cons _ _ _ _ (.same _) (.cons _ _ _ _ (.same _) (.cons _ _ _ _ (.same _) .nil))) rfl rfl rfl) rfl rfl rfl ?_
      refine OpsFrom.v (Y.move (up0 rfl rfl rfl) rfl rfl) rfl ?_
      refine OpsFrom.v (Y.ext0 (up0 rfl rfl rfl) rfl rfl) rfl ?_
      refine OpsFrom.v (Y.ext1 (up0 rfl rfl rfl) rfl rfl) rfl ?_
      refine OpsFrom.v (Y.assign (up0 rfl rfl rfl) rfl rfl) rfl ?_
      refine OpsFrom.v (Y.assign (up0 rfl rfl rfl) rfl rfl) rfl ?_
      refine OpsFrom.nil ?_
      refine Holds.seq ?_
      refine Holds.reg ?_
      refine OpsFrom.v (Y.move (up0 rfl rfl rfl) rfl rfl) rfl ?_
      refine OpsFrom.v (Y.move (up0 rfl rfl rfl) rfl rfl) rfl ?_
      refine OpsFrom.v (Y.move (up0 rfl rfl rfl) rfl rfl) rfl ?_
      refine OpsFrom.u (Y.callF (d := 45) (w_kexpn _ _ _ (by first | (with_reducible assumption) | omega | (simp only [lens, kexp_len, List.flatten_cons, List.flatten_nil, List.append_nil, List.length_cons, List.length_nil, Cs.len, List.length_map, List.length_set, List.length_replicate, *]; first | done | omega) | decide | (split <;> simp only [lens, kexp_len, List.flatten_cons, List.flatten_nil, List.append_nil, List.length_cons, List.length_nil, Cs.len, List.length_map, List.length_set, List.length_replicate, *]) | (with_reducible exact Lt.mono (by assumption) (by decide)) | (simp only [Cs.len]; done) | rfl) (by first | (with_reducible assumption) | omega | (simp only [lens, kexp_len, List.flatten_cons, List.flatten_nil, List.append_nil, List.length_cons, List.length_nil, Cs.len, List.length_map, List.length_set, List.length_replicate, *]; first | done | omega) | decide | (split <;> simp only [lens, kexp_len, List.flatten_cons, List.flatten_nil, List.append_nil, List.length_cons, List.length_nil, Cs.len, List.length_map, List.length_set, List.length_replicate, *]) | (with_reducible exact Lt.mono (by assumption) (by decide)) | (simp only [Cs.len]; done) | rfl)) fnok35 (up0 rfl rfl rfl) rfl rfl (.cons _ _ _ _ rfl (.cons _ _ _ _ rfl (.cons _ _ _ _ rfl .nil))) (.cons _ _ _ _ (.same _) (.cons _ _ _ _ (.same _) (.cons _ _ _ _ (.same _) .nil))) rfl rfl rfl) rfl rfl rfl ?_
      refine OpsFrom.v (Y.move (up0 rfl rfl rfl) rfl rfl) rfl ?_
      refine OpsFrom.v (Y.ext0 (up0 rfl rfl rfl) rfl rfl) rfl ?_
      refine OpsFrom.v (Y.ext1 (up0 rfl rfl rfl) rfl rfl) rfl ?_
      refine OpsFrom.v (Y.assign (up0 rfl rfl rfl) rfl rfl) rfl ?_
      refine OpsFrom.v (Y.assign (up0 rfl rfl rfl) rfl rfl) rfl ?_
      refine OpsFrom.nil ?_
      refine Holds.seq ?_
      refine Holds.seq ?_
      have hL0 : (kexp key use_ ((n % 1000 : Nat) : Int)).1.length = n % 1000 := kexp_len (by omega)
      have hL1 : (kexp key use_ (((n % 1000) + (more % 1000) : Nat) : Int)).1.length = (n % 1000) + (more % 1000) := kexp_len (by omega)
      refine Holds.reg ?_
      refine OpsFrom.v (Y.move (up0 rfl rfl rfl) rfl rfl) rfl ?_
      refine OpsFrom.v (Y.len ty22 (up0 rfl rfl rfl) rfl rfl rfl rfl) rfl ?_
      refine OpsFrom.v (Y.move (up0 rfl rfl rfl) rfl rfl) rfl ?_
      refine OpsFrom.v (Doing.isB (c := false) (decide_eq_false (not_not_intro (kexp_len (by first | decide | omega)))) (Y.neq (up0 rfl rfl rfl) rfl rfl rfl)) rfl ?_
      refine OpsFrom.v (Y.move (up0 rfl rfl rfl) rfl rfl) rfl ?_
      refine OpsFrom.v (Y.move (up1 rfl rfl rfl rfl rfl rfl) rfl rfl) rfl ?_
      refine OpsFrom.v (Y.len ty22 (up1 rfl rfl rfl rfl rfl rfl) rfl rfl rfl rfl) rfl ?_
      refine OpsFrom.v (Y.move (up1 rfl rfl rfl rfl rfl rfl) rfl rfl) rfl ?_
      refine OpsFrom.v (Doing.isB (c := false) (decide_eq_false (not_not_intro (kexp_len (by first | decide | omega)))) (Y.neq (up1 rfl rfl rfl rfl rfl rfl) rfl rfl rfl)) rfl ?_
      refine OpsFrom.v (Y.pickF (up0 rfl rfl rfl) rfl rfl rfl) rfl ?_
      refine OpsFrom.nil ?_
      refine Holds.condF rfl ?_
      refine Holds.skip ?_
      refine Holds.seq ?_
      refine Holds.dr mx [([58], []), ([59], []), ([60], []), ([61], []), ([62], []), ([63], []), ([64], []), ([65], []), ([66], []), ([67], []), ([68], [70, 71, 72, 73]), ([69], [70, 71, 72, 73]), ([70], [68, 69, 71]), ([71], [68, 69, 70]), ([72], [68, 69]), ([73], [68, 69]), ([74], []), ([75], []), ([8], [])] (by kernel_rfl) ?_
      refine CertK.v (Y.move (up0 rfl rfl rfl) rfl rfl) rfl ?_
      refine CertK.v (Y.move (up0 rfl rfl rfl) rfl rfl) rfl ?_
      refine CertK.v (Y.move (up1 rfl rfl rfl rfl rfl rfl) rfl rfl) rfl ?_
      refine CertK.v (Doing.isB (c := true) (decide_eq_true ((kexp_err _ _ (by first | (with_reducible assumption) | omega | (simp only [lens, kexp_len, List.flatten_cons, List.flatten_nil, List.append_nil, List.length_cons, List.length_nil, Cs.len, List.length_map, List.length_set, List.length_replicate, *]; first | done | omega) | decide | (split <;> simp only [lens, kexp_len, List.flatten_cons, List.flatten_nil, List.append_nil, List.length_cons, List.length_nil, Cs.len, List.length_map, List.length_set, List.length_replicate, *]) | (with_reducible exact Lt.mono (by assumption) (by decide)) | (simp only [Cs.len]; done) | rfl)))) (Y.eql (b := 0) (up1 rfl rfl rfl rfl rfl rfl) rfl rfl rfl)) rfl ?_
      refine CertK.v (Y.pickT (up0 rfl rfl rfl) rfl rfl rfl) rfl ?_
      refine CertK.v (Y.move (up0 rfl rfl rfl) rfl rfl) rfl ?_
      refine CertK.v (Y.move (up1 rfl rfl rfl rfl rfl rfl) rfl rfl) rfl ?_
      refine CertK.v (Doing.isB (c := true) (decide_eq_true ((kexp_err _ _ (by first | (with_reducible assumption) | omega | (simp only [lens, kexp_len, List.flatten_cons, List.flatten_nil, List.append_nil, List.length_cons, List.length_nil, Cs.len, List.length_map, List.length_set, List.length_replicate, *]; first | done | omega) | decide | (split <;> simp only [lens, kexp_len, List.flatten_cons, List.flatten_nil, List.append_nil, List.length_cons, List.length_nil, Cs.len, List.length_map, List.length_set, List.length_replicate, *]) | (with_reducible exact Lt.mono (by assumption) (by decide)) | (simp only [Cs.len]; done) | rfl)))) (Y.eql (b := 0) (up1 rfl rfl rfl rfl rfl rfl) rfl rfl rfl)) rfl ?_
      refine CertK.v (Y.pickT (up0 rfl rfl rfl) rfl rfl rfl) rfl ?_
      refine CertK.v (Y.move (up0 rfl rfl rfl) rfl rfl) rfl ?_
      refine CertK.vd (Y.move (up1 rfl rfl rfl rfl rfl rfl) rfl rfl) rfl rfl ?_
      refine CertK.vd (Y.str ty22 ty5 ty9 (up1 rfl rfl rfl rfl rfl rfl) rfl rfl (.all rfl (by first | (with_reducible assumption) | omega | (simp only [lens, kexp_len, List.flatten_cons, List.flatten_nil, List.append_nil, List.length_cons, List.length_nil, Cs.len, List.length_map, List.length_set, List.length_replicate, *]; first | done | omega) | decide | (split <;> simp only [lens, kexp_len, List.flatten_cons, List.flatten_nil, List.append_nil, List.length_cons, List.length_nil, Cs.len, List.length_map, List.length_set, List.length_replicate, *]) | (with_reducible exact Lt.mono (by assumption) (by decide)) | (simp only [Cs.len]; done) | rfl))) rfl rfl ?_
      refine CertK.vd (Y.move (up1 rfl rfl rfl rfl rfl rfl) rfl rfl) rfl rfl ?_
      refine CertK.vd (Y.move (up1 rfl rfl rfl rfl rfl rfl) rfl rfl) rfl rfl ?_
      refine CertK.vd (Y.slSg0 ty22 ty5 (up1 rfl rfl rfl rfl rfl rfl) rfl rfl bnd0 (bnd1 rfl) (by first | (with_reducible assumption) | omega | (simp only [lens, kexp_len, List.flatten_cons, List.flatten_nil, List.append_nil, List.length_cons, List.length_nil, Cs.len, List.length_map, List.length_set, List.length_replicate, *]; first | done | omega) | decide | (split <;> simp only [lens, kexp_len, List.flatten_cons, List.flatten_nil, List.append_nil, List.length_cons, List.length_nil, Cs.len, List.length_map, List.length_set, List.length_replicate, *]) | (with_reducible exact Lt.mono (by assumption) (by decide)) | (simp only [Cs.len]; done) | rfl) (by first | (with_reducible assumption) | omega | (simp only [lens, kexp_len, List.flatten_cons, List.flatten_nil, List.append_nil, List.length_cons, List.length_nil, Cs.len, List.length_map, List.length_set, List.length_replicate, *]; first | done | omega) | decide | (split <;> simp only [lens, kexp_len, List.flatten_cons, List.flatten_nil, List.append_nil, List.length_cons, List.length_nil, Cs.len, List.length_map, List.length_set, List.length_replicate, *]) | (with_reducible exact Lt.mono (by assumption) (by decide)) | (simp only [Cs.len]; done) | rfl)) rfl rfl ?_
      refine CertK.vd (Y.str ty22 ty5 ty9 (up1 rfl rfl rfl rfl rfl rfl) rfl rfl (.sg _ _ _ _ _ _ rfl rfl (by first | (with_reducible assumption) | omega | (simp only [lens, kexp_len, List.flatten_cons, List.flatten_nil, List.append_nil, List.length_cons, List.length_nil, Cs.len, List.length_map, List.length_set, List.length_replicate, *]; first | done | omega) | decide | (split <;> simp only [lens, kexp_len, List.flatten_cons, List.flatten_nil, List.append_nil, List.length_cons, List.length_nil, Cs.len, List.length_map, List.length_set, List.length_replicate, *]) | (with_reducible exact Lt.mono (by assumption) (by decide)) | (simp only [Cs.len]; done) | rfl))) rfl rfl ?_
      refine CertK.v (Doing.isB (c := true) (decide_eq_true ((kexp_pre _ _ (by first | (with_reducible assumption) | omega | (simp only [lens, kexp_len, List.flatten_cons, List.flatten_nil, List.append_nil, List.length_cons, List.length_nil, Cs.len, List.length_map, List.length_set, List.length_replicate, *]; first | done | omega) | decide | (split <;> simp only [lens, kexp_len, List.flatten_cons, List.flatten_nil, List.append_nil, List.length_cons, List.length_nil, Cs.len, List.length_map, List.length_set, List.length_replicate, *]) | (with_reducible exact Lt.mono (by assumption) (by decide)) | (simp only [Cs.len]; done) | rfl) (by first | (with_reducible assumption) | omega | (simp only [lens, kexp_len, List.flatten_cons, List.flatten_nil, List.append_nil, List.length_cons, List.length_nil, Cs.len, List.length_map, List.length_set, List.length_replicate, *]; first | done | omega) | decide | (split <;> simp only [lens, kexp_len, List.flatten_cons, List.flatten_nil, List.append_nil, List.length_cons, List.length_nil, Cs.len, List.length_map, List.length_set, List.length_replicate, *]) | (with_reducible exact Lt.mono (by assumption) (by decide)) | (simp only [Cs.len]; done) | rfl)))) (Y.eqS (up1 rfl rfl rfl rfl rfl rfl) rfl rfl rfl)) rfl ?_
      refine CertK.v (Y.pickT (up0 rfl rfl rfl) rfl rfl rfl) rfl ?_
      refine CertK.v (Y.assign (up0 rfl rfl rfl) rfl rfl) rfl ?_
      refine CertK.nil ?_
      refine Holds.ret ?_
      exact Holds.ret1 (.inl rfl) rfl (.tmp _ _ rfl) (.same _) rfl


end Go.Proofs.Ytjgcmfedofmkpaa
