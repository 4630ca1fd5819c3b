/-
  Walks: the sum of parts.
-/
import Derived.Test.YtjgcmfedofmkpaaSi
namespace Go.Proofs.Ytjgcmfedofmkpaa
open Go Go.Fx
set_option linter.unusedVariables false
set_option linter.unusedSimpArgs false
theorem ssum_l (s : St) : (ssum s).length = 64 := by unfold ssum; rw [ssum_it2_l]; rfl
theorem flat_le (ts : List (List Nat)) (i : Nat) : (ts.getD i []).length ≤ ts.flatten.length := by
  by_cases h : i < ts.length
  · have := sconc_le ts h
    omega
  · rw [List.getD_eq_getElem?_getD, List.getElem?_eq_none (by omega)]
    exact Nat.zero_le _
def sha_s1 (ts : List (List Nat)) (i1_ : Nat) (m1_ : St) : St :=
  (swrite m1_ (ts.getD i1_ []))
def sha_it1 (ts : List (List Nat)) (i1_ : Nat) : St := iter (sha_s1 ts) i1_ snew
theorem sha_it1_z (ts : List (List Nat)) : sha_it1 ts 0 = snew := rfl
theorem sha_it1_s (ts : List (List Nat)) (i1_ : Nat) : sha_it1 ts (i1_ + 1) = sha_s1 ts i1_ (sha_it1 ts i1_) := by unfold sha_it1; exact iterS _ _ _
theorem sha_n (ts : List (List Nat)) : ∀ i, (sha_it1 ts i).h.length = 8 ∧ (sha_it1 ts i).r.length ≤ 128
  | 0 => ⟨snew_l, by rw [sha_it1_z, snew_r]; decide⟩
  | i + 1 => by
    obtain ⟨h1, h2⟩ := sha_n ts i
    rw [sha_it1_s]
    unfold sha_s1
    exact ⟨swrite_h h1 _, Nat.le_of_lt (swrite_r _ _)⟩
def sha (ts : List (List Nat)) : List Nat :=
  (ssum (sha_it1 ts ts.length))
theorem sha_len (ts : List (List Nat))  : ((sha ts)).length = 64 := by
  unfold sha
  first | (simp [snew_l, ssum_l]; done) | (simp [*, snew_l, ssum_l]; done) | (dsimp only; (repeat' split) <;> simp [*, snew_l, ssum_l])
theorem w_sha (ts : List (List Nat)) (h_ts : ts.flatten.length ≤ 1048576) (h_tl : ts.length ≤ 4194304) : VC Try.prog 20 [.one (.bss false ts)] (.row (.ints .u8 (sha ts))) := by
  refine VC.go Try.func20 rfl Try.ntmps20 rfl rfl fun O w => ?_
  refine Holds.seq ?_
  refine Holds.reg ?_
  refine OpsFrom.u (Y.alloc (d := 2) ty24 rfl rfl (up0 rfl rfl rfl) rfl) rfl rfl rfl ?_
  refine OpsFrom.nil ?_
  refine Holds.seq ?_
  refine Holds.reg ?_
  refine OpsFrom.v (Y.callW w_snew fnok22 (up0 rfl rfl rfl) rfl rfl .nil .nil rfl rfl) rfl ?_
  refine OpsFrom.u (Y.alloc (d := 3) ty30 rfl rfl (up0 rfl rfl rfl) rfl) rfl rfl rfl ?_
  refine OpsFrom.n (Y.stR ty30 (upN rfl rfl) rfl rfl rfl rfl rfl rfl rfl (by decide)) rfl rfl ?_
  refine OpsFrom.nil ?_
  refine Holds.seq ?_
  refine Holds.seq ?_
  refine Holds.reg ?_
  refine OpsFrom.v (Y.move (up0 rfl rfl rfl) rfl rfl) rfl ?_
  refine OpsFrom.v (Y.len ty43 (up0 rfl rfl rfl) rfl rfl rfl rfl) rfl ?_
  refine OpsFrom.v (Y.move (v := (.one (.n .i64 0))) (up0 rfl rfl rfl) rfl rfl) rfl ?_
  refine OpsFrom.nil ?_
  refine Holds.block ?_
  refine Holds.loop (fun (i1_ : Nat) => ⟨[(2, .one (.p 2 0)), (3, .one (.p 3 0)), (7, .one (.bss false ts)), (8, .one (.n .i64 ts.length)), (9, .one (.n .i64 i1_))], [(2, .own (.ints .u8 (List.replicate 64 0))), (3, .own (.mix (St.cells (sha_it1 ts i1_))))]⟩) (fun (i1_ : Nat) => i1_ ≤ ts.length) (fun (i1_ : Nat) => ts.length - i1_) 0 (by first | (with_reducible assumption) | omega | (simp only [lens, snew_l, *]; first | done | omega) | decide | (split <;> simp only [lens, snew_l, *]) | (with_reducible exact Lt.mono (by assumption) (by decide)) | (simp only [Cs.len]; done) | rfl) [] ⟨⟨rfl, rfl, rfl, rfl, rfl, trivial⟩, ⟨rfl, (stEq (congrArg (fun (s : St) => s) (sha_it1_z ts)).symm), trivial⟩, rfl, rfl⟩ ?_
  intro i1_ k1_
  obtain ⟨hn1, hn2⟩ := sha_n ts i1_
  have hl := flat_le ts i1_
  refine Holds.seq ?_
  refine Holds.reg ?_
  refine OpsFrom.v (Y.lss (up0 rfl rfl rfl) rfl rfl rfl) rfl ?_
  refine OpsFrom.nil ?_
  refine Holds.seq ?_
  refine Holds.condD rfl (fun h10 => ?_) (fun h10 => ?_)
  · refine Holds.skip ?_
    refine Holds.seq ?_
    refine Holds.block ?_
    refine Holds.seq ?_
    refine Holds.reg ?_
    refine OpsFrom.v (Y.iaBss ty43 ty22 (up0 rfl rfl rfl) rfl rfl rfl (by first | (with_reducible assumption) | omega | (simp only [lens, snew_l, *]; first | done | omega) | decide | (split <;> simp only [lens, snew_l, *]) | (with_reducible exact Lt.mono (by assumption) (by decide)) | (simp only [Cs.len]; done) | rfl)) rfl ?_
    refine OpsFrom.v (Y.ldPcb ty22 rfl (up0 rfl rfl rfl) rfl rfl) rfl ?_
    refine OpsFrom.v (Y.assign (up0 rfl rfl rfl) rfl rfl) rfl ?_
    refine OpsFrom.nil ?_
    refine Holds.reg ?_
    refine OpsFrom.v (Y.ldAll ty30 rfl (up0 rfl rfl rfl) rfl rfl rfl rfl (by decide)) rfl ?_
    refine OpsFrom.v (Y.move (up0 rfl rfl rfl) rfl rfl) rfl ?_
    refine OpsFrom.v (Y.callW (w_swrite _ _ (by first | (with_reducible assumption) | omega | (simp only [lens, snew_l, *]; first | done | omega) | decide | (split <;> simp only [lens, snew_l, *]) | (with_reducible exact Lt.mono (by assumption) (by decide)) | (simp only [Cs.len]; done) | rfl) (by first | (with_reducible assumption) | omega | (simp only [lens, snew_l, *]; first | done | omega) | decide | (split <;> simp only [lens, snew_l, *]) | (with_reducible exact Lt.mono (by assumption) (by decide)) | (simp only [Cs.len]; done) | rfl) (by first | (with_reducible assumption) | omega | (simp only [lens, snew_l, *]; first | done | omega) | decide | (split <;> simp only [lens, snew_l, *]) | (with_reducible exact Lt.mono (by assumption) (by decide)) | (simp only [Cs.len]; done) | rfl)) fnok23 (up0 rfl rfl rfl) rfl rfl (.cons _ _ _ _ rfl (.cons _ _ _ _ rfl .nil)) (.cons _ _ _ _ (.same _) (.cons _ _ _ _ (.same _) .nil)) rfl rfl) rfl ?_
    refine OpsFrom.n (Y.stR ty30 (upN rfl rfl) rfl rfl rfl rfl rfl rfl rfl (by decide)) rfl rfl ?_
    refine OpsFrom.nil ?_
    refine Holds.reg ?_
    refine OpsFrom.v (Y.addI (b := 1) (up0 rfl rfl rfl) rfl rfl rfl (by first | (with_reducible assumption) | omega | (simp only [lens, snew_l, *]; first | done | omega) | decide | (split <;> simp only [lens, snew_l, *]) | (with_reducible exact Lt.mono (by assumption) (by decide)) | (simp only [Cs.len]; done) | rfl)) rfl ?_
    refine OpsFrom.v (Y.move (up0 rfl rfl rfl) rfl rfl) rfl ?_
    refine OpsFrom.nil ?_
    exact Holds.again (i1_ + 1) (by omega) (by omega) [] ⟨⟨rfl, rfl, rfl, rfl, (nEq (by omega)), trivial⟩, ⟨rfl, (stEq (by rw [sha_it1_s]; unfold sha_s1; first | (dsimp only; done) | rfl)), trivial⟩, rfl, rfl⟩
  · obtain rfl : i1_ = ts.length := by omega
    obtain ⟨hn1, hn2⟩ := sha_n ts ts.length
    refine Holds.exit ?_
    refine Holds.seq ?_
    refine Holds.reg ?_
    refine OpsFrom.v (Y.ldAll ty30 rfl (up0 rfl rfl rfl) rfl rfl rfl rfl (by decide)) rfl ?_
    refine OpsFrom.v (Y.callV (w_ssum _ (by first | (with_reducible assumption) | omega | (simp only [lens, snew_l, ssum_l, *]; first | done | omega) | decide | (split <;> simp only [lens, snew_l, ssum_l, *]) | (with_reducible exact Lt.mono (by assumption) (by decide)) | (simp only [Cs.len]; done) | rfl) (by first | (with_reducible assumption) | omega | (simp only [lens, snew_l, ssum_l, *]; first | done | omega) | decide | (split <;> simp only [lens, snew_l, ssum_l, *]) | (with_reducible exact Lt.mono (by assumption) (by decide)) | (simp only [Cs.len]; done) | rfl)) fnok24 (up0 rfl rfl rfl) rfl rfl (.cons _ _ _ _ rfl .nil) (.cons _ _ _ _ (.same _) .nil) rfl rfl) rfl ?_
    refine OpsFrom.n (Y.stR ty24 (upN rfl rfl) rfl rfl rfl rfl rfl (by first | (with_reducible assumption) | omega | (simp only [lens, snew_l, ssum_l, *]; first | done | omega) | decide | (split <;> simp only [lens, snew_l, ssum_l, *]) | (with_reducible exact Lt.mono (by assumption) (by decide)) | (simp only [Cs.len]; done) | rfl) (by first | (with_reducible assumption) | omega | (simp only [lens, snew_l, ssum_l, *]; first | done | omega) | decide | (split <;> simp only [lens, snew_l, ssum_l, *]) | (with_reducible exact Lt.mono (by assumption) (by decide)) | (simp only [Cs.len]; done) | rfl) (by decide)) rfl rfl ?_
    refine OpsFrom.nil ?_
    refine Holds.ret ?_
    exact Holds.ret1 (.inl rfl) rfl (.rowN rfl rfl ty24 rfl (by first | (with_reducible assumption) | omega | (simp only [lens, snew_l, ssum_l, *]; first | done | omega) | decide | (split <;> simp only [lens, snew_l, ssum_l, *]) | (with_reducible exact Lt.mono (by assumption) (by decide)) | (simp only [Cs.len]; done) | rfl) (by decide)) (.same _) rfl

theorem sha_l (ts : List (List Nat)) : (sha ts).length = 64 := by unfold sha; exact ssum_l _

end Go.Proofs.Ytjgcmfedofmkpaa
