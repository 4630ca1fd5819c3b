/-
  Walks: the head of the laws of chapter 01.
-/
import Derived.Test.YtnfiiclmbiiokaaPh
namespace Go.Proofs.Ytnfiiclmbiiokaa
open Go Go.Fx
set_option linter.unusedVariables false
set_option linter.unusedSimpArgs false
def fawake_s1  (i1_ : Nat) (m1_ : List Nat) : List Nat :=
  m1_.set (1 + i1_) 255
def fawake_it1  (i1_ : Nat) : List Nat := iter (fawake_s1) i1_ ((List.replicate 32 0).set 0 238)
theorem fawake_it1_z  : fawake_it1 0 = (List.replicate 32 0).set 0 238 := rfl
theorem fawake_it1_s  (i1_ : Nat) : fawake_it1 (i1_ + 1) = fawake_s1 i1_ (fawake_it1 i1_) := by unfold fawake_it1; exact iterS _ _ _
theorem fawake_it1_l  (i1_ : Nat) : ((fawake_it1 i1_)).length = ((List.replicate 32 0).set 0 238 : List Nat).length := iter_inv (fun (s : List Nat) => (s).length = ((List.replicate 32 0).set 0 238 : List Nat).length) (by simp) (fun i s h => by
  unfold fawake_s1
  first | (simp [h]; done) | (dsimp only; (repeat' split) <;> simp [h])) i1_
theorem aw1 : fbytes (load ((fawake_it1 30).set 31 127)) = (List.replicate 32 0).set 0 1 := by
  rw [bytes_load (by decide +kernel) (Lt.of_mem (by decide) (by decide +kernel))]
  decide +kernel
theorem awm : fbytes (sub (fof 0) (fof 1)) = digs 256 32 57896044618658097711785492504343953926634992332820282019728792003956564819948 := by
  obtain ⟨a1, a2⟩ := fof_val (n := 0) (by decide)
  obtain ⟨b1, b2⟩ := fof_val (n := 1) (by decide)
  obtain ⟨c1, c2⟩ := sub_val a1 b1
  rw [fbytes_val c1, c2, a2, b2]
  decide +kernel
theorem aw2 : (fbytes (sub (fof 0) (fof 1))).getD 0 0 = 236 := by rw [awm]; decide +kernel
theorem aw3 : (fbytes (sub (fof 0) (fof 1))).getD 1 0 = 255 := by rw [awm]; decide +kernel
theorem aw4 : (fbytes (sub (fof 0) (fof 1))).getD 31 0 = 127 := by rw [awm]; decide +kernel
theorem awr (n : Nat) (h : n < 256) : Fe (ratio (fof n) (fof 1)).1 ∧ kv (ratio (fof n) (fof 1)).1 = (kratio (kof n) 1).1 ∧ (ratio (fof n) (fof 1)).2 = (kratio (kof n) 1).2 := by
  obtain ⟨a1, a2⟩ := fof_val h
  obtain ⟨b1, b2⟩ := fof_val (n := 1) (by decide)
  have := ratio_val a1 b1
  rw [pratio_eq, a2, b2, kof_one] at this
  exact this
theorem ki1 : ki 1 = 1 := kp_1 _
theorem kr1_4 : kr1 (kof 4) = kof 39362322753415011913614158609977084030892133031847780325488042146247659569504 := kp_pwm (by decide +kernel) (by decide +kernel)
theorem kr1_2 : kr1 (kof 2) = kof 19681161376707505956807079304988542015446066515923890162744021073123829784753 := kp_pwm (by decide +kernel) (by decide +kernel)
theorem kI_e : kI = kof 19681161376707505956807079304988542015446066515923890162744021073123829784752 := kp_pwm (a := 2) (by decide +kernel) (by decide +kernel)
theorem kratio4 : kratio (kof 4) 1 = (kof 2, true) := by
  unfold kratio kr2
  rw [ki1, show kof 4 * 1 = kof 4 from by decide +kernel, kr1_4, kI_e, if_neg (k_ne (by decide +kernel)), if_neg (k_ne (by decide +kernel))]
  decide +kernel
theorem kratio2 : (kratio (kof 2) 1).2 = false := by
  unfold kratio kr2
  rw [ki1, show kof 2 * 1 = kof 2 from by decide +kernel, kr1_2, kI_e, if_neg (k_ne (by decide +kernel)), if_neg (k_ne (by decide +kernel))]
  decide +kernel
theorem aw5 : fbytes (ratio (fof 4) (fof 1)).1 = (List.replicate 32 0).set 0 2 := by
  obtain ⟨h1, h2, _⟩ := awr 4 (by decide)
  rw [fbytes_val h1, h2, kratio4]
  decide +kernel
theorem aw6 : (ratio (fof 4) (fof 1)).2 = true := by rw [(awr 4 (by decide)).2.2, kratio4]
theorem aw7 : (!(ratio (fof 2) (fof 1)).2) = true := by rw [(awr 2 (by decide)).2.2, kratio2]; rfl
theorem aw8 : same (fof 3) (fof 3) = true := by
  obtain ⟨a1, a2⟩ := fof_val (n := 3) (by decide)
  rw [same_val a1 a1]
  exact decide_eq_true rfl
theorem aw9 : odd (fof 3) = true := by
  obtain ⟨a1, a2⟩ := fof_val (n := 3) (by decide)
  rw [odd_val a1, a2]
  decide +kernel
theorem aw10 : (!odd (fof 4)) = true := by
  obtain ⟨a1, a2⟩ := fof_val (n := 4) (by decide)
  rw [odd_val a1, a2]
  decide +kernel
theorem w_fawake   : VC Try.prog 15 [] (.one (.b true)) := by
  refine VC.go Try.func15 rfl Try.ntmps15 rfl rfl fun O w => ?_
  refine Holds.seq ?_
  refine Holds.reg ?_
  refine OpsFrom.v (Y.assign (up0 rfl rfl rfl) rfl rfl) rfl ?_
  refine OpsFrom.nil ?_
  refine Holds.seq ?_
  refine Holds.reg ?_
  refine OpsFrom.v (Y.buildA ty22 ty5 rfl (up0 rfl rfl rfl) rfl (.cons _ _ _ _ _ _ (.one (.n .u8 238)) _ _ rfl rfl rfl rfl (Spl.n (by first | decide | (simp; done))) (.nil _))) rfl ?_
  refine OpsFrom.u (Y.alloc (d := 1) ty22 rfl rfl (up0 rfl rfl rfl) rfl) rfl rfl rfl ?_
  refine OpsFrom.n (Y.stR ty22 (upN rfl rfl) rfl rfl rfl rfl rfl (by first | (with_reducible assumption) | omega | (simp only [lens, *]; first | done | omega) | decide | (split <;> simp only [lens, *]) | (with_reducible exact Lt.mono (by assumption) (by decide)) | (simp only [Cs.len]; done) | rfl) (by first | (with_reducible assumption) | omega | (simp only [lens, *]; first | done | omega) | decide | (split <;> simp only [lens, *]) | (with_reducible exact Lt.mono (by assumption) (by decide)) | (simp only [Cs.len]; done) | rfl) (by decide)) rfl rfl ?_
  refine OpsFrom.nil ?_
  refine Holds.seq ?_
  refine Holds.seq ?_
  refine Holds.reg ?_
  refine OpsFrom.v (Y.assign (v := (.one (.n .i64 1))) (up0 rfl rfl rfl) rfl rfl) rfl ?_
  refine OpsFrom.nil ?_
  refine Holds.block ?_
  refine Holds.loop (fun (i1_ : Nat) => ⟨[(0, .one (.b false)), (1, .one (.p 1 0)), (2, .one (.n .i64 (1 + i1_)))], [(1, .own (.ints .u8 (fawake_it1 i1_)))]⟩) (fun (i1_ : Nat) => i1_ ≤ 30) (fun (i1_ : Nat) => 30 - i1_) 0 (by first | (with_reducible assumption) | omega | (simp only [lens, fawake_it1_l, *]; first | done | omega) | decide | (split <;> simp only [lens, fawake_it1_l, *]) | (with_reducible exact Lt.mono (by assumption) (by decide)) | (simp only [Cs.len]; done) | rfl) [] ⟨⟨rfl, rfl, rfl, trivial⟩, ⟨(hEq (congrArg (fun (s : List Nat) => s) (fawake_it1_z)).symm), trivial⟩, rfl, rfl⟩ ?_
  intro i1_ k1_
  refine Holds.seq ?_
  refine Holds.seq ?_
  refine Holds.reg ?_
  refine OpsFrom.v (Y.move (up0 rfl rfl rfl) rfl rfl) rfl ?_
  refine OpsFrom.v (Y.lss (b := 31) (up0 rfl rfl rfl) rfl rfl rfl) rfl ?_
  refine OpsFrom.nil ?_
  refine Holds.condD rfl (fun h10 => ?_) (fun h10 => ?_)
  · refine Holds.skip ?_
    refine Holds.seq ?_
    refine Holds.block ?_
    refine Holds.reg ?_
    refine OpsFrom.v (Y.move (up0 rfl rfl rfl) rfl rfl) rfl ?_
    refine OpsFrom.v (Y.ia0 ty22 ty5 (up0 rfl rfl rfl) rfl rfl rfl (by first | (with_reducible assumption) | omega | (simp only [lens, fawake_it1_l, *]; first | done | omega) | decide | (split <;> simp only [lens, fawake_it1_l, *]) | (with_reducible exact Lt.mono (by assumption) (by decide)) | (simp only [Cs.len]; done) | rfl)) rfl ?_
    refine OpsFrom.n (Y.stI ty5 (upN rfl rfl) rfl rfl rfl rfl (by first | (with_reducible assumption) | omega | (simp only [lens, fawake_it1_l, *]; first | done | omega) | decide | (split <;> simp only [lens, fawake_it1_l, *]) | (with_reducible exact Lt.mono (by assumption) (by decide)) | (simp only [Cs.len]; done) | rfl)) rfl rfl ?_
    refine OpsFrom.nil ?_
    refine Holds.reg ?_
    refine OpsFrom.v (Y.move (up0 rfl rfl rfl) rfl rfl) rfl ?_
    refine OpsFrom.v (Y.addI (b := 1) (up0 rfl rfl rfl) rfl rfl rfl (by first | (with_reducible assumption) | omega | (simp only [lens, fawake_it1_l, *]; first | done | omega) | decide | (split <;> simp only [lens, fawake_it1_l, *]) | (with_reducible exact Lt.mono (by assumption) (by decide)) | (simp only [Cs.len]; done) | rfl)) rfl ?_
    refine OpsFrom.v (Y.assign (up0 rfl rfl rfl) rfl rfl) rfl ?_
    refine OpsFrom.nil ?_
    exact Holds.again (i1_ + 1) (by omega) (by omega) [] ⟨⟨rfl, rfl, (nEq (by omega)), trivial⟩, ⟨(hEq (by rw [fawake_it1_s]; unfold fawake_s1; first | (dsimp only; done) | rfl)), trivial⟩, rfl, rfl⟩
  · obtain rfl : i1_ = 30 := by omega
    refine Holds.exit ?_
    refine Holds.seq ?_
    refine Holds.reg ?_
    refine OpsFrom.v (Y.ia0 (i := 31) ty22 ty5 (up0 rfl rfl rfl) rfl rfl rfl (by first | (with_reducible assumption) | omega | (simp only [lens, fawake_it1_l, *]; first | done | omega) | decide | (split <;> simp only [lens, fawake_it1_l, *]) | (with_reducible exact Lt.mono (by assumption) (by decide)) | (simp only [Cs.len]; done) | rfl)) rfl ?_
    refine OpsFrom.n (Y.stI ty5 (upN rfl rfl) rfl rfl rfl rfl (by first | (with_reducible assumption) | omega | (simp only [lens, fawake_it1_l, *]; first | done | omega) | decide | (split <;> simp only [lens, fawake_it1_l, *]) | (with_reducible exact Lt.mono (by assumption) (by decide)) | (simp only [Cs.len]; done) | rfl)) rfl rfl ?_
    refine OpsFrom.nil ?_
    refine Holds.seq ?_
    refine Holds.reg ?_
    refine OpsFrom.v (Y.callV (w_fof _ ) fnok37 (up0 rfl rfl rfl) rfl rfl (.cons _ _ (.one (.n .u8 0)) _ rfl .nil) (.cons _ _ _ _ (.same _) .nil) rfl rfl) rfl ?_
    refine OpsFrom.v (Y.callV (w_fof _ ) fnok37 (up0 rfl rfl rfl) rfl rfl (.cons _ _ (.one (.n .u8 1)) _ rfl .nil) (.cons _ _ _ _ (.same _) .nil) rfl rfl) rfl ?_
    refine OpsFrom.v (Y.callV (w_sub _ _ (by first | (with_reducible assumption) | omega | (simp only [lens, fawake_it1_l, fof_l, sub_l, *]; first | done | omega) | decide | (split <;> simp only [lens, fawake_it1_l, fof_l, sub_l, *]) | (with_reducible exact Lt.mono (by assumption) (by decide)) | (simp only [Cs.len]; done) | rfl) (by first | (with_reducible assumption) | omega | (simp only [lens, fawake_it1_l, fof_l, sub_l, *]; first | done | omega) | decide | (split <;> simp only [lens, fawake_it1_l, fof_l, sub_l, *]) | (with_reducible exact Lt.mono (by assumption) (by decide)) | (simp only [Cs.len]; done) | rfl)) fnok26 (up0 rfl rfl rfl) rfl rfl (.cons _ _ _ _ rfl (.cons _ _ _ _ rfl .nil)) (.cons _ _ _ _ (.same _) (.cons _ _ _ _ (.same _) .nil)) rfl rfl) rfl ?_
    refine OpsFrom.v (Y.callV (w_fbytes _ (by first | (with_reducible assumption) | omega | (simp only [lens, fawake_it1_l, fof_l, sub_l, fbytes_l, *]; first | done | omega) | decide | (split <;> simp only [lens, fawake_it1_l, fof_l, sub_l, fbytes_l, *]) | (with_reducible exact Lt.mono (by assumption) (by decide)) | (simp only [Cs.len]; done) | rfl)) fnok19 (up0 rfl rfl rfl) rfl rfl (.cons _ _ _ _ rfl .nil) (.cons _ _ _ _ (.same _) .nil) rfl rfl) rfl ?_
    refine OpsFrom.u (Y.alloc (d := 3) ty22 rfl rfl (up0 rfl rfl rfl) rfl) rfl rfl rfl ?_
    refine OpsFrom.n (Y.stR ty22 (upN rfl rfl) rfl rfl rfl rfl rfl (by first | (with_reducible assumption) | omega | (simp only [lens, fawake_it1_l, fof_l, sub_l, fbytes_l, *]; first | done | omega) | decide | (split <;> simp only [lens, fawake_it1_l, fof_l, sub_l, fbytes_l, *]) | (with_reducible exact Lt.mono (by assumption) (by decide)) | (simp only [Cs.len]; done) | rfl) (by first | (with_reducible assumption) | omega | (simp only [lens, fawake_it1_l, fof_l, sub_l, fbytes_l, *]; first | done | omega) | decide | (split <;> simp only [lens, fawake_it1_l, fof_l, sub_l, fbytes_l, *]) | (with_reducible exact Lt.mono (by assumption) (by decide)) | (simp only [Cs.len]; done) | rfl) (by decide)) rfl rfl ?_
    refine OpsFrom.nil ?_
    refine Holds.seq ?_
    refine Holds.reg ?_
    refine OpsFrom.v (Y.callV (w_fof _ ) fnok37 (up0 rfl rfl rfl) rfl rfl (.cons _ _ (.one (.n .u8 4)) _ rfl .nil) (.cons _ _ _ _ (.same _) .nil) rfl rfl) rfl ?_
    refine OpsFrom.v (Y.callV (w_fof _ ) fnok37 (up0 rfl rfl rfl) rfl rfl (.cons _ _ (.one (.n .u8 1)) _ rfl .nil) (.cons _ _ _ _ (.same _) .nil) rfl rfl) rfl ?_
    refine OpsFrom.v (Y.callV (w_ratio _ _ (by first | (with_reducible assumption) | omega | (simp only [lens, fawake_it1_l, fof_l, sub_l, fbytes_l, ratio_l, *]; first | done | omega) | decide | (split <;> simp only [lens, fawake_it1_l, fof_l, sub_l, fbytes_l, ratio_l, *]) | (with_reducible exact Lt.mono (by assumption) (by decide)) | (simp only [Cs.len]; done) | rfl) (by first | (with_reducible assumption) | omega | (simp only [lens, fawake_it1_l, fof_l, sub_l, fbytes_l, ratio_l, *]; first | done | omega) | decide | (split <;> simp only [lens, fawake_it1_l, fof_l, sub_l, fbytes_l, ratio_l, *]) | (with_reducible exact Lt.mono (by assumption) (by decide)) | (simp only [Cs.len]; done) | rfl)) fnok32 (up0 rfl rfl rfl) rfl rfl (.cons _ _ _ _ rfl (.cons _ _ _ _ rfl .nil)) (.cons _ _ _ _ (.same _) (.cons _ _ _ _ (.same _) .nil)) rfl rfl) rfl ?_
    refine OpsFrom.v (Y.move (up0 rfl rfl rfl) rfl rfl) rfl ?_
    refine OpsFrom.v (Y.ext0 (up0 rfl rfl rfl) rfl rfl) rfl ?_
    refine OpsFrom.v (Y.ext1 (up0 rfl rfl rfl) rfl rfl) rfl ?_
    refine OpsFrom.u (Y.alloc (d := 4) ty27 rfl rfl (up0 rfl rfl rfl) rfl) rfl rfl rfl ?_
    refine OpsFrom.n (Y.stR ty27 (upN rfl rfl) rfl rfl rfl rfl rfl (by first | (with_reducible assumption) | omega | (simp only [lens, fawake_it1_l, fof_l, sub_l, fbytes_l, ratio_l, *]; first | done | omega) | decide | (split <;> simp only [lens, fawake_it1_l, fof_l, sub_l, fbytes_l, ratio_l, *]) | (with_reducible exact Lt.mono (by assumption) (by decide)) | (simp only [Cs.len]; done) | rfl) (by first | (with_reducible assumption) | omega | (simp only [lens, fawake_it1_l, fof_l, sub_l, fbytes_l, ratio_l, *]; first | done | omega) | decide | (split <;> simp only [lens, fawake_it1_l, fof_l, sub_l, fbytes_l, ratio_l, *]) | (with_reducible exact Lt.mono (by assumption) (by decide)) | (simp only [Cs.len]; done) | rfl) (by decide)) rfl rfl ?_
    refine OpsFrom.v (Y.assign (up0 rfl rfl rfl) rfl rfl) rfl ?_
    refine OpsFrom.nil ?_
    refine Holds.seq ?_
    refine Holds.reg ?_
    refine OpsFrom.v (Y.callV (w_fof _ ) fnok37 (up0 rfl rfl rfl) rfl rfl (.cons _ _ (.one (.n .u8 2)) _ rfl .nil) (.cons _ _ _ _ (.same _) .nil) rfl rfl) rfl ?_
    refine OpsFrom.v (Y.callV (w_fof _ ) fnok37 (up0 rfl rfl rfl) rfl rfl (.cons _ _ (.one (.n .u8 1)) _ rfl .nil) (.cons _ _ _ _ (.same _) .nil) rfl rfl) rfl ?_
    refine OpsFrom.v (Y.callV (w_ratio _ _ (by first | (with_reducible assumption) | omega | (simp only [lens, fawake_it1_l, fof_l, sub_l, fbytes_l, ratio_l, *]; first | done | omega) | decide | (split <;> simp only [lens, fawake_it1_l, fof_l, sub_l, fbytes_l, ratio_l, *]) | (with_reducible exact Lt.mono (by assumption) (by decide)) | (simp only [Cs.len]; done) | rfl) (by first | (with_reducible assumption) | omega | (simp only [lens, fawake_it1_l, fof_l, sub_l, fbytes_l, ratio_l, *]; first | done | omega) | decide | (split <;> simp only [lens, fawake_it1_l, fof_l, sub_l, fbytes_l, ratio_l, *]) | (with_reducible exact Lt.mono (by assumption) (by decide)) | (simp only [Cs.len]; done) | rfl)) fnok32 (up0 rfl rfl rfl) rfl rfl (.cons _ _ _ _ rfl (.cons _ _ _ _ rfl .nil)) (.cons _ _ _ _ (.same _) (.cons _ _ _ _ (.same _) .nil)) rfl rfl) rfl ?_
    refine OpsFrom.v (Y.move (up0 rfl rfl rfl) rfl rfl) rfl ?_
    refine OpsFrom.v (Y.ext0 (up0 rfl rfl rfl) rfl rfl) rfl ?_
    refine OpsFrom.v (Y.ext1 (up0 rfl rfl rfl) rfl rfl) rfl ?_
    refine OpsFrom.u (Y.alloc (d := 6) ty27 rfl rfl (up0 rfl rfl rfl) rfl) rfl rfl rfl ?_
    refine OpsFrom.n (Y.stR ty27 (upN rfl rfl) rfl rfl rfl rfl rfl (by first | (with_reducible assumption) | omega | (simp only [lens, fawake_it1_l, fof_l, sub_l, fbytes_l, ratio_l, *]; first | done | omega) | decide | (split <;> simp only [lens, fawake_it1_l, fof_l, sub_l, fbytes_l, ratio_l, *]) | (with_reducible exact Lt.mono (by assumption) (by decide)) | (simp only [Cs.len]; done) | rfl) (by first | (with_reducible assumption) | omega | (simp only [lens, fawake_it1_l, fof_l, sub_l, fbytes_l, ratio_l, *]; first | done | omega) | decide | (split <;> simp only [lens, fawake_it1_l, fof_l, sub_l, fbytes_l, ratio_l, *]) | (with_reducible exact Lt.mono (by assumption) (by decide)) | (simp only [Cs.len]; done) | rfl) (by decide)) rfl rfl ?_
    refine OpsFrom.v (Y.assign (up0 rfl rfl rfl) rfl rfl) rfl ?_
    refine OpsFrom.nil ?_
    refine Holds.seq ?_
    refine Holds.reg ?_
    refine OpsFrom.v (Y.ldAll ty22 rfl (up0 rfl rfl rfl) rfl rfl rfl (by first | (with_reducible assumption) | omega | (simp only [lens, fawake_it1_l, fof_l, sub_l, fbytes_l, ratio_l, *]; first | done | omega) | decide | (split <;> simp only [lens, fawake_it1_l, fof_l, sub_l, fbytes_l, ratio_l, *]) | (with_reducible exact Lt.mono (by assumption) (by decide)) | (simp only [Cs.len]; done) | rfl) (by decide)) rfl ?_
    refine OpsFrom.v (Y.callV (w_load _ (by first | (with_reducible assumption) | omega | (simp only [lens, fawake_it1_l, fof_l, sub_l, fbytes_l, ratio_l, load_l, *]; first | done | omega) | decide | (split <;> simp only [lens, fawake_it1_l, fof_l, sub_l, fbytes_l, ratio_l, load_l, *]) | (with_reducible exact Lt.mono (by assumption) (by decide)) | (simp only [Cs.len]; done) | rfl)) fnok16 (up0 rfl rfl rfl) rfl rfl (.cons _ _ _ _ rfl .nil) (.cons _ _ _ _ (.same _) .nil) rfl rfl) rfl ?_
    refine OpsFrom.v (Y.callV (w_fbytes _ (by first | (with_reducible assumption) | omega | (simp only [lens, fawake_it1_l, fof_l, sub_l, fbytes_l, ratio_l, load_l, *]; first | done | omega) | decide | (split <;> simp only [lens, fawake_it1_l, fof_l, sub_l, fbytes_l, ratio_l, load_l, *]) | (with_reducible exact Lt.mono (by assumption) (by decide)) | (simp only [Cs.len]; done) | rfl)) fnok19 (up0 rfl rfl rfl) rfl rfl (.cons _ _ _ _ rfl .nil) (.cons _ _ _ _ (.same _) .nil) rfl rfl) rfl ?_
    refine OpsFrom.v (Y.buildA ty22 ty5 rfl (up0 rfl rfl rfl) rfl (.cons _ _ _ _ _ _ (.one (.n .u8 1)) _ _ rfl rfl rfl rfl (Spl.n (by first | decide | (simp; done))) (.nil _))) rfl ?_
    refine OpsFrom.v (Doing.isB (c := true) (decide_eq_true (aw1)) (Y.eqR ty22 ty5 (by kernel_rfl) (up0 rfl rfl rfl) rfl rfl rfl (by first | (with_reducible assumption) | omega | (simp only [lens, fawake_it1_l, fof_l, sub_l, fbytes_l, ratio_l, load_l, *]; first | done | omega) | decide | (split <;> simp only [lens, fawake_it1_l, fof_l, sub_l, fbytes_l, ratio_l, load_l, *]) | (with_reducible exact Lt.mono (by assumption) (by decide)) | (simp only [Cs.len]; done) | rfl) (by first | (with_reducible assumption) | omega | (simp only [lens, fawake_it1_l, fof_l, sub_l, fbytes_l, ratio_l, load_l, *]; first | done | omega) | decide | (split <;> simp only [lens, fawake_it1_l, fof_l, sub_l, fbytes_l, ratio_l, load_l, *]) | (with_reducible exact Lt.mono (by assumption) (by decide)) | (simp only [Cs.len]; done) | rfl))) rfl ?_
    refine OpsFrom.v (Y.move (up0 rfl rfl rfl) rfl rfl) rfl ?_
    refine OpsFrom.v (Y.ia0 (i := 0) ty22 ty5 (up1 rfl rfl rfl rfl rfl rfl) rfl rfl rfl (by first | (with_reducible assumption) | omega | (simp only [lens, fawake_it1_l, fof_l, sub_l, fbytes_l, ratio_l, load_l, *]; first | done | omega) | decide | (split <;> simp only [lens, fawake_it1_l, fof_l, sub_l, fbytes_l, ratio_l, load_l, *]) | (with_reducible exact Lt.mono (by assumption) (by decide)) | (simp only [Cs.len]; done) | rfl)) rfl ?_
    refine OpsFrom.v (Y.ldI ty5 rfl (up1 rfl rfl rfl rfl rfl rfl) rfl rfl rfl (by first | (with_reducible assumption) | omega | (simp only [lens, fawake_it1_l, fof_l, sub_l, fbytes_l, ratio_l, load_l, *]; first | done | omega) | decide | (split <;> simp only [lens, fawake_it1_l, fof_l, sub_l, fbytes_l, ratio_l, load_l, *]) | (with_reducible exact Lt.mono (by assumption) (by decide)) | (simp only [Cs.len]; done) | rfl)) rfl ?_
    refine OpsFrom.v (Doing.isB (c := true) (decide_eq_true (aw2)) (Y.eql (b := 236) (up1 rfl rfl rfl rfl rfl rfl) rfl rfl rfl)) rfl ?_
    refine OpsFrom.v (Y.pickT (up0 rfl rfl rfl) rfl rfl rfl) rfl ?_
    refine OpsFrom.v (Y.move (up0 rfl rfl rfl) rfl rfl) rfl ?_
    refine OpsFrom.v (Y.ia0 (i := 1) ty22 ty5 (up1 rfl rfl rfl rfl rfl rfl) rfl rfl rfl (by first | (with_reducible assumption) | omega | (simp only [lens, fawake_it1_l, fof_l, sub_l, fbytes_l, ratio_l, load_l, *]; first | done | omega) | decide | (split <;> simp only [lens, fawake_it1_l, fof_l, sub_l, fbytes_l, ratio_l, load_l, *]) | (with_reducible exact Lt.mono (by assumption) (by decide)) | (simp only [Cs.len]; done) | rfl)) rfl ?_
    refine OpsFrom.v (Y.ldI ty5 rfl (up1 rfl rfl rfl rfl rfl rfl) rfl rfl rfl (by first | (with_reducible assumption) | omega | (simp only [lens, fawake_it1_l, fof_l, sub_l, fbytes_l, ratio_l, load_l, *]; first | done | omega) | decide | (split <;> simp only [lens, fawake_it1_l, fof_l, sub_l, fbytes_l, ratio_l, load_l, *]) | (with_reducible exact Lt.mono (by assumption) (by decide)) | (simp only [Cs.len]; done) | rfl)) rfl ?_
    refine OpsFrom.v (Doing.isB (c := true) (decide_eq_true (aw3)) (Y.eql (b := 255) (up1 rfl rfl rfl rfl rfl rfl) rfl rfl rfl)) rfl ?_
    refine OpsFrom.v (Y.pickT (up0 rfl rfl rfl) rfl rfl rfl) rfl ?_
    refine OpsFrom.v (Y.move (up0 rfl rfl rfl) rfl rfl) rfl ?_
    refine OpsFrom.v (Y.ia0 (i := 31) ty22 ty5 (up1 rfl rfl rfl rfl rfl rfl) rfl rfl rfl (by first | (with_reducible assumption) | omega | (simp only [lens, fawake_it1_l, fof_l, sub_l, fbytes_l, ratio_l, load_l, *]; first | done | omega) | decide | (split <;> simp only [lens, fawake_it1_l, fof_l, sub_l, fbytes_l, ratio_l, load_l, *]) | (with_reducible exact Lt.mono (by assumption) (by decide)) | (simp only [Cs.len]; done) | rfl)) rfl ?_
    refine OpsFrom.v (Y.ldI ty5 rfl (up1 rfl rfl rfl rfl rfl rfl) rfl rfl rfl (by first | (with_reducible assumption) | omega | (simp only [lens, fawake_it1_l, fof_l, sub_l, fbytes_l, ratio_l, load_l, *]; first | done | omega) | decide | (split <;> simp only [lens, fawake_it1_l, fof_l, sub_l, fbytes_l, ratio_l, load_l, *]) | (with_reducible exact Lt.mono (by assumption) (by decide)) | (simp only [Cs.len]; done) | rfl)) rfl ?_
    refine OpsFrom.v (Doing.isB (c := true) (decide_eq_true (aw4)) (Y.eql (b := 127) (up1 rfl rfl rfl rfl rfl rfl) rfl rfl rfl)) rfl ?_
    refine OpsFrom.v (Y.pickT (up0 rfl rfl rfl) rfl rfl rfl) rfl ?_
    refine OpsFrom.v (Y.move (up0 rfl rfl rfl) rfl rfl) rfl ?_
    refine OpsFrom.v (Y.ldAll ty27 rfl (up1 rfl rfl rfl rfl rfl rfl) rfl rfl rfl (by first | (with_reducible assumption) | omega | (simp only [lens, fawake_it1_l, fof_l, sub_l, fbytes_l, ratio_l, load_l, *]; first | done | omega) | decide | (split <;> simp only [lens, fawake_it1_l, fof_l, sub_l, fbytes_l, ratio_l, load_l, *]) | (with_reducible exact Lt.mono (by assumption) (by decide)) | (simp only [Cs.len]; done) | rfl) (by decide)) rfl ?_
    refine OpsFrom.v (Y.callV (w_fbytes _ (by first | (with_reducible assumption) | omega | (simp only [lens, fawake_it1_l, fof_l, sub_l, fbytes_l, ratio_l, load_l, *]; first | done | omega) | decide | (split <;> simp only [lens, fawake_it1_l, fof_l, sub_l, fbytes_l, ratio_l, load_l, *]) | (with_reducible exact Lt.mono (by assumption) (by decide)) | (simp only [Cs.len]; done) | rfl)) fnok19 (up1 rfl rfl rfl rfl rfl rfl) rfl rfl (.cons _ _ _ _ rfl .nil) (.cons _ _ _ _ (.same _) .nil) rfl rfl) rfl ?_
    refine OpsFrom.v (Y.buildA ty22 ty5 rfl (up1 rfl rfl rfl rfl rfl rfl) rfl (.cons _ _ _ _ _ _ (.one (.n .u8 2)) _ _ rfl rfl rfl rfl (Spl.n (by first | decide | (simp; done))) (.nil _))) rfl ?_
    refine OpsFrom.v (Doing.isB (c := true) (decide_eq_true (aw5)) (Y.eqR ty22 ty5 (by kernel_rfl) (up1 rfl rfl rfl rfl rfl rfl) rfl rfl rfl (by first | (with_reducible assumption) | omega | (simp only [lens, fawake_it1_l, fof_l, sub_l, fbytes_l, ratio_l, load_l, *]; first | done | omega) | decide | (split <;> simp only [lens, fawake_it1_l, fof_l, sub_l, fbytes_l, ratio_l, load_l, *]) | (with_reducible exact Lt.mono (by assumption) (by decide)) | (simp only [Cs.len]; done) | rfl) (by first | (with_reducible assumption) | omega | (simp only [lens, fawake_it1_l, fof_l, sub_l, fbytes_l, ratio_l, load_l, *]; first | done | omega) | decide | (split <;> simp only [lens, fawake_it1_l, fof_l, sub_l, fbytes_l, ratio_l, load_l, *]) | (with_reducible exact Lt.mono (by assumption) (by decide)) | (simp only [Cs.len]; done) | rfl))) rfl ?_
    refine OpsFrom.v (Y.pickT (up0 rfl rfl rfl) rfl rfl rfl) rfl ?_
    refine OpsFrom.v (Y.move (up0 rfl rfl rfl) rfl rfl) rfl ?_
    refine OpsFrom.v (Doing.isB (c := true) aw6 (Y.move (up1 rfl rfl rfl rfl rfl rfl) rfl rfl)) rfl ?_
    refine OpsFrom.v (Y.pickT (up0 rfl rfl rfl) rfl rfl rfl) rfl ?_
    refine OpsFrom.v (Y.move (up0 rfl rfl rfl) rfl rfl) rfl ?_
    refine OpsFrom.v (Y.move (up1 rfl rfl rfl rfl rfl rfl) rfl rfl) rfl ?_
    refine OpsFrom.v (Doing.isB (c := true) aw7 (Y.not (up1 rfl rfl rfl rfl rfl rfl) rfl rfl)) rfl ?_
    refine OpsFrom.v (Y.pickT (up0 rfl rfl rfl) rfl rfl rfl) rfl ?_
    refine OpsFrom.v (Y.move (up0 rfl rfl rfl) rfl rfl) rfl ?_
    refine OpsFrom.v (Y.callV (w_fof _ ) fnok37 (up1 rfl rfl rfl rfl rfl rfl) rfl rfl (.cons _ _ (.one (.n .u8 3)) _ rfl .nil) (.cons _ _ _ _ (.same _) .nil) rfl rfl) rfl ?_
    refine OpsFrom.v (Y.callV (w_fof _ ) fnok37 (up1 rfl rfl rfl rfl rfl rfl) rfl rfl (.cons _ _ (.one (.n .u8 3)) _ rfl .nil) (.cons _ _ _ _ (.same _) .nil) rfl rfl) rfl ?_
    refine OpsFrom.v (Doing.isB (c := true) aw8 (Y.callV (w_same _ _ (by first | (with_reducible assumption) | omega | (simp only [lens, fawake_it1_l, fof_l, sub_l, fbytes_l, ratio_l, load_l, *]; first | done | omega) | decide | (split <;> simp only [lens, fawake_it1_l, fof_l, sub_l, fbytes_l, ratio_l, load_l, *]) | (with_reducible exact Lt.mono (by assumption) (by decide)) | (simp only [Cs.len]; done) | rfl) (by first | (with_reducible assumption) | omega | (simp only [lens, fawake_it1_l, fof_l, sub_l, fbytes_l, ratio_l, load_l, *]; first | done | omega) | decide | (split <;> simp only [lens, fawake_it1_l, fof_l, sub_l, fbytes_l, ratio_l, load_l, *]) | (with_reducible exact Lt.mono (by assumption) (by decide)) | (simp only [Cs.len]; done) | rfl)) fnok21 (up1 rfl rfl rfl rfl rfl rfl) rfl rfl (.cons _ _ _ _ rfl (.cons _ _ _ _ rfl .nil)) (.cons _ _ _ _ (.same _) (.cons _ _ _ _ (.same _) .nil)) rfl rfl)) rfl ?_
    refine OpsFrom.v (Y.pickT (up0 rfl rfl rfl) rfl rfl rfl) rfl ?_
    refine OpsFrom.v (Y.move (up0 rfl rfl rfl) rfl rfl) rfl ?_
    refine OpsFrom.v (Y.callV (w_fof _ ) fnok37 (up1 rfl rfl rfl rfl rfl rfl) rfl rfl (.cons _ _ (.one (.n .u8 3)) _ rfl .nil) (.cons _ _ _ _ (.same _) .nil) rfl rfl) rfl ?_
    refine OpsFrom.v (Doing.isB (c := true) aw9 (Y.callV (w_odd _ (by first | (with_reducible assumption) | omega | (simp only [lens, fawake_it1_l, fof_l, sub_l, fbytes_l, ratio_l, load_l, *]; first | done | omega) | decide | (split <;> simp only [lens, fawake_it1_l, fof_l, sub_l, fbytes_l, ratio_l, load_l, *]) | (with_reducible exact Lt.mono (by assumption) (by decide)) | (simp only [Cs.len]; done) | rfl)) fnok20 (up1 rfl rfl rfl rfl rfl rfl) rfl rfl (.cons _ _ _ _ rfl .nil) (.cons _ _ _ _ (.same _) .nil) rfl rfl)) rfl ?_
    refine OpsFrom.v (Y.pickT (up0 rfl rfl rfl) rfl rfl rfl) rfl ?_
    refine OpsFrom.v (Y.move (up0 rfl rfl rfl) rfl rfl) rfl ?_
    refine OpsFrom.v (Y.callV (w_fof _ ) fnok37 (up1 rfl rfl rfl rfl rfl rfl) rfl rfl (.cons _ _ (.one (.n .u8 4)) _ rfl .nil) (.cons _ _ _ _ (.same _) .nil) rfl rfl) rfl ?_
    refine OpsFrom.v (Y.callV (w_odd _ (by first | (with_reducible assumption) | omega | (simp only [lens, fawake_it1_l, fof_l, sub_l, fbytes_l, ratio_l, load_l, *]; first | done | omega) | decide | (split <;> simp only [lens, fawake_it1_l, fof_l, sub_l, fbytes_l, ratio_l, load_l, *]) | (with_reducible exact Lt.mono (by assumption) (by decide)) | (simp only [Cs.len]; done) | rfl)) fnok20 (up1 rfl rfl rfl rfl rfl rfl) rfl rfl (.cons _ _ _ _ rfl .nil) (.cons _ _ _ _ (.same _) .nil) rfl rfl) rfl ?_
    refine OpsFrom.v (Doing.isB (c := true) aw10 (Y.not (up1 rfl rfl rfl rfl rfl rfl) rfl rfl)) rfl ?_
    refine OpsFrom.v (Y.pickT (up0 rfl rfl rfl) rfl rfl rfl) rfl ?_
    refine OpsFrom.v (Y.assign (up0 rfl rfl rfl) rfl rfl) rfl ?_
    refine OpsFrom.nil ?_
    refine Holds.ret ?_
    exact Holds.ret1 (.inl rfl) rfl (.tmp _ _ rfl) (.same _) rfl


end Go.Proofs.Ytnfiiclmbiiokaa
