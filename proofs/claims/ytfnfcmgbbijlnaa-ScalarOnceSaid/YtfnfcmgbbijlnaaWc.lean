/-
  Walks: the other modulo.
-/
import Derived.Test.YtfnfcmgbbijlnaaWb
namespace Go.Proofs.Ytfnfcmgbbijlnaa
open Go Go.Fx
set_option linter.unusedVariables false
def lbstep (x y : List Nat) (i : Nat) (s : List Nat × Nat) : List Nat × Nat :=
  let d : Int := (x.getD i 0 : Int) - (y.getD i 0 : Int) - (s.2 : Int)
  if d < 0 then (s.1.set i ((d + 256) % ((256 : Nat) : Int)).toNat, 1) else (s.1.set i (d % ((256 : Nat) : Int)).toNat, 0)
def lessB (x y : List Nat) : List Nat := (iter (lbstep x y) 32 (List.replicate 32 0, 0)).1
theorem lblen (x y : List Nat) (i : Nat) : (iter (lbstep x y) i (List.replicate 32 0, 0)).1.length = 32 := iter_inv (fun (s : List Nat × Nat) => s.1.length = 32) (by simp) (fun i s h => by simp only [lbstep]; split <;> simpa using h) i
theorem lble (x y : List Nat) (i : Nat) : (iter (lbstep x y) i (List.replicate 32 0, 0)).2 ≤ 1 := iter_inv (fun (s : List Nat × Nat) => s.2 ≤ 1) (by simp) (fun i s _ => by simp only [lbstep]; split <;> simp) i
theorem lb_pos {x y : List Nat} {i : Nat} {s : List Nat × Nat} (h : ((x.getD i 0 : Int) - (y.getD i 0 : Int) - (s.2 : Int)) < 0) : lbstep x y i s = (s.1.set i (((x.getD i 0 : Int) - (y.getD i 0 : Int) - (s.2 : Int) + 256) % ((256 : Nat) : Int)).toNat, 1) := by
  simp only [lbstep]; rw [if_pos h]
theorem lb_neg {x y : List Nat} {i : Nat} {s : List Nat × Nat} (h : ¬ ((x.getD i 0 : Int) - (y.getD i 0 : Int) - (s.2 : Int)) < 0) : lbstep x y i s = (s.1.set i (((x.getD i 0 : Int) - (y.getD i 0 : Int) - (s.2 : Int)) % ((256 : Nat) : Int)).toNat, 0) := by
  simp only [lbstep]; rw [if_neg h]
theorem twice_len (x : List Nat) (b : Nat) : (twice x b).length = 32 := twlen x b 32
theorem lessB_len (x y : List Nat) : (lessB x y).length = 32 := lblen x y 32
theorem twice_lt (x : List Nat) (b : Nat) : Lt 256 (twice x b) :=
  iter_inv (fun (s : List Nat × Nat) => Lt 256 s.1) (Lt.replicate (by decide)) (fun i s h => h.set (Nat.mod_lt _ (by decide))) 32
theorem lessB_lt (x y : List Nat) : Lt 256 (lessB x y) :=
  iter_inv (fun (s : List Nat × Nat) => Lt 256 s.1) (Lt.replicate (by decide)) (fun i s h => by
    simp only [lbstep]
    split <;> exact h.set (by omega)) 32
theorem orderB_lt : Lt 256 orderB := Lt.of_mem (by decide) (by decide)
def mbit (xs : List Nat) (i : Nat) : Nat := xs.getD (i / 8) 0 / 2 ^ (i % 8 % 18446744073709551616) &&& 1
def mbstep (xs : List Nat) (k : Nat) (r : List Nat) : List Nat :=
  let r1 := twice r (mbit xs (8 * xs.length - 1 - k))
  if val 256 r1 < val 256 orderB then r1 else lessB r1 orderB
def moduloB (xs : List Nat) : List Nat := iter (mbstep xs) (8 * xs.length) (List.replicate 32 0)
theorem mblen (xs : List Nat) (k : Nat) : (iter (mbstep xs) k (List.replicate 32 0)).length = 32 := iter_inv (fun (s : List Nat) => s.length = 32) (by simp) (fun i s _ => by
  simp only [mbstep]; split
  · exact twice_len _ _
  · exact lessB_len _ _) k
theorem mb_f {p : Prop} [Decidable p] (h : (!decide p) = true) : ¬ p := by simpa using h
theorem mb_lt {xs r : List Nat} {k b : Nat} (hb : b = mbit xs (8 * xs.length - 1 - k)) (h : val 256 (twice r b) < val 256 orderB) : twice r b = mbstep xs k r := by
  subst hb; simp only [mbstep]; rw [if_pos h]
theorem mb_ge {xs r : List Nat} {k b : Nat} (hb : b = mbit xs (8 * xs.length - 1 - k)) (h : ¬ val 256 (twice r b) < val 256 orderB) : lessB (twice r b) orderB = mbstep xs k r := by
  subst hb; simp only [mbstep]; rw [if_neg h]
theorem mb_t {p : Prop} [Decidable p] (h : (!decide p) = false) : p := by simpa using h
theorem w28 (x y : List Nat) (hx : x.length = 32) (hy : y.length = 32) (bx : Lt 256 x) (bY : Lt 256 y) : VC Try.prog 28 [.row (.ints .u8 x), .row (.ints .u8 y)] (.row (.ints .u8 (lessB x y))) := by
  refine VC.go Try.func28 rfl Try.ntmps28 rfl rfl fun O w => ?_
  refine Holds.seq ?_
  refine Holds.reg ?_
  refine OpsFrom.u (Y.boxR (d := 2) (up0 rfl rfl rfl) rfl rfl rfl) rfl rfl rfl ?_
  refine OpsFrom.u (Y.boxR (d := 3) (up0 rfl rfl rfl) rfl rfl rfl) rfl rfl rfl ?_
  refine OpsFrom.u (Y.alloc (d := 4) ty23 rfl rfl (up0 rfl rfl rfl) rfl) rfl rfl rfl ?_
  refine OpsFrom.nil ?_
  refine Holds.seq ?_
  refine Holds.reg ?_
  refine OpsFrom.v (Y.buildA ty23 ty5 rfl (up0 rfl rfl rfl) rfl (.nil _)) rfl ?_
  refine OpsFrom.u (Y.alloc (d := 5) ty23 rfl rfl (up0 rfl rfl rfl) rfl) rfl rfl rfl ?_
  refine OpsFrom.n (Y.stR ty23 (upN rfl rfl) rfl rfl rfl rfl rfl (by first | (with_reducible assumption) | omega | (simp only [*]; done) | (simp only [*]; omega) | (simp only [lens, *]; done) | (simp only [lens, *]; omega)) (by first | (with_reducible assumption) | omega | (simp only [*]; done) | (simp only [*]; omega) | (simp only [lens, *]; done) | (simp only [lens, *]; omega)) (by decide)) rfl rfl ?_
  refine OpsFrom.nil ?_
  refine Holds.seq ?_
  refine Holds.reg ?_
  refine OpsFrom.v (Y.assign (v := (.one (.n .i64 0))) (up0 rfl rfl rfl) rfl rfl) rfl ?_
  refine OpsFrom.nil ?_
  refine Holds.seq ?_
  refine Holds.seq ?_
  refine Holds.reg ?_
  refine OpsFrom.v (Y.assign (v := (.one (.n .i64 0))) (up0 rfl rfl rfl) rfl rfl) rfl ?_
  refine OpsFrom.nil ?_
  refine Holds.block ?_
  refine Holds.loop (fun (i : Nat) => ⟨[(7, .one (.n .i64 i)), (2, .one (.p 2 0)), (3, .one (.p 3 0)), (4, .one (.p 4 0)), (5, .one (.p 5 0)), (6, .one (.n .i64 (iter (lbstep x y) i (List.replicate 32 0, 0)).2))], [(2, .own (.ints .u8 x)), (3, .own (.ints .u8 y)), (4, .own (.ints .u8 (List.replicate 32 0))), (5, .own (.ints .u8 (iter (lbstep x y) i (List.replicate 32 0, 0)).1))]⟩) (fun (i : Nat) => i ≤ 32) (fun (i : Nat) => 32 - i) 0 (by omega) [] ⟨⟨rfl, rfl, rfl, rfl, rfl, rfl, trivial⟩, ⟨rfl, rfl, rfl, rfl, trivial⟩, rfl, rfl⟩ ?_
  intro i hok
  have hl := lblen x y i
  have hle := lble x y i
  have hbx := bx i
  have hbY := bY i
  refine Holds.seq ?_
  refine Holds.seq ?_
  refine Holds.reg ?_
  refine OpsFrom.v (Y.move (up0 rfl rfl rfl) rfl rfl) rfl ?_
  refine OpsFrom.v (Y.lss (b := 32) (up0 rfl rfl rfl) rfl rfl rfl) rfl ?_
  refine OpsFrom.nil ?_
  refine Holds.condD rfl (fun h11 => ?_) (fun h11 => ?_)
  · refine Holds.skip ?_
    refine Holds.seq ?_
    refine Holds.block ?_
    refine Holds.seq ?_
    refine Holds.dr mx [([14], [18, 19, 20, 21, 23]), ([15], [18, 19, 20, 21, 23]), ([16], [18, 19, 20, 21, 23]), ([17], [18, 19, 20, 21, 23]), ([18], [14, 15, 16, 17, 23]), ([19], [14, 15, 16, 17, 23]), ([20], [14, 15, 16, 17, 23]), ([21], [14, 15, 16, 17, 23]), ([22], [23]), ([23], [14, 15, 16, 17, 18, 19, 20, 21, 22]), ([24], []), ([8], [])] (by kernel_rfl) ?_
    refine CertK.vd (Y.move (up0 rfl rfl rfl) rfl rfl) rfl rfl ?_
    refine CertK.vd (Y.ia0 ty23 ty5 (up0 rfl rfl rfl) rfl rfl rfl (by omega)) rfl rfl ?_
    refine CertK.vd (Y.ldI ty5 rfl (up0 rfl rfl rfl) rfl rfl rfl (by first | (with_reducible assumption) | omega | (simp only [*]; done) | (simp only [*]; omega) | (simp only [lens, *]; done) | (simp only [lens, *]; omega))) rfl rfl ?_
    refine CertK.vd (Y.convUpI ty5.u ty3.u rfl (by decide) (up0 rfl rfl rfl) rfl rfl) rfl rfl ?_
    refine CertK.vd (Y.move (up0 rfl rfl rfl) rfl rfl) rfl rfl ?_
    refine CertK.vd (Y.ia0 ty23 ty5 (up0 rfl rfl rfl) rfl rfl rfl (by omega)) rfl rfl ?_
    refine CertK.vd (Y.ldI ty5 rfl (up0 rfl rfl rfl) rfl rfl rfl (by first | (with_reducible assumption) | omega | (simp only [*]; done) | (simp only [*]; omega) | (simp only [lens, *]; done) | (simp only [lens, *]; omega))) rfl rfl ?_
    refine CertK.vd (Y.convUpI ty5.u ty3.u rfl (by decide) (up0 rfl rfl rfl) rfl rfl) rfl rfl ?_
    refine CertK.vd (Y.subZ (up0 rfl rfl rfl) rfl rfl rfl rfl rfl (by omega) (by omega)) rfl rfl ?_
    refine CertK.vd (Y.move (up0 rfl rfl rfl) rfl rfl) rfl rfl ?_
    refine CertK.v (Y.subZ (up0 rfl rfl rfl) rfl rfl rfl rfl rfl (by omega) (by omega)) rfl ?_
    refine CertK.v (Y.assign (up0 rfl rfl rfl) rfl rfl) rfl ?_
    refine CertK.nil ?_
    refine Holds.seq ?_
    refine Holds.reg ?_
    refine OpsFrom.v (Y.assign (v := (.one (.n .i64 0))) (up0 rfl rfl rfl) rfl rfl) rfl ?_
    refine OpsFrom.nil ?_
    refine Holds.seq ?_
    refine Holds.seq ?_
    refine Holds.reg ?_
    refine OpsFrom.v (Y.move (up0 rfl rfl rfl) rfl rfl) rfl ?_
    refine OpsFrom.v (Y.lssZ (b := 0) (up0 rfl rfl rfl) rfl rfl rfl rfl rfl) rfl ?_
    refine OpsFrom.nil ?_
    refine Holds.condD rfl (fun h26 => ?_) (fun h26 => ?_)
    · refine Holds.seq ?_
      refine Holds.reg ?_
      refine OpsFrom.v (Y.move (up0 rfl rfl rfl) rfl rfl) rfl ?_
      refine OpsFrom.v (Y.addZ (b := 256) (up0 rfl rfl rfl) rfl rfl rfl rfl rfl (by omega) (by omega)) rfl ?_
      refine OpsFrom.v (Y.assign (up0 rfl rfl rfl) rfl rfl) rfl ?_
      refine OpsFrom.nil ?_
      refine Holds.reg ?_
      refine OpsFrom.v (Y.assign (v := (.one (.n .i64 1))) (up0 rfl rfl rfl) rfl rfl) rfl ?_
      refine OpsFrom.nil ?_
      refine Holds.reg ?_
      refine OpsFrom.v (Y.move (up0 rfl rfl rfl) rfl rfl) rfl ?_
      refine OpsFrom.v (Y.move (up0 rfl rfl rfl) rfl rfl) rfl ?_
      refine OpsFrom.v (Y.convZ ty3.u ty5.u u8s u8m (up0 rfl rfl rfl) rfl rfl) rfl ?_
      refine OpsFrom.v (Y.ia0 ty23 ty5 (up0 rfl rfl rfl) rfl rfl rfl (by omega)) rfl ?_
      refine OpsFrom.n (Y.stI ty5 (upN rfl rfl) rfl rfl rfl rfl (by first | (with_reducible assumption) | omega | (simp only [*]; done) | (simp only [*]; omega) | (simp only [lens, *]; done) | (simp only [lens, *]; omega))) rfl rfl ?_
      refine OpsFrom.nil ?_
      refine Holds.reg ?_
      refine OpsFrom.v (Y.move (up0 rfl rfl rfl) rfl rfl) rfl ?_
      refine OpsFrom.v (Y.addI (b := 1) (up0 rfl rfl rfl) rfl rfl rfl (by omega)) rfl ?_
      refine OpsFrom.v (Y.assign (up0 rfl rfl rfl) rfl rfl) rfl ?_
      refine OpsFrom.nil ?_
      exact Holds.again (i + 1) (by omega) (by omega) [] ⟨⟨rfl, rfl, rfl, rfl, rfl, (nEq (by rw [iterS]; first | rw [lb_pos h26] | rw [lb_neg h26])), trivial⟩, ⟨rfl, rfl, rfl, (hEq (by rw [iterS]; first | rw [lb_pos h26] | rw [lb_neg h26])), trivial⟩, rfl, rfl⟩
    · refine Holds.skip ?_
      refine Holds.reg ?_
      refine OpsFrom.v (Y.move (up0 rfl rfl rfl) rfl rfl) rfl ?_
      refine OpsFrom.v (Y.move (up0 rfl rfl rfl) rfl rfl) rfl ?_
      refine OpsFrom.v (Y.convZ ty3.u ty5.u u8s u8m (up0 rfl rfl rfl) rfl rfl) rfl ?_
      refine OpsFrom.v (Y.ia0 ty23 ty5 (up0 rfl rfl rfl) rfl rfl rfl (by omega)) rfl ?_
      refine OpsFrom.n (Y.stI ty5 (upN rfl rfl) rfl rfl rfl rfl (by first | (with_reducible assumption) | omega | (simp only [*]; done) | (simp only [*]; omega) | (simp only [lens, *]; done) | (simp only [lens, *]; omega))) rfl rfl ?_
      refine OpsFrom.nil ?_
      refine Holds.reg ?_
      refine OpsFrom.v (Y.move (up0 rfl rfl rfl) rfl rfl) rfl ?_
      refine OpsFrom.v (Y.addI (b := 1) (up0 rfl rfl rfl) rfl rfl rfl (by omega)) rfl ?_
      refine OpsFrom.v (Y.assign (up0 rfl rfl rfl) rfl rfl) rfl ?_
      refine OpsFrom.nil ?_
      exact Holds.again (i + 1) (by omega) (by omega) [] ⟨⟨rfl, rfl, rfl, rfl, rfl, (nEq (by rw [iterS]; first | rw [lb_pos h26] | rw [lb_neg h26])), trivial⟩, ⟨rfl, rfl, rfl, (hEq (by rw [iterS]; first | rw [lb_pos h26] | rw [lb_neg h26])), trivial⟩, rfl, rfl⟩
  · obtain rfl : i = 32 := by omega
    refine Holds.exit ?_
    refine Holds.seq ?_
    refine Holds.reg ?_
    refine OpsFrom.v (Y.ldAll ty23 rfl (up0 rfl rfl rfl) rfl rfl rfl (by first | (with_reducible assumption) | omega | (simp only [*]; done) | (simp only [*]; omega) | (simp only [lens, *]; done) | (simp only [lens, *]; omega)) (by decide)) rfl ?_
    refine OpsFrom.n (Y.stR ty23 (upN rfl rfl) rfl rfl rfl rfl rfl (by first | (with_reducible assumption) | omega | (simp only [*]; done) | (simp only [*]; omega) | (simp only [lens, *]; done) | (simp only [lens, *]; omega)) (by first | (with_reducible assumption) | omega | (simp only [*]; done) | (simp only [*]; omega) | (simp only [lens, *]; done) | (simp only [lens, *]; omega)) (by decide)) rfl rfl ?_
    refine OpsFrom.nil ?_
    refine Holds.ret ?_
    exact Holds.ret1 (.inl rfl) rfl (.rowN rfl rfl ty23 rfl (by first | (with_reducible assumption) | omega | (simp only [*]; done) | (simp only [*]; omega) | (simp only [lens, *]; done) | (simp only [lens, *]; omega)) (by decide)) (.same _) rfl
theorem w21 (xs : List Nat) (hx : xs.length < 4294967296) : VC Try.prog 21 [.one (.bs false .u8 xs)] (.row (.ints .u8 (moduloB xs))) := by
  refine VC.go Try.func21 rfl Try.ntmps21 rfl rfl fun O w => ?_
  refine Holds.seq ?_
  refine Holds.reg ?_
  refine OpsFrom.u (Y.alloc (d := 2) ty23 rfl rfl (up0 rfl rfl rfl) rfl) rfl rfl rfl ?_
  refine OpsFrom.nil ?_
  refine Holds.seq ?_
  refine Holds.reg ?_
  refine OpsFrom.v (Y.buildA ty23 ty5 rfl (up0 rfl rfl rfl) rfl (.nil _)) rfl ?_
  refine OpsFrom.u (Y.alloc (d := 3) ty23 rfl rfl (up0 rfl rfl rfl) rfl) rfl rfl rfl ?_
  refine OpsFrom.n (Y.stR ty23 (upN rfl rfl) rfl rfl rfl rfl rfl (by first | (with_reducible assumption) | omega | (simp only [*]; done) | (simp only [*]; omega) | (simp only [lens, *]; done) | (simp only [lens, *]; omega)) (by first | (with_reducible assumption) | omega | (simp only [*]; done) | (simp only [*]; omega) | (simp only [lens, *]; done) | (simp only [lens, *]; omega)) (by decide)) rfl rfl ?_
  refine OpsFrom.nil ?_
  refine Holds.seq ?_
  refine Holds.seq ?_
  refine Holds.reg ?_
  refine OpsFrom.v (Y.move (up0 rfl rfl rfl) rfl rfl) rfl ?_
  refine OpsFrom.v (Y.len ty42 (up0 rfl rfl rfl) rfl rfl rfl rfl) rfl ?_
  refine OpsFrom.v (Y.mulI (a := 8) (up0 rfl rfl rfl) rfl rfl rfl (by omega)) rfl ?_
  refine OpsFrom.v (Y.subZ (b := 1) (up0 rfl rfl rfl) rfl rfl rfl rfl rfl (by omega) (by omega)) rfl ?_
  refine OpsFrom.v (Y.assign (up0 rfl rfl rfl) rfl rfl) rfl ?_
  refine OpsFrom.nil ?_
  refine Holds.block ?_
  refine Holds.loop (fun (k : Nat) => ⟨[(4, .one (.z (((8 * xs.length : Nat) : Int) - 1 - (k : Int)))), (0, .one (.bs false .u8 xs)), (2, .one (.p 2 0)), (3, .one (.p 3 0))], [(2, .own (.ints .u8 (List.replicate 32 0))), (3, .own (.ints .u8 (iter (mbstep xs) k (List.replicate 32 0))))]⟩) (fun (k : Nat) => k ≤ 8 * xs.length) (fun (k : Nat) => 8 * xs.length - k) 0 (by omega) [] ⟨⟨(zEq (by omega)), rfl, rfl, rfl, trivial⟩, ⟨rfl, (hEq (iter0 _ _).symm), trivial⟩, rfl, rfl⟩ ?_
  intro k hok
  have hl := mblen xs k
  have htl := twice_len
  have hll := lessB_len
  refine Holds.seq ?_
  refine Holds.seq ?_
  refine Holds.reg ?_
  refine OpsFrom.v (Y.move (up0 rfl rfl rfl) rfl rfl) rfl ?_
  refine OpsFrom.v (Y.geqZ (b := 0) (up0 rfl rfl rfl) rfl rfl rfl rfl rfl) rfl ?_
  refine OpsFrom.nil ?_
  refine Holds.condD rfl (fun h11 => ?_) (fun h11 => ?_)
  · refine Holds.nat 4 rfl (8 * xs.length - 1 - k) (by omega) ?_
    refine Holds.skip ?_
    refine Holds.seq ?_
    refine Holds.block ?_
    refine Holds.seq ?_
    refine Holds.dr mx [([14], [15, 16, 17, 18, 19, 20, 21, 22, 23, 24]), ([15], [14, 16, 17, 20, 21, 22]), ([16], [14, 15, 20, 21, 22]), ([17], [14, 15, 20, 21, 22]), ([18], [14, 20, 21, 22]), ([19], [14, 20, 21, 22]), ([20], [14, 15, 16, 17, 18, 19]), ([21], [14, 15, 16, 17, 18, 19]), ([22], [14, 15, 16, 17, 18, 19]), ([23], [14]), ([24], [14]), ([25], []), ([3], [])] (by kernel_rfl) ?_
    refine CertK.vd (Y.ldAll ty23 rfl (up0 rfl rfl rfl) rfl rfl rfl (by first | (with_reducible assumption) | omega | (simp only [*]; done) | (simp only [*]; omega) | (simp only [lens, *]; done) | (simp only [lens, *]; omega)) (by decide)) rfl rfl ?_
    refine CertK.vd (Y.move (up0 rfl rfl rfl) rfl rfl) rfl rfl ?_
    refine CertK.vd (Y.move (up0 rfl rfl rfl) rfl rfl) rfl rfl ?_
    refine CertK.vd (Y.quoI (b := 8) (up0 rfl rfl rfl) rfl rfl rfl (by omega) (by decide)) rfl rfl ?_
    refine CertK.vd (Y.iaBs ty42 ty5 (up0 rfl rfl rfl) rfl rfl rfl (by omega)) rfl rfl ?_
    refine CertK.vd (Y.ldPc ty5 rfl (up0 rfl rfl rfl) rfl rfl) rfl rfl ?_
    refine CertK.vd (Y.move (up0 rfl rfl rfl) rfl rfl) rfl rfl ?_
    refine CertK.vd (Y.rem (b := 8) (up0 rfl rfl rfl) rfl rfl rfl (by decide)) rfl rfl ?_
    refine CertK.vd (Y.conv ty3.u ty53.u u64s u64m (up0 rfl rfl rfl) rfl rfl) rfl rfl ?_
    refine CertK.vd (Y.shr u8s u8m (up0 rfl rfl rfl) rfl rfl rfl) rfl rfl ?_
    refine CertK.vd (Y.and (b := 1) u8s u8m (up0 rfl rfl rfl) rfl rfl rfl) rfl rfl ?_
    refine CertK.v (Y.callV (w27 _ _ (by first | (with_reducible assumption) | omega | (simp only [*]; done) | (simp only [*]; omega) | (simp only [lens, *]; done) | (simp only [lens, *]; omega))) fnok27 (up0 rfl rfl rfl) rfl rfl (.cons _ _ _ _ rfl (.cons _ _ _ _ rfl .nil)) (.cons _ _ _ _ (.same _) (.cons _ _ _ _ (.same _) .nil)) rfl rfl) rfl ?_
    refine CertK.n (Y.stR ty23 (upN rfl rfl) rfl rfl rfl rfl rfl (by first | (with_reducible assumption) | omega | (simp only [*]; done) | (simp only [*]; omega) | (simp only [lens, *]; done) | (simp only [lens, *]; omega)) (by first | (with_reducible assumption) | omega | (simp only [*]; done) | (simp only [*]; omega) | (simp only [lens, *]; done) | (simp only [lens, *]; omega)) (by decide)) rfl rfl rfl rfl ?_
    refine CertK.nil ?_
    refine Holds.seq ?_
    refine Holds.dr mx [([26], [27]), ([27], [26]), ([28], []), ([29], [])] (by kernel_rfl) ?_
    refine CertK.vd (Y.ldAll ty23 rfl (up0 rfl rfl rfl) rfl rfl rfl (by first | (with_reducible assumption) | omega | (simp only [*]; done) | (simp only [*]; omega) | (simp only [lens, *]; done) | (simp only [lens, *]; omega)) (by decide)) rfl rfl ?_
    refine CertK.vd (Y.callV w15 fnok15 (up0 rfl rfl rfl) rfl rfl .nil .nil rfl rfl) rfl rfl ?_
    refine CertK.v (Y.callV (w26 _ _ (by first | (with_reducible assumption) | omega | (simp only [*]; done) | (simp only [*]; omega) | (simp only [lens, *]; done) | (simp only [lens, *]; omega)) rfl (twice_lt _ _) orderB_lt) fnok26 (up0 rfl rfl rfl) rfl rfl (.cons _ _ _ _ rfl (.cons _ _ _ _ rfl .nil)) (.cons _ _ _ _ (.same _) (.cons _ _ _ _ (.same _) .nil)) rfl rfl) rfl ?_
    refine CertK.v (Y.not (up0 rfl rfl rfl) rfl rfl) rfl ?_
    refine CertK.nil ?_
    refine Holds.cond _ rfl (fun h29t => ?_) (fun h29f => ?_)
    · refine Holds.dr mx [([30], [31]), ([31], [30]), ([32], []), ([3], [])] (by kernel_rfl) ?_
      refine CertK.vd (Y.ldAll ty23 rfl (up0 rfl rfl rfl) rfl rfl rfl (by first | (with_reducible assumption) | omega | (simp only [*]; done) | (simp only [*]; omega) | (simp only [lens, *]; done) | (simp only [lens, *]; omega)) (by decide)) rfl rfl ?_
      refine CertK.vd (Y.callV w15 fnok15 (up0 rfl rfl rfl) rfl rfl .nil .nil rfl rfl) rfl rfl ?_
      refine CertK.v (Y.callV (w28 _ _ (by first | (with_reducible assumption) | omega | (simp only [*]; done) | (simp only [*]; omega) | (simp only [lens, *]; done) | (simp only [lens, *]; omega)) rfl (twice_lt _ _) orderB_lt) fnok28 (up0 rfl rfl rfl) rfl rfl (.cons _ _ _ _ rfl (.cons _ _ _ _ rfl .nil)) (.cons _ _ _ _ (.same _) (.cons _ _ _ _ (.same _) .nil)) rfl rfl) rfl ?_
      refine CertK.n (Y.stR ty23 (upN rfl rfl) rfl rfl rfl rfl rfl (by first | (with_reducible assumption) | omega | (simp only [*]; done) | (simp only [*]; omega) | (simp only [lens, *]; done) | (simp only [lens, *]; omega)) (by first | (with_reducible assumption) | omega | (simp only [*]; done) | (simp only [*]; omega) | (simp only [lens, *]; done) | (simp only [lens, *]; omega)) (by decide)) rfl rfl rfl rfl ?_
      refine CertK.nil ?_
      refine Holds.reg ?_
      refine OpsFrom.v (Y.move (up0 rfl rfl rfl) rfl rfl) rfl ?_
      refine OpsFrom.v (Y.subZ (b := 1) (up0 rfl rfl rfl) rfl rfl rfl rfl rfl (by omega) (by omega)) rfl ?_
      refine OpsFrom.v (Y.assign (up0 rfl rfl rfl) rfl rfl) rfl ?_
      refine OpsFrom.nil ?_
      exact Holds.again (k + 1) (by omega) (by omega) [] ⟨⟨(zEq (by omega)), rfl, rfl, rfl, trivial⟩, ⟨rfl, (hEq (by rw [iterS]; first | (have q := mb_f h29t; exact mb_ge rfl q) | (have q := mb_t h29f; exact mb_lt rfl q))), trivial⟩, rfl, rfl⟩
    · refine Holds.skip ?_
      refine Holds.reg ?_
      refine OpsFrom.v (Y.move (up0 rfl rfl rfl) rfl rfl) rfl ?_
      refine OpsFrom.v (Y.subZ (b := 1) (up0 rfl rfl rfl) rfl rfl rfl rfl rfl (by omega) (by omega)) rfl ?_
      refine OpsFrom.v (Y.assign (up0 rfl rfl rfl) rfl rfl) rfl ?_
      refine OpsFrom.nil ?_
      exact Holds.again (k + 1) (by omega) (by omega) [] ⟨⟨(zEq (by omega)), rfl, rfl, rfl, trivial⟩, ⟨rfl, (hEq (by rw [iterS]; first | (have q := mb_f h29t; exact mb_ge rfl q) | (have q := mb_t h29f; exact mb_lt rfl q))), trivial⟩, rfl, rfl⟩
  · obtain rfl : k = 8 * xs.length := by omega
    refine Holds.exit ?_
    refine Holds.seq ?_
    refine Holds.reg ?_
    refine OpsFrom.v (Y.ldAll ty23 rfl (up0 rfl rfl rfl) rfl rfl rfl (by first | (with_reducible assumption) | omega | (simp only [*]; done) | (simp only [*]; omega) | (simp only [lens, *]; done) | (simp only [lens, *]; omega)) (by decide)) rfl ?_
    refine OpsFrom.n (Y.stR ty23 (upN rfl rfl) rfl rfl rfl rfl rfl (by first | (with_reducible assumption) | omega | (simp only [*]; done) | (simp only [*]; omega) | (simp only [lens, *]; done) | (simp only [lens, *]; omega)) (by first | (with_reducible assumption) | omega | (simp only [*]; done) | (simp only [*]; omega) | (simp only [lens, *]; done) | (simp only [lens, *]; omega)) (by decide)) rfl rfl ?_
    refine OpsFrom.nil ?_
    refine Holds.ret ?_
    exact Holds.ret1 (.inl rfl) rfl (.rowN rfl rfl ty23 rfl (by first | (with_reducible assumption) | omega | (simp only [*]; done) | (simp only [*]; omega) | (simp only [lens, *]; done) | (simp only [lens, *]; omega)) (by decide)) (.same _) rfl

end Go.Proofs.Ytfnfcmgbbijlnaa
