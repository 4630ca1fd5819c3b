/-
  Walks: modulo.
-/
import Derived.Test.YtfnfcmgbbijlnaaWe
namespace Go.Proofs.Ytfnfcmgbbijlnaa
open Go Go.Fx
set_option linter.unusedVariables false
/-- One place up, a bit below. -/
def shstep (j : Nat) (s : List Nat × Nat) : List Nat × Nat := (s.1.set j (s.1.getD j 0 * 2 ^ 1 % 18446744073709551616 ||| s.2), s.1.getD j 0 / 2 ^ 63)
def shl1 (r : List Nat) (b : Nat) : List Nat × Nat := iter shstep 4 (r, b)
theorem shlen (r : List Nat) (b j : Nat) (h : r.length = 4) : (iter shstep j (r, b)).1.length = 4 := iter_inv (fun (s : List Nat × Nat) => s.1.length = 4) h (fun i s h => by simpa [shstep] using h) j
theorem lessS_len (x y : List Nat) : (lessS x y).1.length = 4 := lslen x y 4
def sbit (ws : List Nat) (i : Nat) : Nat := ws.getD (i / 64) 0 / 2 ^ (i % 64) &&& 1
def msstep (ws : List Nat) (k : Nat) (r : List Nat) : List Nat :=
  let r1 := (shl1 r (sbit ws (64 * ws.length - 1 - k))).1
  if (lessS r1 order).2 = 0 then (lessS r1 order).1 else r1
def moduloS (ws : List Nat) : List Nat := iter (msstep ws) (64 * ws.length) (List.replicate 4 0)
theorem mslen (ws : List Nat) (k : Nat) : (iter (msstep ws) k (List.replicate 4 0)).length = 4 := iter_inv (fun (s : List Nat) => s.length = 4) (by simp) (fun i s h => by
  simp only [msstep]; split
  · exact lessS_len _ _
  · exact shlen _ _ 4 h) k
theorem ms_ge {ws r : List Nat} {k b : Nat} (hb : b = sbit ws (64 * ws.length - 1 - k)) (h : (lessS (shl1 r b).1 order).2 = 0) : (lessS (shl1 r b).1 order).1 = msstep ws k r := by
  subst hb; simp only [msstep]; rw [if_pos h]
theorem ms_lt {ws r : List Nat} {k b : Nat} (hb : b = sbit ws (64 * ws.length - 1 - k)) (h : ¬ (lessS (shl1 r b).1 order).2 = 0) : (shl1 r b).1 = msstep ws k r := by
  subst hb; simp only [msstep]; rw [if_neg h]
theorem w18 (ws : List Nat) (hx : ws.length < 67108864) : VC Try.prog 18 [.one (.bs false .u64 ws)] (.row (.ints .u64 (moduloS ws))) := by
  refine VC.go Try.func18 rfl Try.ntmps18 rfl rfl fun O w => ?_
  refine Holds.seq ?_
  refine Holds.reg ?_
  refine OpsFrom.u (Y.alloc (d := 2) ty38 rfl rfl (up0 rfl rfl rfl) rfl) rfl rfl rfl ?_
  refine OpsFrom.nil ?_
  refine Holds.scopeL 0 (fun (k : Nat) => ⟨[(4, .one (.z (((64 * ws.length : Nat) : Int) - 1 - (k : Int)))), (0, .one (.bs false .u64 ws)), (2, .one (.p 2 0)), (3, .one (.p 3 0))], [(2, .own (.ints .u64 (iter (msstep ws) k (List.replicate 4 0)))), (3, .own (.ints .u64 order))]⟩) (fun (k : Nat) => k ≤ 64 * ws.length) (fun (k : Nat) => 64 * ws.length - k) rfl (fun k hok => ?_) (fun again => ?_)
  · have hl := mslen ws k
    have hll := lessS_len
    refine Holds.seq ?_
    refine Holds.seq ?_
    refine Holds.reg ?_
    refine OpsFrom.v (Y.move (up0 rfl rfl rfl) rfl rfl) rfl ?_
    refine OpsFrom.v (Y.lssZ (b := 0) (up0 rfl rfl rfl) rfl rfl rfl rfl rfl) rfl ?_
    refine OpsFrom.nil ?_
    refine Holds.condD rfl (fun h15 => ?_) (fun h15 => ?_)
    · obtain rfl : k = 64 * ws.length := by omega
      refine Holds.seq ?_
      refine Holds.reg ?_
      refine OpsFrom.v (Y.ldAll ty38 rfl (up0 rfl rfl rfl) rfl rfl rfl (by first | (with_reducible assumption) | omega | (simp only [*]; done) | (simp only [*]; omega) | (simp only [lens, *]; done) | (simp only [lens, *]; omega)) (by decide)) rfl ?_
      refine OpsFrom.n (Y.stR ty38 (upN rfl rfl) rfl rfl rfl rfl rfl (by first | (with_reducible assumption) | omega | (simp only [*]; done) | (simp only [*]; omega) | (simp only [lens, *]; done) | (simp only [lens, *]; omega)) (by first | (with_reducible assumption) | omega | (simp only [*]; done) | (simp only [*]; omega) | (simp only [lens, *]; done) | (simp only [lens, *]; omega)) (by decide)) rfl rfl ?_
      refine OpsFrom.nil ?_
      refine Holds.ret ?_
      exact Holds.ret1 (.inl rfl) rfl (.rowN rfl rfl ty38 rfl (by first | (with_reducible assumption) | omega | (simp only [*]; done) | (simp only [*]; omega) | (simp only [lens, *]; done) | (simp only [lens, *]; omega)) (by decide)) (.same _) rfl
    · refine Holds.nat 4 rfl (64 * ws.length - 1 - k) (by omega) ?_
      refine Holds.skip ?_
      refine Holds.seq ?_
      refine Holds.reg ?_
      refine OpsFrom.v (Y.move (up0 rfl rfl rfl) rfl rfl) rfl ?_
      refine OpsFrom.v (Y.move (up0 rfl rfl rfl) rfl rfl) rfl ?_
      refine OpsFrom.v (Y.quoI (b := 64) (up0 rfl rfl rfl) rfl rfl rfl (by omega) (by decide)) rfl ?_
      refine OpsFrom.v (Y.iaBs ty40 ty35 (up0 rfl rfl rfl) rfl rfl rfl (by omega)) rfl ?_
      refine OpsFrom.v (Y.ldPc ty35 rfl (up0 rfl rfl rfl) rfl rfl) rfl ?_
      refine OpsFrom.v (Y.move (up0 rfl rfl rfl) rfl rfl) rfl ?_
      refine OpsFrom.v (Y.rem (b := 64) (up0 rfl rfl rfl) rfl rfl rfl (by decide)) rfl ?_
      refine OpsFrom.v (Y.shr u64s u64m (up0 rfl rfl rfl) rfl rfl rfl) rfl ?_
      refine OpsFrom.v (Y.and (b := 1) u64s u64m (up0 rfl rfl rfl) rfl rfl rfl) rfl ?_
      refine OpsFrom.v (Y.assign (up0 rfl rfl rfl) rfl rfl) rfl ?_
      refine OpsFrom.nil ?_
      refine Holds.seq ?_
      refine Holds.seq ?_
      refine Holds.reg ?_
      refine OpsFrom.v (Y.move (v := (.one (.n .i64 0))) (up0 rfl rfl rfl) rfl rfl) rfl ?_
      refine OpsFrom.nil ?_
      refine Holds.block ?_
      refine Holds.loop (fun (j : Nat) => ⟨[(26, .one (.n .i64 j)), (4, .one (.n .i64 (64 * ws.length - 1 - k))), (0, .one (.bs false .u64 ws)), (2, .one (.p 2 0)), (3, .one (.p 3 0)), (5, .one (.n .u64 (iter shstep j (iter (msstep ws) k (List.replicate 4 0), (ws.getD ((64 * ws.length - 1 - k) / 64) 0 / 2 ^ ((64 * ws.length - 1 - k) % 64) &&& 1))).2))], [(2, .own (.ints .u64 (iter shstep j (iter (msstep ws) k (List.replicate 4 0), (ws.getD ((64 * ws.length - 1 - k) / 64) 0 / 2 ^ ((64 * ws.length - 1 - k) % 64) &&& 1))).1)), (3, .own (.ints .u64 order))]⟩) (fun (j : Nat) => j ≤ 4) (fun (j : Nat) => 4 - j) 0 (by omega) [] ⟨⟨rfl, rfl, rfl, rfl, rfl, rfl, trivial⟩, ⟨rfl, rfl, trivial⟩, rfl, rfl⟩ ?_
      intro j hok2
      have hl2 := shlen (iter (msstep ws) k (List.replicate 4 0)) (ws.getD ((64 * ws.length - 1 - k) / 64) 0 / 2 ^ ((64 * ws.length - 1 - k) % 64) &&& 1) j hl
      refine Holds.seq ?_
      refine Holds.reg ?_
      refine OpsFrom.v (Y.lss (b := 4) (up0 rfl rfl rfl) rfl rfl rfl) rfl ?_
      refine OpsFrom.nil ?_
      refine Holds.seq ?_
      refine Holds.condD rfl (fun h27 => ?_) (fun h27 => ?_)
      · refine Holds.skip ?_
        refine Holds.seq ?_
        refine Holds.block ?_
        refine Holds.seq ?_
        refine Holds.reg ?_
        refine OpsFrom.v (Y.move (up0 rfl rfl rfl) rfl rfl) rfl ?_
        refine OpsFrom.v (Y.assign (up0 rfl rfl rfl) rfl rfl) rfl ?_
        refine OpsFrom.nil ?_
        refine Holds.dr mx [([29], [30, 31, 32, 33, 34, 35, 36, 37, 38, 39]), ([30], [29, 34, 36, 37, 38, 39]), ([31], [29, 34, 36, 37, 38, 39]), ([32], [29, 34, 36, 37, 38, 39]), ([33], [29, 34, 36, 37, 38, 39]), ([34], [29, 30, 31, 32, 33, 36, 37, 38, 39]), ([35], [29, 36, 37, 38, 39]), ([36], [29, 30, 31, 32, 33, 34, 35]), ([37], [29, 30, 31, 32, 33, 34, 35]), ([38], [29, 30, 31, 32, 33, 34, 35]), ([39], [29, 30, 31, 32, 33, 34, 35, 40, 2]), ([40], [39]), ([2], [39]), ([5], [])] (by kernel_rfl) ?_
        refine CertK.vd (Y.move (up0 rfl rfl rfl) rfl rfl) rfl rfl ?_
        refine CertK.vd (Y.move (up0 rfl rfl rfl) rfl rfl) rfl rfl ?_
        refine CertK.vd (Y.ia0 ty38 ty35 (up0 rfl rfl rfl) rfl rfl rfl (by omega)) rfl rfl ?_
        refine CertK.vd (Y.ldI ty35 rfl (up0 rfl rfl rfl) rfl rfl rfl (by first | (with_reducible assumption) | omega | (simp only [*]; done) | (simp only [*]; omega) | (simp only [lens, *]; done) | (simp only [lens, *]; omega))) rfl rfl ?_
        refine CertK.vd (Y.shl (b := 1) u64s u64m (up0 rfl rfl rfl) rfl rfl rfl) rfl rfl ?_
        refine CertK.vd (Y.move (up0 rfl rfl rfl) rfl rfl) rfl rfl ?_
        refine CertK.vd (Y.or u64s u64m (up0 rfl rfl rfl) rfl rfl rfl) rfl rfl ?_
        refine CertK.vd (Y.move (up0 rfl rfl rfl) rfl rfl) rfl rfl ?_
        refine CertK.vd (Y.ia0 ty38 ty35 (up0 rfl rfl rfl) rfl rfl rfl (by omega)) rfl rfl ?_
        refine CertK.vd (Y.ldI ty35 rfl (up0 rfl rfl rfl) rfl rfl rfl (by first | (with_reducible assumption) | omega | (simp only [*]; done) | (simp only [*]; omega) | (simp only [lens, *]; done) | (simp only [lens, *]; omega))) rfl rfl ?_
        refine CertK.vd (Y.shr (b := 63) u64s u64m (up0 rfl rfl rfl) rfl rfl rfl) rfl rfl ?_
        refine CertK.vd (Y.ia0 ty38 ty35 (up0 rfl rfl rfl) rfl rfl rfl (by omega)) rfl rfl ?_
        refine CertK.n (Y.stI ty35 (upN rfl rfl) rfl rfl rfl rfl (by first | (with_reducible assumption) | omega | (simp only [*]; done) | (simp only [*]; omega) | (simp only [lens, *]; done) | (simp only [lens, *]; omega))) rfl rfl rfl rfl ?_
        refine CertK.v (Y.assign (up0 rfl rfl rfl) rfl rfl) rfl ?_
        refine CertK.nil ?_
        refine Holds.reg ?_
        refine OpsFrom.v (Y.addI (b := 1) (up0 rfl rfl rfl) rfl rfl rfl (by omega)) rfl ?_
        refine OpsFrom.v (Y.move (up0 rfl rfl rfl) rfl rfl) rfl ?_
        refine OpsFrom.nil ?_
        exact Holds.again (j + 1) (by omega) (by omega) [] ⟨⟨rfl, rfl, rfl, rfl, rfl, rfl, trivial⟩, ⟨rfl, rfl, trivial⟩, rfl, rfl⟩
      · obtain rfl : j = 4 := by omega
        rw [show (iter shstep 4 (iter (msstep ws) k (List.replicate 4 0), (ws.getD ((64 * ws.length - 1 - k) / 64) 0 / 2 ^ ((64 * ws.length - 1 - k) % 64) &&& 1))).1 = (shl1 (iter (msstep ws) k (List.replicate 4 0)) (ws.getD ((64 * ws.length - 1 - k) / 64) 0 / 2 ^ ((64 * ws.length - 1 - k) % 64) &&& 1)).1 from rfl]
        have hs4 : (shl1 (iter (msstep ws) k (List.replicate 4 0)) (ws.getD ((64 * ws.length - 1 - k) / 64) 0 / 2 ^ ((64 * ws.length - 1 - k) % 64) &&& 1)).1.length = 4 := shlen _ _ 4 hl
        have ho : order.length = 4 := rfl
        refine Holds.exit ?_
        refine Holds.seq ?_
        refine Holds.seq ?_
        refine Holds.reg ?_
        refine OpsFrom.v (Y.ldAll ty38 rfl (up0 rfl rfl rfl) rfl rfl rfl (by first | (with_reducible assumption) | omega | (simp only [*]; done) | (simp only [*]; omega) | (simp only [lens, *]; done) | (simp only [lens, *]; omega)) (by decide)) rfl ?_
        refine OpsFrom.v (Y.ldAll ty38 rfl (up0 rfl rfl rfl) rfl rfl rfl (by first | (with_reducible assumption) | omega | (simp only [*]; done) | (simp only [*]; omega) | (simp only [lens, *]; done) | (simp only [lens, *]; omega)) (by decide)) rfl ?_
        refine OpsFrom.v (Y.callV (w24 _ _ (by first | (with_reducible assumption) | omega | (simp only [*]; done) | (simp only [*]; omega) | (simp only [lens, *]; done) | (simp only [lens, *]; omega)) rfl) fnok24 (up0 rfl rfl rfl) rfl rfl (.cons _ _ _ _ rfl (.cons _ _ _ _ rfl .nil)) (.cons _ _ _ _ (.same _) (.cons _ _ _ _ (.same _) .nil)) rfl rfl) rfl ?_
        refine OpsFrom.v (Y.move (up0 rfl rfl rfl) rfl rfl) rfl ?_
        refine OpsFrom.v (Y.ext0 (up0 rfl rfl rfl) rfl rfl) rfl ?_
        refine OpsFrom.v (Y.ext1 (up0 rfl rfl rfl) rfl rfl) rfl ?_
        refine OpsFrom.u (Y.alloc (d := 7) ty38 rfl rfl (up0 rfl rfl rfl) rfl) rfl rfl rfl ?_
        refine OpsFrom.n (Y.stR ty38 (upN rfl rfl) rfl rfl rfl rfl rfl (by first | (with_reducible assumption) | omega | (simp only [*]; done) | (simp only [*]; omega) | (simp only [lens, *]; done) | (simp only [lens, *]; omega)) (by first | (with_reducible assumption) | omega | (simp only [*]; done) | (simp only [*]; omega) | (simp only [lens, *]; done) | (simp only [lens, *]; omega)) (by decide)) rfl rfl ?_
        refine OpsFrom.v (Y.assign (up0 rfl rfl rfl) rfl rfl) rfl ?_
        refine OpsFrom.nil ?_
        refine Holds.seq ?_
        refine Holds.reg ?_
        refine OpsFrom.v (Y.move (up0 rfl rfl rfl) rfl rfl) rfl ?_
        refine OpsFrom.v (Y.eql (b := 0) (up0 rfl rfl rfl) rfl rfl rfl) rfl ?_
        refine OpsFrom.nil ?_
        refine Holds.condD rfl (fun h49t => ?_) (fun h49f => ?_)
        · refine Holds.reg ?_
          refine OpsFrom.v (Y.ldAll ty38 rfl (up0 rfl rfl rfl) rfl rfl rfl (by first | (with_reducible assumption) | omega | (simp only [*]; done) | (simp only [*]; omega) | (simp only [lens, *]; done) | (simp only [lens, *]; omega)) (by decide)) rfl ?_
          refine OpsFrom.n (Y.stR ty38 (upN rfl rfl) rfl rfl rfl rfl rfl (by first | (with_reducible assumption) | omega | (simp only [*]; done) | (simp only [*]; omega) | (simp only [lens, *]; done) | (simp only [lens, *]; omega)) (by first | (with_reducible assumption) | omega | (simp only [*]; done) | (simp only [*]; omega) | (simp only [lens, *]; done) | (simp only [lens, *]; omega)) (by decide)) rfl rfl ?_
          refine OpsFrom.nil ?_
          refine Holds.seq ?_
          refine Holds.reg ?_
          refine OpsFrom.v (Y.move (up0 rfl rfl rfl) rfl rfl) rfl ?_
          refine OpsFrom.v (Y.subZ (b := 1) (up0 rfl rfl rfl) rfl rfl rfl rfl rfl (by omega) (by omega)) rfl ?_
          refine OpsFrom.v (Y.assign (up0 rfl rfl rfl) rfl rfl) rfl ?_
          refine OpsFrom.nil ?_
          refine Holds.goto ?_
          exact Holds.jump (k + 1) (by omega) (by omega) [] ⟨⟨(zEq (by omega)), rfl, rfl, rfl, trivial⟩, ⟨(hEq (by rw [iterS (msstep ws)]; first | (have q := h49t; exact ms_ge rfl q) | (have q := h49f; exact ms_lt rfl q))), rfl, trivial⟩, rfl, rfl⟩
        · refine Holds.skip ?_
          refine Holds.seq ?_
          refine Holds.reg ?_
          refine OpsFrom.v (Y.move (up0 rfl rfl rfl) rfl rfl) rfl ?_
          refine OpsFrom.v (Y.subZ (b := 1) (up0 rfl rfl rfl) rfl rfl rfl rfl rfl (by omega) (by omega)) rfl ?_
          refine OpsFrom.v (Y.assign (up0 rfl rfl rfl) rfl rfl) rfl ?_
          refine OpsFrom.nil ?_
          refine Holds.goto ?_
          exact Holds.jump (k + 1) (by omega) (by omega) [] ⟨⟨(zEq (by omega)), rfl, rfl, rfl, trivial⟩, ⟨(hEq (by rw [iterS (msstep ws)]; first | (have q := h49t; exact ms_ge rfl q) | (have q := h49f; exact ms_lt rfl q))), rfl, trivial⟩, rfl, rfl⟩
  · refine Holds.seq ?_
    have ho : order.length = 4 := rfl
    refine Holds.reg ?_
    refine OpsFrom.v (Y.callV w25 fnok25 (up0 rfl rfl rfl) rfl rfl .nil .nil rfl rfl) rfl ?_
    refine OpsFrom.u (Y.alloc (d := 3) ty38 rfl rfl (up0 rfl rfl rfl) rfl) rfl rfl rfl ?_
    refine OpsFrom.n (Y.stR ty38 (upN rfl rfl) rfl rfl rfl rfl rfl (by first | (with_reducible assumption) | omega | (simp only [*]; done) | (simp only [*]; omega) | (simp only [lens, *]; done) | (simp only [lens, *]; omega)) (by first | (with_reducible assumption) | omega | (simp only [*]; done) | (simp only [*]; omega) | (simp only [lens, *]; done) | (simp only [lens, *]; omega)) (by decide)) rfl rfl ?_
    refine OpsFrom.nil ?_
    refine Holds.seq ?_
    refine Holds.reg ?_
    refine OpsFrom.v (Y.move (up0 rfl rfl rfl) rfl rfl) rfl ?_
    refine OpsFrom.v (Y.len ty40 (up0 rfl rfl rfl) rfl rfl rfl rfl) rfl ?_
    refine OpsFrom.v (Y.mulI (a := 64) (up0 rfl rfl rfl) rfl rfl rfl (by omega)) rfl ?_
    refine OpsFrom.v (Y.subZ (b := 1) (up0 rfl rfl rfl) rfl rfl rfl rfl rfl (by omega) (by omega)) rfl ?_
    refine OpsFrom.v (Y.assign (up0 rfl rfl rfl) rfl rfl) rfl ?_
    refine OpsFrom.nil ?_
    refine Holds.seq ?_
    refine Holds.label ?_
    refine again _ 0 [] (by omega) ?_
    exact ⟨⟨(zEq (by omega)), rfl, rfl, rfl, trivial⟩, ⟨(hEq (iter0 _ _).symm), rfl, trivial⟩, rfl, rfl⟩

end Go.Proofs.Ytfnfcmgbbijlnaa
