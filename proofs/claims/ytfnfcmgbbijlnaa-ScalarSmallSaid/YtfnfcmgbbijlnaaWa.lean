/-
  Walks: the small ones.
-/
import Derived.Test.YtfnfcmgbbijlnaaFt
namespace Go.Proofs.Ytfnfcmgbbijlnaa
open Go Go.Fx
set_option linter.unusedVariables false
/-- Eight bytes a word: one byte more. -/
def wstep (xs : List Nat) (i : Nat) (m : List Nat) : List Nat := m.set (i / 8) (m.getD (i / 8) 0 ||| xs.getD i 0 * 2 ^ (8 * (i % 8)) % 18446744073709551616)
def words (xs : List Nat) : List Nat := iter (wstep xs) xs.length (List.replicate (xs.length / 8) 0)
theorem wlen (xs : List Nat) (i n : Nat) : (iter (wstep xs) i (List.replicate n 0)).length = n := (iter_len (fun _ _ => by simp [wstep]) i).trans (by simp)
def bstep (r : List Nat) (i : Nat) (m : List Nat) : List Nat := m.set i (r.getD (i / 8) 0 / 2 ^ (8 * (i % 8)) % 256)
def bytes (r : List Nat) : List Nat := iter (bstep r) 32 (List.replicate 32 0)
theorem blen (r : List Nat) (i n : Nat) : (iter (bstep r) i (List.replicate n 0)).length = n := (iter_len (fun _ _ => by simp [bstep]) i).trans (by simp)
def wdstep (x : List Nat) (i : Nat) (m : List Nat) : List Nat := m.set i (x.getD i 0)
def wide (x : List Nat) : List Nat := iter (wdstep x) 32 (List.replicate 64 0)
theorem wdlen (x : List Nat) (i : Nat) : (iter (wdstep x) i (List.replicate 64 0)).length = 64 := (iter_len (fun _ _ => by simp [wdstep]) i).trans (by simp)
def smstep (x : Nat) (i : Nat) (m : List Nat) : List Nat := m.set i (x / 2 ^ (8 * i % 18446744073709551616) % 256)
def small (x : Nat) : List Nat := iter (smstep x) 8 (List.replicate 32 0)
theorem smlen (x i : Nat) : (iter (smstep x) i (List.replicate 32 0)).length = 32 := (iter_len (fun _ _ => by simp [smstep]) i).trans (by simp)
def order : List Nat := [6346243789798364141, 1503914060200516822, 0, 1152921504606846976]
def orderB : List Nat := [237, 211, 245, 92, 26, 99, 18, 88, 214, 156, 247, 162, 222, 249, 222, 20, 0, 0, 0, 0, 0, 0, 0, 0, 0, 0, 0, 0, 0, 0, 0, 16]
def twstep (x : List Nat) (i : Nat) (s : List Nat × Nat) : List Nat × Nat := (s.1.set i ((x.getD i 0 * 2 ^ 1 % 256 + s.2) % 256), x.getD i 0 / 2 ^ 7)
def twice (x : List Nat) (b : Nat) : List Nat := (iter (twstep x) 32 (List.replicate 32 0, b)).1
theorem twlen (x : List Nat) (b i : Nat) : (iter (twstep x) i (List.replicate 32 0, b)).1.length = 32 := iter_inv (fun (s : List Nat × Nat) => s.1.length = 32) (by simp) (fun i s h => by simpa [twstep] using h) i
def lsstep (x y : List Nat) (i : Nat) (s : List Nat × Nat) : List Nat × Nat := (s.1.set i ((x.getD i 0 + 18446744073709551616 - y.getD i 0 - s.2) % 18446744073709551616), if x.getD i 0 < y.getD i 0 + s.2 then 1 else 0)
def lessS (x y : List Nat) : List Nat × Nat := iter (lsstep x y) 4 (List.replicate 4 0, 0)
theorem lslen (x y : List Nat) (i : Nat) : (iter (lsstep x y) i (List.replicate 4 0, 0)).1.length = 4 := iter_inv (fun (s : List Nat × Nat) => s.1.length = 4) (by simp) (fun i s h => by simpa [lsstep] using h) i
theorem lsle (x y : List Nat) (i : Nat) : (iter (lsstep x y) i (List.replicate 4 0, 0)).2 ≤ 1 := iter_inv (fun (s : List Nat × Nat) => s.2 ≤ 1) (by simp) (fun i s _ => by simp only [lsstep]; split <;> omega) i
theorem m64_lo (x : Nat) : x &&& 4294967295 = x % 4294967296 := Nat.and_two_pow_sub_one_eq_mod x 32
def mulHi (x y : Nat) : Nat :=
  let x0 := x &&& 4294967295
  let x1 := x / 2 ^ 32
  let y0 := y &&& 4294967295
  let y1 := y / 2 ^ 32
  let w0 := x0 * y0 % 18446744073709551616
  let t := (x1 * y0 % 18446744073709551616 + w0 / 2 ^ 32) % 18446744073709551616
  let w1 := ((t &&& 4294967295) + x0 * y1 % 18446744073709551616) % 18446744073709551616
  ((x1 * y1 % 18446744073709551616 + t / 2 ^ 32) % 18446744073709551616 + w1 / 2 ^ 32) % 18446744073709551616
theorem w19 (xs : List Nat) (hx : xs.length < 4294967296) (hx8 : xs.length % 8 = 0) : VF Try.prog 19 [.one (.bs false .u8 xs)] (.one (.sg 0 0 (xs.length / 8))) .u64 (words xs) := by
  refine VF.go Try.func19 rfl Try.ntmps19 rfl rfl fun O w => ?_
  refine Holds.seq ?_
  refine Holds.reg ?_
  refine OpsFrom.v (Y.assign (up0 rfl rfl rfl) rfl rfl) rfl ?_
  refine OpsFrom.nil ?_
  refine Holds.seq ?_
  refine Holds.reg ?_
  refine OpsFrom.v (Y.move (up0 rfl rfl rfl) rfl rfl) rfl ?_
  refine OpsFrom.v (Y.len ty42 (up0 rfl rfl rfl) rfl rfl rfl rfl) rfl ?_
  refine OpsFrom.v (Y.quoI (b := 8) (up0 rfl rfl rfl) rfl rfl rfl (by omega) (by decide)) rfl ?_
  refine OpsFrom.u (Y.mkS (d := 9) ty40 ty35 (up0 rfl rfl rfl) rfl rfl rfl (by omega) (by omega)) rfl rfl rfl ?_
  refine OpsFrom.v (Y.assign (up0 rfl rfl rfl) rfl rfl) rfl ?_
  refine OpsFrom.nil ?_
  refine Holds.seq ?_
  refine Holds.seq ?_
  refine Holds.reg ?_
  refine OpsFrom.v (Y.move (up0 rfl rfl rfl) rfl rfl) rfl ?_
  refine OpsFrom.v (Y.len ty42 (up0 rfl rfl rfl) rfl rfl rfl rfl) rfl ?_
  refine OpsFrom.v (Y.move (v := (.one (.n .i64 0))) (up0 rfl rfl rfl) rfl rfl) rfl ?_
  refine OpsFrom.nil ?_
  refine Holds.block ?_
  refine Holds.loop (fun (i : Nat) => ⟨[(12, .one (.n .i64 i)), (10, .one (.bs false .u8 xs)), (11, .one (.n .i64 xs.length)), (3, .one (.sg 9 0 (xs.length / 8)))], [(9, .own (.ints .u64 (iter (wstep xs) i (List.replicate (xs.length / 8) 0))))]⟩) (fun (i : Nat) => i ≤ xs.length) (fun (i : Nat) => xs.length - i) 0 (by omega) [] ⟨⟨rfl, rfl, rfl, rfl, trivial⟩, ⟨(hEq (iter0 _ _).symm), trivial⟩, rfl, rfl⟩ ?_
  intro i hok
  have hl := wlen xs i (xs.length / 8)
  refine Holds.seq ?_
  refine Holds.reg ?_
  refine OpsFrom.v (Y.lss (up0 rfl rfl rfl) rfl rfl rfl) rfl ?_
  refine OpsFrom.nil ?_
  refine Holds.seq ?_
  refine Holds.condD rfl (fun h13 => ?_) (fun h13 => ?_)
  · refine Holds.skip ?_
    refine Holds.seq ?_
    refine Holds.block ?_
    refine Holds.seq ?_
    refine Holds.reg ?_
    refine OpsFrom.v (Y.move (up0 rfl rfl rfl) rfl rfl) rfl ?_
    refine OpsFrom.v (Y.iaBs ty42 ty5 (up0 rfl rfl rfl) rfl rfl rfl (by omega)) rfl ?_
    refine OpsFrom.v (Y.ldPc ty5 rfl (up0 rfl rfl rfl) rfl rfl) rfl ?_
    refine OpsFrom.v (Y.assign (up0 rfl rfl rfl) rfl rfl) rfl ?_
    refine OpsFrom.v (Y.assign (up0 rfl rfl rfl) rfl rfl) rfl ?_
    refine OpsFrom.nil ?_
    refine Holds.dr mx [([17], [18, 19, 22, 23, 24, 25, 26, 27]), ([18], [17, 22, 23, 24, 25, 26, 27]), ([19], [17, 22, 23, 24, 25, 26, 27]), ([20], [22, 23, 24, 25, 26, 27]), ([21], [22, 23, 24, 25, 26, 27]), ([22], [17, 18, 19, 20, 21, 24, 25, 26]), ([23], [17, 18, 19, 20, 21, 24, 25, 26]), ([24], [17, 18, 19, 20, 21, 22, 23]), ([25], [17, 18, 19, 20, 21, 22, 23]), ([26], [17, 18, 19, 20, 21, 22, 23]), ([27], [17, 18, 19, 20, 21]), ([28], []), ([29], []), ([9], [])] (by kernel_rfl) ?_
    refine CertK.vd (Y.move (up0 rfl rfl rfl) rfl rfl) rfl rfl ?_
    refine CertK.vd (Y.move (up0 rfl rfl rfl) rfl rfl) rfl rfl ?_
    refine CertK.vd (Y.quoI (b := 8) (up0 rfl rfl rfl) rfl rfl rfl (by omega) (by decide)) rfl rfl ?_
    refine CertK.vd (Y.iaSg0 ty40 ty35 (up0 rfl rfl rfl) rfl rfl rfl (by omega)) rfl rfl ?_
    refine CertK.vd (Y.ldI ty35 rfl (up0 rfl rfl rfl) rfl rfl rfl (by first | (with_reducible assumption) | omega | (simp only [*]; done) | (simp only [*]; omega) | (simp only [lens, *]; done) | (simp only [lens, *]; omega))) rfl rfl ?_
    refine CertK.vd (Y.move (up0 rfl rfl rfl) rfl rfl) rfl rfl ?_
    refine CertK.vd (Y.convUp ty5.u ty35.u rfl rfl (by decide) (up0 rfl rfl rfl) rfl rfl) rfl rfl ?_
    refine CertK.vd (Y.move (up0 rfl rfl rfl) rfl rfl) rfl rfl ?_
    refine CertK.vd (Y.rem (b := 8) (up0 rfl rfl rfl) rfl rfl rfl (by decide)) rfl rfl ?_
    refine CertK.vd (Y.mulI (a := 8) (up0 rfl rfl rfl) rfl rfl rfl (by omega)) rfl rfl ?_
    refine CertK.vd (Y.shl u64s u64m (up0 rfl rfl rfl) rfl rfl rfl) rfl rfl ?_
    refine CertK.v (Y.or u64s u64m (up0 rfl rfl rfl) rfl rfl rfl) rfl ?_
    refine CertK.v (Y.iaSg0 ty40 ty35 (up0 rfl rfl rfl) rfl rfl rfl (by omega)) rfl ?_
    refine CertK.n (Y.stI ty35 (upN rfl rfl) rfl rfl rfl rfl (by first | (with_reducible assumption) | omega | (simp only [*]; done) | (simp only [*]; omega) | (simp only [lens, *]; done) | (simp only [lens, *]; omega))) rfl rfl rfl rfl ?_
    refine CertK.nil ?_
    refine Holds.reg ?_
    refine OpsFrom.v (Y.addI (b := 1) (up0 rfl rfl rfl) rfl rfl rfl (by omega)) rfl ?_
    refine OpsFrom.v (Y.move (up0 rfl rfl rfl) rfl rfl) rfl ?_
    refine OpsFrom.nil ?_
    exact Holds.again (i + 1) (by omega) (by omega) [] ⟨⟨rfl, rfl, rfl, rfl, trivial⟩, ⟨rfl, trivial⟩, rfl, rfl⟩
  · obtain rfl : i = xs.length := by omega
    refine Holds.exit ?_
    refine Holds.seq ?_
    refine Holds.reg ?_
    refine OpsFrom.v (Y.move (up0 rfl rfl rfl) rfl rfl) rfl ?_
    refine OpsFrom.v (Y.assign (up0 rfl rfl rfl) rfl rfl) rfl ?_
    refine OpsFrom.nil ?_
    refine Holds.ret ?_
    exact Holds.retF (id := 9) (.inl rfl) rfl (.one _ _ (.tmp _ _ rfl)) rfl rfl rfl
theorem w20 (r : List Nat) (hr : r.length = 4) : VC Try.prog 20 [.row (.ints .u64 r)] (.row (.ints .u8 (bytes r))) := by
  refine VC.go Try.func20 rfl Try.ntmps20 rfl rfl fun O w => ?_
  refine Holds.seq ?_
  refine Holds.reg ?_
  refine OpsFrom.u (Y.boxR (d := 1) (up0 rfl rfl rfl) rfl rfl rfl) rfl rfl rfl ?_
  refine OpsFrom.u (Y.alloc (d := 2) ty23 rfl rfl (up0 rfl rfl rfl) rfl) rfl rfl rfl ?_
  refine OpsFrom.nil ?_
  refine Holds.seq ?_
  refine Holds.seq ?_
  refine Holds.reg ?_
  refine OpsFrom.v (Y.move (v := (.one (.n .i64 0))) (up0 rfl rfl rfl) rfl rfl) rfl ?_
  refine OpsFrom.nil ?_
  refine Holds.block ?_
  refine Holds.loop (fun (i : Nat) => ⟨[(4, .one (.n .i64 i)), (1, .one (.p 1 0)), (2, .one (.p 2 0))], [(1, .own (.ints .u64 r)), (2, .own (.ints .u8 (iter (bstep r) i (List.replicate 32 0))))]⟩) (fun (i : Nat) => i ≤ 32) (fun (i : Nat) => 32 - i) 0 (by omega) [] ⟨⟨rfl, rfl, rfl, trivial⟩, ⟨rfl, (hEq (iter0 _ _).symm), trivial⟩, rfl, rfl⟩ ?_
  intro i hok
  have hl := blen r i 32
  refine Holds.seq ?_
  refine Holds.reg ?_
  refine OpsFrom.v (Y.lss (b := 32) (up0 rfl rfl rfl) rfl rfl rfl) rfl ?_
  refine OpsFrom.nil ?_
  refine Holds.seq ?_
  refine Holds.condD rfl (fun h5 => ?_) (fun h5 => ?_)
  · refine Holds.skip ?_
    refine Holds.seq ?_
    refine Holds.block ?_
    refine Holds.seq ?_
    refine Holds.reg ?_
    refine OpsFrom.v (Y.move (up0 rfl rfl rfl) rfl rfl) rfl ?_
    refine OpsFrom.v (Y.assign (up0 rfl rfl rfl) rfl rfl) rfl ?_
    refine OpsFrom.nil ?_
    refine Holds.reg ?_
    refine OpsFrom.v (Y.move (up0 rfl rfl rfl) rfl rfl) rfl ?_
    refine OpsFrom.v (Y.move (up0 rfl rfl rfl) rfl rfl) rfl ?_
    refine OpsFrom.v (Y.quoI (b := 8) (up0 rfl rfl rfl) rfl rfl rfl (by omega) (by decide)) rfl ?_
    refine OpsFrom.v (Y.ia0 ty38 ty35 (up0 rfl rfl rfl) rfl rfl rfl (by omega)) rfl ?_
    refine OpsFrom.v (Y.ldI ty35 rfl (up0 rfl rfl rfl) rfl rfl rfl (by first | (with_reducible assumption) | omega | (simp only [*]; done) | (simp only [*]; omega) | (simp only [lens, *]; done) | (simp only [lens, *]; omega))) rfl ?_
    refine OpsFrom.v (Y.move (up0 rfl rfl rfl) rfl rfl) rfl ?_
    refine OpsFrom.v (Y.rem (b := 8) (up0 rfl rfl rfl) rfl rfl rfl (by decide)) rfl ?_
    refine OpsFrom.v (Y.mulI (a := 8) (up0 rfl rfl rfl) rfl rfl rfl (by omega)) rfl ?_
    refine OpsFrom.v (Y.shr u64s u64m (up0 rfl rfl rfl) rfl rfl rfl) rfl ?_
    refine OpsFrom.v (Y.conv ty35.u ty5.u u8s u8m (up0 rfl rfl rfl) rfl rfl) rfl ?_
    refine OpsFrom.v (Y.ia0 ty23 ty5 (up0 rfl rfl rfl) rfl rfl rfl (by omega)) rfl ?_
    refine OpsFrom.n (Y.stI ty5 (upN rfl rfl) rfl rfl rfl rfl (by first | (with_reducible assumption) | omega | (simp only [*]; done) | (simp only [*]; omega) | (simp only [lens, *]; done) | (simp only [lens, *]; omega))) rfl rfl ?_
    refine OpsFrom.nil ?_
    refine Holds.reg ?_
    refine OpsFrom.v (Y.addI (b := 1) (up0 rfl rfl rfl) rfl rfl rfl (by omega)) rfl ?_
    refine OpsFrom.v (Y.move (up0 rfl rfl rfl) rfl rfl) rfl ?_
    refine OpsFrom.nil ?_
    exact Holds.again (i + 1) (by omega) (by omega) [] ⟨⟨rfl, rfl, rfl, trivial⟩, ⟨rfl, rfl, trivial⟩, rfl, rfl⟩
  · obtain rfl : i = 32 := by omega
    have hl2 := blen r 32 32
    refine Holds.exit ?_
    refine Holds.seq ?_
    refine Holds.reg ?_
    refine OpsFrom.v (Y.ldAll ty23 rfl (up0 rfl rfl rfl) rfl rfl rfl (by first | (with_reducible assumption) | omega | (simp only [*]; done) | (simp only [*]; omega) | (simp only [lens, *]; done) | (simp only [lens, *]; omega)) (by decide)) rfl ?_
    refine OpsFrom.n (Y.stR ty23 (upN rfl rfl) rfl rfl rfl rfl rfl (by first | (with_reducible assumption) | omega | (simp only [*]; done) | (simp only [*]; omega) | (simp only [lens, *]; done) | (simp only [lens, *]; omega)) (by first | (with_reducible assumption) | omega | (simp only [*]; done) | (simp only [*]; omega) | (simp only [lens, *]; done) | (simp only [lens, *]; omega)) (by decide)) rfl rfl ?_
    refine OpsFrom.nil ?_
    refine Holds.ret ?_
    exact Holds.ret1 (.inl rfl) rfl (.rowN rfl rfl ty23 rfl (by first | (with_reducible assumption) | omega | (simp only [*]; done) | (simp only [*]; omega) | (simp only [lens, *]; done) | (simp only [lens, *]; omega)) (by decide)) (.same _) rfl
theorem w16 (x : List Nat) (hx : x.length = 32) : VC Try.prog 16 [.row (.ints .u8 x)] (.row (.ints .u8 (wide x))) := by
  refine VC.go Try.func16 rfl Try.ntmps16 rfl rfl fun O w => ?_
  refine Holds.seq ?_
  refine Holds.reg ?_
  refine OpsFrom.u (Y.boxR (d := 1) (up0 rfl rfl rfl) rfl rfl rfl) rfl rfl rfl ?_
  refine OpsFrom.u (Y.alloc (d := 2) ty22 rfl rfl (up0 rfl rfl rfl) rfl) rfl rfl rfl ?_
  refine OpsFrom.nil ?_
  refine Holds.seq ?_
  refine Holds.reg ?_
  refine OpsFrom.v (Y.buildA ty22 ty5 rfl (up0 rfl rfl rfl) rfl (.nil _)) rfl ?_
  refine OpsFrom.u (Y.alloc (d := 3) ty22 rfl rfl (up0 rfl rfl rfl) rfl) rfl rfl rfl ?_
  refine OpsFrom.n (Y.stR ty22 (upN rfl rfl) rfl rfl rfl rfl rfl (by first | (with_reducible assumption) | omega | (simp only [*]; done) | (simp only [*]; omega) | (simp only [lens, *]; done) | (simp only [lens, *]; omega)) (by first | (with_reducible assumption) | omega | (simp only [*]; done) | (simp only [*]; omega) | (simp only [lens, *]; done) | (simp only [lens, *]; omega)) (by decide)) rfl rfl ?_
  refine OpsFrom.nil ?_
  refine Holds.seq ?_
  refine Holds.seq ?_
  refine Holds.reg ?_
  refine OpsFrom.v (Y.assign (v := (.one (.n .i64 0))) (up0 rfl rfl rfl) rfl rfl) rfl ?_
  refine OpsFrom.nil ?_
  refine Holds.block ?_
  refine Holds.loop (fun (i : Nat) => ⟨[(4, .one (.n .i64 i)), (1, .one (.p 1 0)), (2, .one (.p 2 0)), (3, .one (.p 3 0))], [(1, .own (.ints .u8 x)), (2, .own (.ints .u8 (List.replicate 64 0))), (3, .own (.ints .u8 (iter (wdstep x) i (List.replicate 64 0))))]⟩) (fun (i : Nat) => i ≤ 32) (fun (i : Nat) => 32 - i) 0 (by omega) [] ⟨⟨rfl, rfl, rfl, rfl, trivial⟩, ⟨rfl, rfl, (hEq (iter0 _ _).symm), trivial⟩, rfl, rfl⟩ ?_
  intro i hok
  have hl := wdlen x i
  refine Holds.seq ?_
  refine Holds.seq ?_
  refine Holds.reg ?_
  refine OpsFrom.v (Y.move (up0 rfl rfl rfl) rfl rfl) rfl ?_
  refine OpsFrom.v (Y.lss (b := 32) (up0 rfl rfl rfl) rfl rfl rfl) rfl ?_
  refine OpsFrom.nil ?_
  refine Holds.condD rfl (fun h7 => ?_) (fun h7 => ?_)
  · refine Holds.skip ?_
    refine Holds.seq ?_
    refine Holds.block ?_
    refine Holds.reg ?_
    refine OpsFrom.v (Y.move (up0 rfl rfl rfl) rfl rfl) rfl ?_
    refine OpsFrom.v (Y.move (up0 rfl rfl rfl) rfl rfl) rfl ?_
    refine OpsFrom.v (Y.ia0 ty23 ty5 (up0 rfl rfl rfl) rfl rfl rfl (by omega)) rfl ?_
    refine OpsFrom.v (Y.ldI ty5 rfl (up0 rfl rfl rfl) rfl rfl rfl (by first | (with_reducible assumption) | omega | (simp only [*]; done) | (simp only [*]; omega) | (simp only [lens, *]; done) | (simp only [lens, *]; omega))) rfl ?_
    refine OpsFrom.v (Y.ia0 ty22 ty5 (up0 rfl rfl rfl) rfl rfl rfl (by omega)) rfl ?_
    refine OpsFrom.n (Y.stI ty5 (upN rfl rfl) rfl rfl rfl rfl (by first | (with_reducible assumption) | omega | (simp only [*]; done) | (simp only [*]; omega) | (simp only [lens, *]; done) | (simp only [lens, *]; omega))) rfl rfl ?_
    refine OpsFrom.nil ?_
    refine Holds.reg ?_
    refine OpsFrom.v (Y.move (up0 rfl rfl rfl) rfl rfl) rfl ?_
    refine OpsFrom.v (Y.addI (b := 1) (up0 rfl rfl rfl) rfl rfl rfl (by omega)) rfl ?_
    refine OpsFrom.v (Y.assign (up0 rfl rfl rfl) rfl rfl) rfl ?_
    refine OpsFrom.nil ?_
    exact Holds.again (i + 1) (by omega) (by omega) [] ⟨⟨rfl, rfl, rfl, rfl, trivial⟩, ⟨rfl, rfl, rfl, trivial⟩, rfl, rfl⟩
  · obtain rfl : i = 32 := by omega
    refine Holds.exit ?_
    refine Holds.seq ?_
    refine Holds.reg ?_
    refine OpsFrom.v (Y.ldAll ty22 rfl (up0 rfl rfl rfl) rfl rfl rfl (by first | (with_reducible assumption) | omega | (simp only [*]; done) | (simp only [*]; omega) | (simp only [lens, *]; done) | (simp only [lens, *]; omega)) (by decide)) rfl ?_
    refine OpsFrom.n (Y.stR ty22 (upN rfl rfl) rfl rfl rfl rfl rfl (by first | (with_reducible assumption) | omega | (simp only [*]; done) | (simp only [*]; omega) | (simp only [lens, *]; done) | (simp only [lens, *]; omega)) (by first | (with_reducible assumption) | omega | (simp only [*]; done) | (simp only [*]; omega) | (simp only [lens, *]; done) | (simp only [lens, *]; omega)) (by decide)) rfl rfl ?_
    refine OpsFrom.nil ?_
    refine Holds.ret ?_
    exact Holds.ret1 (.inl rfl) rfl (.rowN rfl rfl ty22 rfl (by first | (with_reducible assumption) | omega | (simp only [*]; done) | (simp only [*]; omega) | (simp only [lens, *]; done) | (simp only [lens, *]; omega)) (by decide)) (.same _) rfl
theorem w17 (x : Nat) : VC Try.prog 17 [.one (.n .u64 x)] (.row (.ints .u8 (small x))) := by
  refine VC.go Try.func17 rfl Try.ntmps17 rfl rfl fun O w => ?_
  refine Holds.seq ?_
  refine Holds.reg ?_
  refine OpsFrom.u (Y.alloc (d := 2) ty23 rfl rfl (up0 rfl rfl rfl) rfl) rfl rfl rfl ?_
  refine OpsFrom.nil ?_
  refine Holds.seq ?_
  refine Holds.reg ?_
  refine OpsFrom.v (Y.buildA ty23 ty5 rfl (up0 rfl rfl rfl) rfl (.nil _)) rfl ?_
  refine OpsFrom.u (Y.alloc (d := 3) ty23 rfl rfl (up0 rfl rfl rfl) rfl) rfl rfl rfl ?_
  refine OpsFrom.n (Y.stR ty23 (upN rfl rfl) rfl rfl rfl rfl rfl (by first | (with_reducible assumption) | omega | (simp only [*]; done) | (simp only [*]; omega) | (simp only [lens, *]; done) | (simp only [lens, *]; omega)) (by first | (with_reducible assumption) | omega | (simp only [*]; done) | (simp only [*]; omega) | (simp only [lens, *]; done) | (simp only [lens, *]; omega)) (by decide)) rfl rfl ?_
  refine OpsFrom.nil ?_
  refine Holds.seq ?_
  refine Holds.seq ?_
  refine Holds.reg ?_
  refine OpsFrom.v (Y.assign (v := (.one (.n .i64 0))) (up0 rfl rfl rfl) rfl rfl) rfl ?_
  refine OpsFrom.nil ?_
  refine Holds.block ?_
  refine Holds.loop (fun (i : Nat) => ⟨[(4, .one (.n .i64 i)), (0, .one (.n .u64 x)), (2, .one (.p 2 0)), (3, .one (.p 3 0))], [(2, .own (.ints .u8 (List.replicate 32 0))), (3, .own (.ints .u8 (iter (smstep x) i (List.replicate 32 0))))]⟩) (fun (i : Nat) => i ≤ 8) (fun (i : Nat) => 8 - i) 0 (by omega) [] ⟨⟨rfl, rfl, rfl, rfl, trivial⟩, ⟨rfl, (hEq (iter0 _ _).symm), trivial⟩, rfl, rfl⟩ ?_
  intro i hok
  have hl := smlen x i
  refine Holds.seq ?_
  refine Holds.seq ?_
  refine Holds.reg ?_
  refine OpsFrom.v (Y.move (up0 rfl rfl rfl) rfl rfl) rfl ?_
  refine OpsFrom.v (Y.lss (b := 8) (up0 rfl rfl rfl) rfl rfl rfl) rfl ?_
  refine OpsFrom.nil ?_
  refine Holds.condD rfl (fun h7 => ?_) (fun h7 => ?_)
  · refine Holds.skip ?_
    refine Holds.seq ?_
    refine Holds.block ?_
    refine Holds.reg ?_
    refine OpsFrom.v (Y.move (up0 rfl rfl rfl) rfl rfl) rfl ?_
    refine OpsFrom.v (Y.move (up0 rfl rfl rfl) rfl rfl) rfl ?_
    refine OpsFrom.v (Y.move (up0 rfl rfl rfl) rfl rfl) rfl ?_
    refine OpsFrom.v (Y.mulI (a := 8) (up0 rfl rfl rfl) rfl rfl rfl (by omega)) rfl ?_
    refine OpsFrom.v (Y.conv ty3.u ty53.u u64s u64m (up0 rfl rfl rfl) rfl rfl) rfl ?_
    refine OpsFrom.v (Y.shr u64s u64m (up0 rfl rfl rfl) rfl rfl rfl) rfl ?_
    refine OpsFrom.v (Y.conv ty35.u ty5.u u8s u8m (up0 rfl rfl rfl) rfl rfl) rfl ?_
    refine OpsFrom.v (Y.ia0 ty23 ty5 (up0 rfl rfl rfl) rfl rfl rfl (by omega)) rfl ?_
    refine OpsFrom.n (Y.stI ty5 (upN rfl rfl) rfl rfl rfl rfl (by first | (with_reducible assumption) | omega | (simp only [*]; done) | (simp only [*]; omega) | (simp only [lens, *]; done) | (simp only [lens, *]; omega))) rfl rfl ?_
    refine OpsFrom.nil ?_
    refine Holds.reg ?_
    refine OpsFrom.v (Y.move (up0 rfl rfl rfl) rfl rfl) rfl ?_
    refine OpsFrom.v (Y.addI (b := 1) (up0 rfl rfl rfl) rfl rfl rfl (by omega)) rfl ?_
    refine OpsFrom.v (Y.assign (up0 rfl rfl rfl) rfl rfl) rfl ?_
    refine OpsFrom.nil ?_
    exact Holds.again (i + 1) (by omega) (by omega) [] ⟨⟨rfl, rfl, rfl, rfl, trivial⟩, ⟨rfl, rfl, trivial⟩, rfl, rfl⟩
  · obtain rfl : i = 8 := by omega
    refine Holds.exit ?_
    refine Holds.seq ?_
    refine Holds.reg ?_
    refine OpsFrom.v (Y.ldAll ty23 rfl (up0 rfl rfl rfl) rfl rfl rfl (by first | (with_reducible assumption) | omega | (simp only [*]; done) | (simp only [*]; omega) | (simp only [lens, *]; done) | (simp only [lens, *]; omega)) (by decide)) rfl ?_
    refine OpsFrom.n (Y.stR ty23 (upN rfl rfl) rfl rfl rfl rfl rfl (by first | (with_reducible assumption) | omega | (simp only [*]; done) | (simp only [*]; omega) | (simp only [lens, *]; done) | (simp only [lens, *]; omega)) (by first | (with_reducible assumption) | omega | (simp only [*]; done) | (simp only [*]; omega) | (simp only [lens, *]; done) | (simp only [lens, *]; omega)) (by decide)) rfl rfl ?_
    refine OpsFrom.nil ?_
    refine Holds.ret ?_
    exact Holds.ret1 (.inl rfl) rfl (.rowN rfl rfl ty23 rfl (by first | (with_reducible assumption) | omega | (simp only [*]; done) | (simp only [*]; omega) | (simp only [lens, *]; done) | (simp only [lens, *]; omega)) (by decide)) (.same _) rfl
theorem w25  : VC Try.prog 25 [] (.row (.ints .u64 order)) := by
  refine VC.go Try.func25 rfl Try.ntmps25 rfl rfl fun O w => ?_
  refine Holds.seq ?_
  refine Holds.reg ?_
  refine OpsFrom.u (Y.alloc (d := 0) ty38 rfl rfl (up0 rfl rfl rfl) rfl) rfl rfl rfl ?_
  refine OpsFrom.nil ?_
  refine Holds.seq ?_
  refine Holds.reg ?_
  refine OpsFrom.v (Y.buildA ty38 ty35 rfl (up0 rfl rfl rfl) rfl (.cons _ _ _ _ _ _ (.one (.n .u64 6346243789798364141)) _ _ rfl rfl rfl rfl (Spl.n (by decide)) (.cons _ _ _ _ _ _ (.one (.n .u64 1503914060200516822)) _ _ rfl rfl rfl rfl (Spl.n (by decide)) (.cons _ _ _ _ _ _ (.one (.n .u64 0)) _ _ rfl rfl rfl rfl (Spl.n (by decide)) (.cons _ _ _ _ _ _ (.one (.n .u64 1152921504606846976)) _ _ rfl rfl rfl rfl (Spl.n (by decide)) (.nil _)))))) rfl ?_
  refine OpsFrom.n (Y.stR ty38 (upN rfl rfl) rfl rfl rfl rfl rfl (by first | (with_reducible assumption) | omega | (simp only [*]; done) | (simp only [*]; omega) | (simp only [lens, *]; done) | (simp only [lens, *]; omega)) (by first | (with_reducible assumption) | omega | (simp only [*]; done) | (simp only [*]; omega) | (simp only [lens, *]; done) | (simp only [lens, *]; omega)) (by decide)) rfl rfl ?_
  refine OpsFrom.nil ?_
  refine Holds.ret ?_
  exact Holds.ret1 (.inl rfl) rfl (.rowN rfl rfl ty38 rfl (by first | (with_reducible assumption) | omega | (simp only [*]; done) | (simp only [*]; omega) | (simp only [lens, *]; done) | (simp only [lens, *]; omega)) (by decide)) (.same _) rfl
theorem w15  : VC Try.prog 15 [] (.row (.ints .u8 orderB)) := by
  refine VC.go Try.func15 rfl Try.ntmps15 rfl rfl fun O w => ?_
  refine Holds.seq ?_
  refine Holds.reg ?_
  refine OpsFrom.u (Y.alloc (d := 0) ty23 rfl rfl (up0 rfl rfl rfl) rfl) rfl rfl rfl ?_
  refine OpsFrom.nil ?_
  refine Holds.seq ?_
  refine Holds.reg ?_
  refine OpsFrom.v (Y.buildA ty23 ty5 rfl (up0 rfl rfl rfl) rfl (.cons _ _ _ _ _ _ (.one (.n .u8 237)) _ _ rfl rfl rfl rfl (Spl.n (by decide)) (.cons _ _ _ _ _ _ (.one (.n .u8 211)) _ _ rfl rfl rfl rfl (Spl.n (by decide)) (.cons _ _ _ _ _ _ (.one (.n .u8 245)) _ _ rfl rfl rfl rfl (Spl.n (by decide)) (.cons _ _ _ _ _ _ (.one (.n .u8 92)) _ _ rfl rfl rfl rfl (Spl.n (by decide)) (.cons _ _ _ _ _ _ (.one (.n .u8 26)) _ _ rfl rfl rfl rfl (Spl.n (by decide)) (.cons _ _ _ _ _ _ (.one (.n .u8 99)) _ _ rfl rfl rfl rfl (Spl.n (by decide)) (.cons _ _ _ _ _ _ (.one (.n .u8 18)) _ _ rfl rfl rfl rfl (Spl.n (by decide)) (.cons _ _ _ _ _ _ (.one (.n .u8 88)) _ _ rfl rfl rfl rfl (Spl.n (by decide)) (.cons _ _ _ _ _ _ (.one (.n .u8 214)) _ _ rfl rfl rfl rfl (Spl.n (by decide)) (.cons _ _ _ _ _ _ (.one (.n .u8 156)) _ _ rfl rfl rfl rfl (Spl.n (by decide)) (.cons _ _ _ _ _ _ (.one (.n .u8 247)) _ _ rfl rfl rfl rfl (Spl.n (by decide)) (.cons _ _ _ _ _ _ (.one (.n .u8 162)) _ _ rfl rfl rfl rfl (Spl.n (by decide)) (.cons _ _ _ _ _ _ (.one (.n .u8 222)) _ _ rfl rfl rfl rfl (Spl.n (by decide)) (.cons _ _ _ _ _ _ (.one (.n .u8 249)) _ _ rfl rfl rfl rfl (Spl.n (by decide)) (.cons _ _ _ _ _ _ (.one (.n .u8 222)) _ _ rfl rfl rfl rfl (Spl.n (by decide)) (.cons _ _ _ _ _ _ (.one (.n .u8 20)) _ _ rfl rfl rfl rfl (Spl.n (by decide)) (.cons _ _ _ _ _ _ (.one (.n .u8 0)) _ _ rfl rfl rfl rfl (Spl.n (by decide)) (.cons _ _ _ _ _ _ (.one (.n .u8 0)) _ _ rfl rfl rfl rfl (Spl.n (by decide)) (.cons _ _ _ _ _ _ (.one (.n .u8 0)) _ _ rfl rfl rfl rfl (Spl.n (by decide)) (.cons _ _ _ _ _ _ (.one (.n .u8 0)) _ _ rfl rfl rfl rfl (Spl.n (by decide)) (.cons _ _ _ _ _ _ (.one (.n .u8 0)) _ _ rfl rfl rfl rfl (Spl.n (by decide)) (.cons _ _ _ _ _ _ (.one (.n .u8 0)) _ _ rfl rfl rfl rfl (Spl.n (by decide)) (.cons _ _ _ _ _ _ (.one (.n .u8 0)) _ _ rfl rfl rfl rfl (Spl.n (by decide)) (.cons _ _ _ _ _ _ (.one (.n .u8 0)) _ _ rfl rfl rfl rfl (Spl.n (by decide)) (.cons _ _ _ _ _ _ (.one (.n .u8 0)) _ _ rfl rfl rfl rfl (Spl.n (by decide)) (.cons _ _ _ _ _ _ (.one (.n .u8 0)) _ _ rfl rfl rfl rfl (Spl.n (by decide)) (.cons _ _ _ _ _ _ (.one (.n .u8 0)) _ _ rfl rfl rfl rfl (Spl.n (by decide)) (.cons _ _ _ _ _ _ (.one (.n .u8 0)) _ _ rfl rfl rfl rfl (Spl.n (by decide)) (.cons _ _ _ _ _ _ (.one (.n .u8 0)) _ _ rfl rfl rfl rfl (Spl.n (by decide)) (.cons _ _ _ _ _ _ (.one (.n .u8 0)) _ _ rfl rfl rfl rfl (Spl.n (by decide)) (.cons _ _ _ _ _ _ (.one (.n .u8 0)) _ _ rfl rfl rfl rfl (Spl.n (by decide)) (.cons _ _ _ _ _ _ (.one (.n .u8 16)) _ _ rfl rfl rfl rfl (Spl.n (by decide)) (.nil _)))))))))))))))))))))))))))))))))) rfl ?_
  refine OpsFrom.n (Y.stR ty23 (upN rfl rfl) rfl rfl rfl rfl rfl (by first | (with_reducible assumption) | omega | (simp only [*]; done) | (simp only [*]; omega) | (simp only [lens, *]; done) | (simp only [lens, *]; omega)) (by first | (with_reducible assumption) | omega | (simp only [*]; done) | (simp only [*]; omega) | (simp only [lens, *]; done) | (simp only [lens, *]; omega)) (by decide)) rfl rfl ?_
  refine OpsFrom.nil ?_
  refine Holds.ret ?_
  exact Holds.ret1 (.inl rfl) rfl (.rowN rfl rfl ty23 rfl (by first | (with_reducible assumption) | omega | (simp only [*]; done) | (simp only [*]; omega) | (simp only [lens, *]; done) | (simp only [lens, *]; omega)) (by decide)) (.same _) rfl
theorem w27 (x : List Nat) (b : Nat) (hx : x.length = 32) : VC Try.prog 27 [.row (.ints .u8 x), .one (.n .u8 b)] (.row (.ints .u8 (twice x b))) := by
  refine VC.go Try.func27 rfl Try.ntmps27 rfl rfl fun O w => ?_
  refine Holds.seq ?_
  refine Holds.reg ?_
  refine OpsFrom.u (Y.boxR (d := 2) (up0 rfl rfl rfl) rfl rfl rfl) rfl rfl rfl ?_
  refine OpsFrom.u (Y.alloc (d := 4) ty23 rfl rfl (up0 rfl rfl rfl) rfl) rfl rfl rfl ?_
  refine OpsFrom.nil ?_
  refine Holds.seq ?_
  refine Holds.reg ?_
  refine OpsFrom.v (Y.buildA ty23 ty5 rfl (up0 rfl rfl rfl) rfl (.nil _)) rfl ?_
  refine OpsFrom.u (Y.alloc (d := 5) ty23 rfl rfl (up0 rfl rfl rfl) rfl) rfl rfl rfl ?_
  refine OpsFrom.n (Y.stR ty23 (upN rfl rfl) rfl rfl rfl rfl rfl (by first | (with_reducible assumption) | omega | (simp only [*]; done) | (simp only [*]; omega) | (simp only [lens, *]; done) | (simp only [lens, *]; omega)) (by first | (with_reducible assumption) | omega | (simp only [*]; done) | (simp only [*]; omega) | (simp only [lens, *]; done) | (simp only [lens, *]; omega)) (by decide)) rfl rfl ?_
  refine OpsFrom.nil ?_
  refine Holds.seq ?_
  refine Holds.reg ?_
  refine OpsFrom.v (Y.move (up0 rfl rfl rfl) rfl rfl) rfl ?_
  refine OpsFrom.v (Y.assign (up0 rfl rfl rfl) rfl rfl) rfl ?_
  refine OpsFrom.nil ?_
  refine Holds.seq ?_
  refine Holds.seq ?_
  refine Holds.reg ?_
  refine OpsFrom.v (Y.assign (v := (.one (.n .i64 0))) (up0 rfl rfl rfl) rfl rfl) rfl ?_
  refine OpsFrom.nil ?_
  refine Holds.block ?_
  refine Holds.loop (fun (i : Nat) => ⟨[(7, .one (.n .i64 i)), (2, .one (.p 2 0)), (4, .one (.p 4 0)), (5, .one (.p 5 0)), (6, .one (.n .u8 (iter (twstep x) i (List.replicate 32 0, b)).2))], [(2, .own (.ints .u8 x)), (4, .own (.ints .u8 (List.replicate 32 0))), (5, .own (.ints .u8 (iter (twstep x) i (List.replicate 32 0, b)).1))]⟩) (fun (i : Nat) => i ≤ 32) (fun (i : Nat) => 32 - i) 0 (by omega) [] ⟨⟨rfl, rfl, rfl, rfl, rfl, trivial⟩, ⟨rfl, rfl, rfl, trivial⟩, rfl, rfl⟩ ?_
  intro i hok
  have hl := twlen x b i
  refine Holds.seq ?_
  refine Holds.seq ?_
  refine Holds.reg ?_
  refine OpsFrom.v (Y.move (up0 rfl rfl rfl) rfl rfl) rfl ?_
  refine OpsFrom.v (Y.lss (b := 32) (up0 rfl rfl rfl) rfl rfl rfl) rfl ?_
  refine OpsFrom.nil ?_
  refine Holds.condD rfl (fun h11 => ?_) (fun h11 => ?_)
  · refine Holds.skip ?_
    refine Holds.seq ?_
    refine Holds.block ?_
    refine Holds.seq ?_
    refine Holds.reg ?_
    refine OpsFrom.v (Y.move (up0 rfl rfl rfl) rfl rfl) rfl ?_
    refine OpsFrom.v (Y.move (up0 rfl rfl rfl) rfl rfl) rfl ?_
    refine OpsFrom.v (Y.ia0 ty23 ty5 (up0 rfl rfl rfl) rfl rfl rfl (by omega)) rfl ?_
    refine OpsFrom.v (Y.ldI ty5 rfl (up0 rfl rfl rfl) rfl rfl rfl (by first | (with_reducible assumption) | omega | (simp only [*]; done) | (simp only [*]; omega) | (simp only [lens, *]; done) | (simp only [lens, *]; omega))) rfl ?_
    refine OpsFrom.v (Y.shl (b := 1) u8s u8m (up0 rfl rfl rfl) rfl rfl rfl) rfl ?_
    refine OpsFrom.v (Y.move (up0 rfl rfl rfl) rfl rfl) rfl ?_
    refine OpsFrom.v (Y.add u8s u8m (up0 rfl rfl rfl) rfl rfl rfl) rfl ?_
    refine OpsFrom.v (Y.ia0 ty23 ty5 (up0 rfl rfl rfl) rfl rfl rfl (by omega)) rfl ?_
    refine OpsFrom.n (Y.stI ty5 (upN rfl rfl) rfl rfl rfl rfl (by first | (with_reducible assumption) | omega | (simp only [*]; done) | (simp only [*]; omega) | (simp only [lens, *]; done) | (simp only [lens, *]; omega))) rfl rfl ?_
    refine OpsFrom.nil ?_
    refine Holds.reg ?_
    refine OpsFrom.v (Y.move (up0 rfl rfl rfl) rfl rfl) rfl ?_
    refine OpsFrom.v (Y.ia0 ty23 ty5 (up0 rfl rfl rfl) rfl rfl rfl (by omega)) rfl ?_
    refine OpsFrom.v (Y.ldI ty5 rfl (up0 rfl rfl rfl) rfl rfl rfl (by first | (with_reducible assumption) | omega | (simp only [*]; done) | (simp only [*]; omega) | (simp only [lens, *]; done) | (simp only [lens, *]; omega))) rfl ?_
    refine OpsFrom.v (Y.shr (b := 7) u8s u8m (up0 rfl rfl rfl) rfl rfl rfl) rfl ?_
    refine OpsFrom.v (Y.assign (up0 rfl rfl rfl) rfl rfl) rfl ?_
    refine OpsFrom.nil ?_
    refine Holds.reg ?_
    refine OpsFrom.v (Y.move (up0 rfl rfl rfl) rfl rfl) rfl ?_
    refine OpsFrom.v (Y.addI (b := 1) (up0 rfl rfl rfl) rfl rfl rfl (by omega)) rfl ?_
    refine OpsFrom.v (Y.assign (up0 rfl rfl rfl) rfl rfl) rfl ?_
    refine OpsFrom.nil ?_
    exact Holds.again (i + 1) (by omega) (by omega) [] ⟨⟨rfl, rfl, rfl, rfl, rfl, trivial⟩, ⟨rfl, rfl, rfl, trivial⟩, rfl, rfl⟩
  · obtain rfl : i = 32 := by omega
    refine Holds.exit ?_
    refine Holds.seq ?_
    refine Holds.reg ?_
    refine OpsFrom.v (Y.ldAll ty23 rfl (up0 rfl rfl rfl) rfl rfl rfl (by first | (with_reducible assumption) | omega | (simp only [*]; done) | (simp only [*]; omega) | (simp only [lens, *]; done) | (simp only [lens, *]; omega)) (by decide)) rfl ?_
    refine OpsFrom.n (Y.stR ty23 (upN rfl rfl) rfl rfl rfl rfl rfl (by first | (with_reducible assumption) | omega | (simp only [*]; done) | (simp only [*]; omega) | (simp only [lens, *]; done) | (simp only [lens, *]; omega)) (by first | (with_reducible assumption) | omega | (simp only [*]; done) | (simp only [*]; omega) | (simp only [lens, *]; done) | (simp only [lens, *]; omega)) (by decide)) rfl rfl ?_
    refine OpsFrom.nil ?_
    refine Holds.ret ?_
    exact Holds.ret1 (.inl rfl) rfl (.rowN rfl rfl ty23 rfl (by first | (with_reducible assumption) | omega | (simp only [*]; done) | (simp only [*]; omega) | (simp only [lens, *]; done) | (simp only [lens, *]; omega)) (by decide)) (.same _) rfl
theorem w24 (x y : List Nat) (hx : x.length = 4) (hy : y.length = 4) : VC Try.prog 24 [.row (.ints .u64 x), .row (.ints .u64 y)] (.two (.row (.ints .u64 (lessS x y).1)) (.one (.n .u64 (lessS x y).2))) := by
  refine VC.go Try.func24 rfl Try.ntmps24 rfl rfl fun O w => ?_
  refine Holds.seq ?_
  refine Holds.reg ?_
  refine OpsFrom.u (Y.boxR (d := 2) (up0 rfl rfl rfl) rfl rfl rfl) rfl rfl rfl ?_
  refine OpsFrom.u (Y.boxR (d := 3) (up0 rfl rfl rfl) rfl rfl rfl) rfl rfl rfl ?_
  refine OpsFrom.u (Y.alloc (d := 4) ty38 rfl rfl (up0 rfl rfl rfl) rfl) rfl rfl rfl ?_
  refine OpsFrom.v (Y.assign (v := (.one (.n .u64 0))) (up0 rfl rfl rfl) rfl rfl) rfl ?_
  refine OpsFrom.nil ?_
  refine Holds.seq ?_
  refine Holds.seq ?_
  refine Holds.reg ?_
  refine OpsFrom.v (Y.move (v := (.one (.n .i64 0))) (up0 rfl rfl rfl) rfl rfl) rfl ?_
  refine OpsFrom.nil ?_
  refine Holds.block ?_
  refine Holds.loop (fun (i : Nat) => ⟨[(7, .one (.n .i64 i)), (2, .one (.p 2 0)), (3, .one (.p 3 0)), (4, .one (.p 4 0)), (5, .one (.n .u64 (iter (lsstep x y) i (List.replicate 4 0, 0)).2))], [(2, .own (.ints .u64 x)), (3, .own (.ints .u64 y)), (4, .own (.ints .u64 (iter (lsstep x y) i (List.replicate 4 0, 0)).1))]⟩) (fun (i : Nat) => i ≤ 4) (fun (i : Nat) => 4 - i) 0 (by omega) [] ⟨⟨rfl, rfl, rfl, rfl, rfl, trivial⟩, ⟨rfl, rfl, rfl, trivial⟩, rfl, rfl⟩ ?_
  intro i hok
  have hl := lslen x y i
  have hle := lsle x y i
  refine Holds.seq ?_
  refine Holds.reg ?_
  refine OpsFrom.v (Y.lss (b := 4) (up0 rfl rfl rfl) rfl rfl rfl) rfl ?_
  refine OpsFrom.nil ?_
  refine Holds.seq ?_
  refine Holds.condD rfl (fun h8 => ?_) (fun h8 => ?_)
  · refine Holds.skip ?_
    refine Holds.seq ?_
    refine Holds.block ?_
    refine Holds.seq ?_
    refine Holds.reg ?_
    refine OpsFrom.v (Y.move (up0 rfl rfl rfl) rfl rfl) rfl ?_
    refine OpsFrom.v (Y.assign (up0 rfl rfl rfl) rfl rfl) rfl ?_
    refine OpsFrom.nil ?_
    refine Holds.dr mx [([11], [12, 13, 14, 15, 16, 17, 18, 19, 10, 20, 21]), ([12], [11, 15, 16, 17, 18]), ([13], [11, 15, 16, 17, 18]), ([14], [11, 15, 16, 17, 18]), ([15], [11, 12, 13, 14, 18]), ([16], [11, 12, 13, 14, 18]), ([17], [11, 12, 13, 14, 18]), ([18], [11, 12, 13, 14, 15, 16, 17]), ([19], [11]), ([10], [11]), ([20], [11, 21]), ([21], [11, 20, 22, 4]), ([22], [21]), ([4], [21]), ([5], [])] (by kernel_rfl) ?_
    refine CertK.vd (Y.move (up0 rfl rfl rfl) rfl rfl) rfl rfl ?_
    refine CertK.vd (Y.move (up0 rfl rfl rfl) rfl rfl) rfl rfl ?_
    refine CertK.vd (Y.ia0 ty38 ty35 (up0 rfl rfl rfl) rfl rfl rfl (by omega)) rfl rfl ?_
    refine CertK.vd (Y.ldI ty35 rfl (up0 rfl rfl rfl) rfl rfl rfl (by first | (with_reducible assumption) | omega | (simp only [*]; done) | (simp only [*]; omega) | (simp only [lens, *]; done) | (simp only [lens, *]; omega))) rfl rfl ?_
    refine CertK.vd (Y.move (up0 rfl rfl rfl) rfl rfl) rfl rfl ?_
    refine CertK.vd (Y.ia0 ty38 ty35 (up0 rfl rfl rfl) rfl rfl rfl (by omega)) rfl rfl ?_
    refine CertK.vd (Y.ldI ty35 rfl (up0 rfl rfl rfl) rfl rfl rfl (by first | (with_reducible assumption) | omega | (simp only [*]; done) | (simp only [*]; omega) | (simp only [lens, *]; done) | (simp only [lens, *]; omega))) rfl rfl ?_
    refine CertK.vd (Y.move (up0 rfl rfl rfl) rfl rfl) rfl rfl ?_
    refine CertK.vd (Y.sub64 ext29 (up0 rfl rfl rfl) rfl rfl rfl rfl rfl (by first | (with_reducible assumption) | omega | (simp only [*]; done) | (simp only [*]; omega) | (simp only [lens, *]; done) | (simp only [lens, *]; omega))) rfl rfl ?_
    refine CertK.vd (Y.move (up0 rfl rfl rfl) rfl rfl) rfl rfl ?_
    refine CertK.vd (Y.ext0 (up0 rfl rfl rfl) rfl rfl) rfl rfl ?_
    refine CertK.vd (Y.ext1 (up0 rfl rfl rfl) rfl rfl) rfl rfl ?_
    refine CertK.vd (Y.ia0 ty38 ty35 (up0 rfl rfl rfl) rfl rfl rfl (by omega)) rfl rfl ?_
    refine CertK.n (Y.stI ty35 (upN rfl rfl) rfl rfl rfl rfl (by first | (with_reducible assumption) | omega | (simp only [*]; done) | (simp only [*]; omega) | (simp only [lens, *]; done) | (simp only [lens, *]; omega))) rfl rfl rfl rfl ?_
    refine CertK.v (Y.assign (up0 rfl rfl rfl) rfl rfl) rfl ?_
    refine CertK.nil ?_
    refine Holds.reg ?_
    refine OpsFrom.v (Y.addI (b := 1) (up0 rfl rfl rfl) rfl rfl rfl (by omega)) rfl ?_
    refine OpsFrom.v (Y.move (up0 rfl rfl rfl) rfl rfl) rfl ?_
    refine OpsFrom.nil ?_
    exact Holds.again (i + 1) (by omega) (by omega) [] ⟨⟨rfl, rfl, rfl, rfl, rfl, trivial⟩, ⟨rfl, rfl, rfl, trivial⟩, rfl, rfl⟩
  · obtain rfl : i = 4 := by omega
    refine Holds.exit ?_
    refine Holds.seq ?_
    refine Holds.reg ?_
    refine OpsFrom.v (Y.ldAll ty38 rfl (up0 rfl rfl rfl) rfl rfl rfl (by first | (with_reducible assumption) | omega | (simp only [*]; done) | (simp only [*]; omega) | (simp only [lens, *]; done) | (simp only [lens, *]; omega)) (by decide)) rfl ?_
    refine OpsFrom.v (Y.move (up0 rfl rfl rfl) rfl rfl) rfl ?_
    refine OpsFrom.n (Y.stR ty38 (upN rfl rfl) rfl rfl rfl rfl rfl (by first | (with_reducible assumption) | omega | (simp only [*]; done) | (simp only [*]; omega) | (simp only [lens, *]; done) | (simp only [lens, *]; omega)) (by first | (with_reducible assumption) | omega | (simp only [*]; done) | (simp only [*]; omega) | (simp only [lens, *]; done) | (simp only [lens, *]; omega)) (by decide)) rfl rfl ?_
    refine OpsFrom.v (Y.assign (up0 rfl rfl rfl) rfl rfl) rfl ?_
    refine OpsFrom.nil ?_
    refine Holds.ret ?_
    exact Holds.ret2 (.inl rfl) rfl (.rowN rfl rfl ty38 rfl (by first | (with_reducible assumption) | omega | (simp only [*]; done) | (simp only [*]; omega) | (simp only [lens, *]; done) | (simp only [lens, *]; omega)) (by decide)) (.tmp _ _ rfl) (.same _) rfl
theorem w22 (x y : Nat) : VC Try.prog 22 [.one (.n .u64 x), .one (.n .u64 y)] (.two (.one (.n .u64 (mulHi x y))) (.one (.n .u64 (x * y % 18446744073709551616)))) := by
  refine VC.go Try.func22 rfl Try.ntmps22 rfl rfl fun O w => ?_
  refine Holds.seq ?_
  refine Holds.reg ?_
  refine OpsFrom.v (Y.assign (v := (.one (.n .u64 0))) (up0 rfl rfl rfl) rfl rfl) rfl ?_
  refine OpsFrom.v (Y.assign (v := (.one (.n .u64 0))) (up0 rfl rfl rfl) rfl rfl) rfl ?_
  refine OpsFrom.nil ?_
  refine Holds.seq ?_
  refine Holds.reg ?_
  refine OpsFrom.v (Y.move (up0 rfl rfl rfl) rfl rfl) rfl ?_
  refine OpsFrom.v (Y.and (b := 4294967295) u64s u64m (up0 rfl rfl rfl) rfl rfl rfl) rfl ?_
  refine OpsFrom.v (Y.assign (up0 rfl rfl rfl) rfl rfl) rfl ?_
  refine OpsFrom.nil ?_
  refine Holds.seq ?_
  refine Holds.reg ?_
  refine OpsFrom.v (Y.move (up0 rfl rfl rfl) rfl rfl) rfl ?_
  refine OpsFrom.v (Y.shr (b := 32) u64s u64m (up0 rfl rfl rfl) rfl rfl rfl) rfl ?_
  refine OpsFrom.v (Y.assign (up0 rfl rfl rfl) rfl rfl) rfl ?_
  refine OpsFrom.nil ?_
  refine Holds.seq ?_
  refine Holds.reg ?_
  refine OpsFrom.v (Y.move (up0 rfl rfl rfl) rfl rfl) rfl ?_
  refine OpsFrom.v (Y.and (b := 4294967295) u64s u64m (up0 rfl rfl rfl) rfl rfl rfl) rfl ?_
  refine OpsFrom.v (Y.assign (up0 rfl rfl rfl) rfl rfl) rfl ?_
  refine OpsFrom.nil ?_
  refine Holds.seq ?_
  refine Holds.reg ?_
  refine OpsFrom.v (Y.move (up0 rfl rfl rfl) rfl rfl) rfl ?_
  refine OpsFrom.v (Y.shr (b := 32) u64s u64m (up0 rfl rfl rfl) rfl rfl rfl) rfl ?_
  refine OpsFrom.v (Y.assign (up0 rfl rfl rfl) rfl rfl) rfl ?_
  refine OpsFrom.nil ?_
  refine Holds.seq ?_
  refine Holds.reg ?_
  refine OpsFrom.v (Y.move (up0 rfl rfl rfl) rfl rfl) rfl ?_
  refine OpsFrom.v (Y.move (up0 rfl rfl rfl) rfl rfl) rfl ?_
  refine OpsFrom.v (Y.mul u64s u64m (up0 rfl rfl rfl) rfl rfl rfl) rfl ?_
  refine OpsFrom.v (Y.assign (up0 rfl rfl rfl) rfl rfl) rfl ?_
  refine OpsFrom.nil ?_
  refine Holds.seq ?_
  refine Holds.reg ?_
  refine OpsFrom.v (Y.move (up0 rfl rfl rfl) rfl rfl) rfl ?_
  refine OpsFrom.v (Y.move (up0 rfl rfl rfl) rfl rfl) rfl ?_
  refine OpsFrom.v (Y.mul u64s u64m (up0 rfl rfl rfl) rfl rfl rfl) rfl ?_
  refine OpsFrom.v (Y.move (up0 rfl rfl rfl) rfl rfl) rfl ?_
  refine OpsFrom.v (Y.shr (b := 32) u64s u64m (up0 rfl rfl rfl) rfl rfl rfl) rfl ?_
  refine OpsFrom.v (Y.add u64s u64m (up0 rfl rfl rfl) rfl rfl rfl) rfl ?_
  refine OpsFrom.v (Y.assign (up0 rfl rfl rfl) rfl rfl) rfl ?_
  refine OpsFrom.nil ?_
  refine Holds.seq ?_
  refine Holds.reg ?_
  refine OpsFrom.v (Y.move (up0 rfl rfl rfl) rfl rfl) rfl ?_
  refine OpsFrom.v (Y.and (b := 4294967295) u64s u64m (up0 rfl rfl rfl) rfl rfl rfl) rfl ?_
  refine OpsFrom.v (Y.assign (up0 rfl rfl rfl) rfl rfl) rfl ?_
  refine OpsFrom.nil ?_
  refine Holds.seq ?_
  refine Holds.reg ?_
  refine OpsFrom.v (Y.move (up0 rfl rfl rfl) rfl rfl) rfl ?_
  refine OpsFrom.v (Y.shr (b := 32) u64s u64m (up0 rfl rfl rfl) rfl rfl rfl) rfl ?_
  refine OpsFrom.v (Y.assign (up0 rfl rfl rfl) rfl rfl) rfl ?_
  refine OpsFrom.nil ?_
  refine Holds.seq ?_
  refine Holds.reg ?_
  refine OpsFrom.v (Y.move (up0 rfl rfl rfl) rfl rfl) rfl ?_
  refine OpsFrom.v (Y.move (up0 rfl rfl rfl) rfl rfl) rfl ?_
  refine OpsFrom.v (Y.move (up0 rfl rfl rfl) rfl rfl) rfl ?_
  refine OpsFrom.v (Y.mul u64s u64m (up0 rfl rfl rfl) rfl rfl rfl) rfl ?_
  refine OpsFrom.v (Y.add u64s u64m (up0 rfl rfl rfl) rfl rfl rfl) rfl ?_
  refine OpsFrom.v (Y.assign (up0 rfl rfl rfl) rfl rfl) rfl ?_
  refine OpsFrom.nil ?_
  refine Holds.seq ?_
  refine Holds.reg ?_
  refine OpsFrom.v (Y.move (up0 rfl rfl rfl) rfl rfl) rfl ?_
  refine OpsFrom.v (Y.move (up0 rfl rfl rfl) rfl rfl) rfl ?_
  refine OpsFrom.v (Y.mul u64s u64m (up0 rfl rfl rfl) rfl rfl rfl) rfl ?_
  refine OpsFrom.v (Y.move (up0 rfl rfl rfl) rfl rfl) rfl ?_
  refine OpsFrom.v (Y.add u64s u64m (up0 rfl rfl rfl) rfl rfl rfl) rfl ?_
  refine OpsFrom.v (Y.move (up0 rfl rfl rfl) rfl rfl) rfl ?_
  refine OpsFrom.v (Y.shr (b := 32) u64s u64m (up0 rfl rfl rfl) rfl rfl rfl) rfl ?_
  refine OpsFrom.v (Y.add u64s u64m (up0 rfl rfl rfl) rfl rfl rfl) rfl ?_
  refine OpsFrom.v (Y.assign (up0 rfl rfl rfl) rfl rfl) rfl ?_
  refine OpsFrom.nil ?_
  refine Holds.seq ?_
  refine Holds.reg ?_
  refine OpsFrom.v (Y.move (up0 rfl rfl rfl) rfl rfl) rfl ?_
  refine OpsFrom.v (Y.move (up0 rfl rfl rfl) rfl rfl) rfl ?_
  refine OpsFrom.v (Y.mul u64s u64m (up0 rfl rfl rfl) rfl rfl rfl) rfl ?_
  refine OpsFrom.v (Y.assign (up0 rfl rfl rfl) rfl rfl) rfl ?_
  refine OpsFrom.nil ?_
  refine Holds.ret ?_
  exact Holds.ret2 (.inl rfl) rfl (.tmp _ _ rfl) (.tmp _ _ rfl) (.same _) rfl

end Go.Proofs.Ytfnfcmgbbijlnaa
