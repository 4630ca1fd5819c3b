/-
  Walks: the other MulAdd.
-/
import Derived.Test.YtfnfcmgbbijlnaaWd
namespace Go.Proofs.Ytfnfcmgbbijlnaa
open Go Go.Fx
set_option linter.unusedVariables false
def pinner (a b : List Nat) (i j : Nat) (m : List Nat) : List Nat := m.set (i + j) (m.getD (i + j) 0 + a.getD i 0 * b.getD j 0)
def pouter (a b c : List Nat) (i : Nat) (m : List Nat) : List Nat := (iter (pinner a b i) 32 m).set i ((iter (pinner a b i) 32 m).getD i 0 + c.getD i 0)
def prod (a b c : List Nat) : List Nat := iter (pouter a b c) 32 (List.replicate 65 0)
theorem pilen (a b : List Nat) (i j : Nat) (m : List Nat) : (iter (pinner a b i) j m).length = m.length := iter_len (fun _ _ => by simp [pinner]) j
theorem polen (a b c : List Nat) (i : Nat) : (iter (pouter a b c) i (List.replicate 65 0)).length = 65 := (iter_len (fun _ _ => by simp [pouter, pilen]) i).trans (by simp)
theorem mul_byte {a b : List Nat} (ha : Lt 256 a) (hb : Lt 256 b) (i j : Nat) : a.getD i 0 * b.getD j 0 ≤ 65025 := Nat.mul_le_mul (Nat.le_of_lt_succ (ha i)) (Nat.le_of_lt_succ (hb j))
theorem pi_lt {a b : List Nat} (ha : Lt 256 a) (hb : Lt 256 b) (i : Nat) {m : List Nat} {K : Nat} (h : Lt K m) : ∀ j, Lt (K + 65025 * j) (iter (pinner a b i) j m)
  | 0 => h
  | j + 1 => by
    have ih := pi_lt ha hb i h j
    rw [iterS]
    have := ih (i + j)
    have := mul_byte ha hb i j
    exact (ih.mono (by omega)).set (by omega)
theorem po_lt {a b c : List Nat} (ha : Lt 256 a) (hb : Lt 256 b) (hc : Lt 256 c) : ∀ i, Lt (1 + 2081055 * i) (iter (pouter a b c) i (List.replicate 65 0))
  | 0 => Lt.replicate (by omega)
  | i + 1 => by
    have ih := pi_lt ha hb i (po_lt ha hb hc i) 32
    rw [iterS]
    have := ih i
    have := hc i
    exact (ih.mono (by omega)).set (by omega)
theorem po_step (a b c : List Nat) (i : Nat) (m : List Nat) : (iter (pinner a b i) 32 (iter (pouter a b c) i m)).set i ((iter (pinner a b i) 32 (iter (pouter a b c) i m)).getD i 0 + c.getD i 0) = iter (pouter a b c) (i + 1) m :=
  Eq.symm (iterS (pouter a b c) i m)
def cstep (q : List Nat) (t : Nat) (s : List Nat × Nat) : List Nat × Nat := (s.1.set t ((q.getD t 0 + s.2) % 256 % 256), (q.getD t 0 + s.2) / 256)
theorem cslen (q : List Nat) (i : Nat) : (iter (cstep q) i (List.replicate 65 0, 0)).1.length = 65 := iter_inv (fun (s : List Nat × Nat) => s.1.length = 65) (by simp) (fun i s h => by simpa [cstep] using h) i
theorem cs_lt {q : List Nat} (h : Lt 66593761 q) (i : Nat) : (iter (cstep q) i (List.replicate 65 0, 0)).2 < 1073741824 := iter_inv (fun (s : List Nat × Nat) => s.2 < 1073741824) (by decide) (fun i s hs => by
  have := h i
  simp only [cstep]
  omega) i
def mulAddB (a b c : List Nat) : List Nat := moduloB (iter (cstep (prod a b c)) 65 (List.replicate 65 0, 0)).1
theorem w11 (a b c : List Nat) (ha : a.length = 32) (hb : b.length = 32) (hc : c.length = 32) (ba : Lt 256 a) (bb : Lt 256 b) (bc : Lt 256 c) : VC Try.prog 11 [.row (.ints .u8 a), .row (.ints .u8 b), .row (.ints .u8 c)] (.row (.ints .u8 (mulAddB a b c))) := by
  refine VC.go Try.func11 rfl Try.ntmps11 rfl rfl fun O w => ?_
  refine Holds.seq ?_
  refine Holds.reg ?_
  refine OpsFrom.u (Y.boxR (d := 3) (up0 rfl rfl rfl) rfl rfl rfl) rfl rfl rfl ?_
  refine OpsFrom.u (Y.boxR (d := 4) (up0 rfl rfl rfl) rfl rfl rfl) rfl rfl rfl ?_
  refine OpsFrom.u (Y.boxR (d := 5) (up0 rfl rfl rfl) rfl rfl rfl) rfl rfl rfl ?_
  refine OpsFrom.u (Y.alloc (d := 6) ty23 rfl rfl (up0 rfl rfl rfl) rfl) rfl rfl rfl ?_
  refine OpsFrom.nil ?_
  refine Holds.seq ?_
  refine Holds.reg ?_
  refine OpsFrom.v (Y.buildA ty47 ty3 rfl (up0 rfl rfl rfl) rfl (.nil _)) rfl ?_
  refine OpsFrom.u (Y.alloc (d := 7) ty47 rfl rfl (up0 rfl rfl rfl) rfl) rfl rfl rfl ?_
  refine OpsFrom.n (Y.stR ty47 (upN rfl rfl) rfl rfl rfl rfl rfl (by first | (with_reducible assumption) | omega | (simp only [*]; done) | (simp only [*]; omega) | (simp only [lens, *]; done) | (simp only [lens, *]; omega)) (by first | (with_reducible assumption) | omega | (simp only [*]; done) | (simp only [*]; omega) | (simp only [lens, *]; done) | (simp only [lens, *]; omega)) (by decide)) rfl rfl ?_
  refine OpsFrom.nil ?_
  refine Holds.seq ?_
  refine Holds.seq ?_
  refine Holds.reg ?_
  refine OpsFrom.v (Y.assign (v := (.one (.n .i64 0))) (up0 rfl rfl rfl) rfl rfl) rfl ?_
  refine OpsFrom.nil ?_
  refine Holds.block ?_
  refine Holds.loop (fun (i : Nat) => ⟨[(8, .one (.n .i64 i)), (3, .one (.p 3 0)), (4, .one (.p 4 0)), (5, .one (.p 5 0)), (6, .one (.p 6 0)), (7, .one (.p 7 0))], [(3, .own (.ints .u8 a)), (4, .own (.ints .u8 b)), (5, .own (.ints .u8 c)), (6, .own (.ints .u8 (List.replicate 32 0))), (7, .own (.ints .i64 (iter (pouter a b c) i (List.replicate 65 0))))]⟩) (fun (i : Nat) => i ≤ 32) (fun (i : Nat) => 32 - i) 0 (by omega) [] ⟨⟨rfl, rfl, rfl, rfl, rfl, rfl, trivial⟩, ⟨rfl, rfl, rfl, rfl, (hEq (iter0 _ _).symm), trivial⟩, rfl, rfl⟩ ?_
  intro i hok
  have hl := polen a b c i
  have hpl := po_lt ba bb bc i
  refine Holds.seq ?_
  refine Holds.seq ?_
  refine Holds.reg ?_
  refine OpsFrom.v (Y.move (up0 rfl rfl rfl) rfl rfl) rfl ?_
  refine OpsFrom.v (Y.lss (b := 32) (up0 rfl rfl rfl) rfl rfl rfl) rfl ?_
  refine OpsFrom.nil ?_
  refine Holds.condD rfl (fun h16 => ?_) (fun h16 => ?_)
  · refine Holds.skip ?_
    refine Holds.seq ?_
    refine Holds.block ?_
    refine Holds.seq ?_
    refine Holds.seq ?_
    refine Holds.reg ?_
    refine OpsFrom.v (Y.assign (v := (.one (.n .i64 0))) (up0 rfl rfl rfl) rfl rfl) rfl ?_
    refine OpsFrom.nil ?_
    refine Holds.block ?_
    refine Holds.loop (fun (j : Nat) => ⟨[(9, .one (.n .i64 j)), (8, .one (.n .i64 i)), (3, .one (.p 3 0)), (4, .one (.p 4 0)), (5, .one (.p 5 0)), (6, .one (.p 6 0)), (7, .one (.p 7 0))], [(3, .own (.ints .u8 a)), (4, .own (.ints .u8 b)), (5, .own (.ints .u8 c)), (6, .own (.ints .u8 (List.replicate 32 0))), (7, .own (.ints .i64 (iter (pinner a b i) j (iter (pouter a b c) i (List.replicate 65 0)))))]⟩) (fun (j : Nat) => j ≤ 32) (fun (j : Nat) => 32 - j) 0 (by omega) [] ⟨⟨rfl, rfl, rfl, rfl, rfl, rfl, rfl, trivial⟩, ⟨rfl, rfl, rfl, rfl, (hEq (iter0 _ _).symm), trivial⟩, rfl, rfl⟩ ?_
    intro j hok2
    have hl2 := (pilen a b i j (iter (pouter a b c) i (List.replicate 65 0))).trans hl
    have hpl2 := pi_lt ba bb i hpl j (i + j)
    have hmb := mul_byte ba bb i j
    refine Holds.seq ?_
    refine Holds.seq ?_
    refine Holds.reg ?_
    refine OpsFrom.v (Y.move (up0 rfl rfl rfl) rfl rfl) rfl ?_
    refine OpsFrom.v (Y.lss (b := 32) (up0 rfl rfl rfl) rfl rfl rfl) rfl ?_
    refine OpsFrom.nil ?_
    refine Holds.condD rfl (fun h20 => ?_) (fun h20 => ?_)
    · refine Holds.skip ?_
      refine Holds.seq ?_
      refine Holds.block ?_
      refine Holds.dr mx [([23], [24, 26, 27, 28, 29, 30, 31, 32, 33, 34, 35, 36, 37, 38, 39, 40]), ([24], [23, 26, 27, 28, 29, 30, 31, 32, 33, 34, 35, 36, 37, 38, 39, 40]), ([25], [26, 27, 28, 29, 30, 31, 32, 33, 34, 35, 36, 37, 38, 39, 40]), ([26], [23, 24, 25, 27, 31, 32, 33, 34, 35, 36, 37, 38, 39]), ([27], [23, 24, 25, 26, 31, 32, 33, 34, 35, 36, 37, 38, 39]), ([28], [23, 24, 25, 31, 32, 33, 34, 35, 36, 37, 38, 39]), ([29], [23, 24, 25, 31, 32, 33, 34, 35, 36, 37, 38, 39]), ([30], [23, 24, 25, 31, 32, 33, 34, 35, 36, 37, 38, 39]), ([31], [23, 24, 25, 26, 27, 28, 29, 30, 35, 36, 37, 38]), ([32], [23, 24, 25, 26, 27, 28, 29, 30, 35, 36, 37, 38]), ([33], [23, 24, 25, 26, 27, 28, 29, 30, 35, 36, 37, 38]), ([34], [23, 24, 25, 26, 27, 28, 29, 30, 35, 36, 37, 38]), ([35], [23, 24, 25, 26, 27, 28, 29, 30, 31, 32, 33, 34]), ([36], [23, 24, 25, 26, 27, 28, 29, 30, 31, 32, 33, 34]), ([37], [23, 24, 25, 26, 27, 28, 29, 30, 31, 32, 33, 34]), ([38], [23, 24, 25, 26, 27, 28, 29, 30, 31, 32, 33, 34]), ([39], [23, 24, 25, 26, 27, 28, 29, 30]), ([40], [23, 24, 25]), ([41], []), ([7], [])] (by kernel_rfl) ?_
      refine CertK.vd (Y.move (up0 rfl rfl rfl) rfl rfl) rfl rfl ?_
      refine CertK.vd (Y.move (up0 rfl rfl rfl) rfl rfl) rfl rfl ?_
      refine CertK.vd (Y.addI (up0 rfl rfl rfl) rfl rfl rfl (by omega)) rfl rfl ?_
      refine CertK.vd (Y.move (up0 rfl rfl rfl) rfl rfl) rfl rfl ?_
      refine CertK.vd (Y.move (up0 rfl rfl rfl) rfl rfl) rfl rfl ?_
      refine CertK.vd (Y.addI (up0 rfl rfl rfl) rfl rfl rfl (by omega)) rfl rfl ?_
      refine CertK.vd (Y.ia0 ty47 ty3 (up0 rfl rfl rfl) rfl rfl rfl (by omega)) rfl rfl ?_
      refine CertK.vd (Y.ldI ty3 rfl (up0 rfl rfl rfl) rfl rfl rfl (by first | (with_reducible assumption) | omega | (simp only [*]; done) | (simp only [*]; omega) | (simp only [lens, *]; done) | (simp only [lens, *]; omega))) rfl rfl ?_
      refine CertK.vd (Y.move (up0 rfl rfl rfl) rfl rfl) rfl rfl ?_
      refine CertK.vd (Y.ia0 ty23 ty5 (up0 rfl rfl rfl) rfl rfl rfl (by omega)) rfl rfl ?_
      refine CertK.vd (Y.ldI ty5 rfl (up0 rfl rfl rfl) rfl rfl rfl (by first | (with_reducible assumption) | omega | (simp only [*]; done) | (simp only [*]; omega) | (simp only [lens, *]; done) | (simp only [lens, *]; omega))) rfl rfl ?_
      refine CertK.vd (Y.convUpI ty5.u ty3.u rfl (by decide) (up0 rfl rfl rfl) rfl rfl) rfl rfl ?_
      refine CertK.vd (Y.move (up0 rfl rfl rfl) rfl rfl) rfl rfl ?_
      refine CertK.vd (Y.ia0 ty23 ty5 (up0 rfl rfl rfl) rfl rfl rfl (by omega)) rfl rfl ?_
      refine CertK.vd (Y.ldI ty5 rfl (up0 rfl rfl rfl) rfl rfl rfl (by first | (with_reducible assumption) | omega | (simp only [*]; done) | (simp only [*]; omega) | (simp only [lens, *]; done) | (simp only [lens, *]; omega))) rfl rfl ?_
      refine CertK.vd (Y.convUpI ty5.u ty3.u rfl (by decide) (up0 rfl rfl rfl) rfl rfl) rfl rfl ?_
      refine CertK.vd (Y.mulI (up0 rfl rfl rfl) rfl rfl rfl (by omega)) rfl rfl ?_
      refine CertK.vd (Y.addI (up0 rfl rfl rfl) rfl rfl rfl (by omega)) rfl rfl ?_
      refine CertK.v (Y.ia0 ty47 ty3 (up0 rfl rfl rfl) rfl rfl rfl (by omega)) rfl ?_
      refine CertK.n (Y.stI ty3 (upN rfl rfl) rfl rfl rfl rfl (by first | (with_reducible assumption) | omega | (simp only [*]; done) | (simp only [*]; omega) | (simp only [lens, *]; done) | (simp only [lens, *]; omega))) rfl rfl rfl rfl ?_
      refine CertK.nil ?_
      refine Holds.reg ?_
      refine OpsFrom.v (Y.move (up0 rfl rfl rfl) rfl rfl) rfl ?_
      refine OpsFrom.v (Y.addI (b := 1) (up0 rfl rfl rfl) rfl rfl rfl (by omega)) rfl ?_
      refine OpsFrom.v (Y.assign (up0 rfl rfl rfl) rfl rfl) rfl ?_
      refine OpsFrom.nil ?_
      exact Holds.again (j + 1) (by omega) (by omega) [] ⟨⟨rfl, rfl, rfl, rfl, rfl, rfl, rfl, trivial⟩, ⟨rfl, rfl, rfl, rfl, rfl, trivial⟩, rfl, rfl⟩
    · obtain rfl : j = 32 := by omega
      have hpl3 := pi_lt ba bb i hpl 32 i
      have hbc := bc i
      refine Holds.exit ?_
      refine Holds.dr mx [([42], [43, 44, 45, 46, 47, 48, 49, 50]), ([43], [42, 46, 47, 48, 49]), ([44], [42, 46, 47, 48, 49]), ([45], [42, 46, 47, 48, 49]), ([46], [42, 43, 44, 45]), ([47], [42, 43, 44, 45]), ([48], [42, 43, 44, 45]), ([49], [42, 43, 44, 45]), ([50], [42]), ([51], []), ([7], [])] (by kernel_rfl) ?_
      refine CertK.vd (Y.move (up0 rfl rfl rfl) rfl rfl) rfl rfl ?_
      refine CertK.vd (Y.move (up0 rfl rfl rfl) rfl rfl) rfl rfl ?_
      refine CertK.vd (Y.ia0 ty47 ty3 (up0 rfl rfl rfl) rfl rfl rfl (by omega)) rfl rfl ?_
      refine CertK.vd (Y.ldI ty3 rfl (up0 rfl rfl rfl) rfl rfl rfl (by first | (with_reducible assumption) | omega | (simp only [*]; done) | (simp only [*]; omega) | (simp only [lens, *]; done) | (simp only [lens, *]; omega))) rfl rfl ?_
      refine CertK.vd (Y.move (up0 rfl rfl rfl) rfl rfl) rfl rfl ?_
      refine CertK.vd (Y.ia0 ty23 ty5 (up0 rfl rfl rfl) rfl rfl rfl (by omega)) rfl rfl ?_
      refine CertK.vd (Y.ldI ty5 rfl (up0 rfl rfl rfl) rfl rfl rfl (by first | (with_reducible assumption) | omega | (simp only [*]; done) | (simp only [*]; omega) | (simp only [lens, *]; done) | (simp only [lens, *]; omega))) rfl rfl ?_
      refine CertK.vd (Y.convUpI ty5.u ty3.u rfl (by decide) (up0 rfl rfl rfl) rfl rfl) rfl rfl ?_
      refine CertK.vd (Y.addI (up0 rfl rfl rfl) rfl rfl rfl (by omega)) rfl rfl ?_
      refine CertK.v (Y.ia0 ty47 ty3 (up0 rfl rfl rfl) rfl rfl rfl (by omega)) rfl ?_
      refine CertK.n (Y.stI ty3 (upN rfl rfl) rfl rfl rfl rfl (by first | (with_reducible assumption) | omega | (simp only [*]; done) | (simp only [*]; omega) | (simp only [lens, *]; done) | (simp only [lens, *]; omega))) rfl rfl rfl rfl ?_
      refine CertK.nil ?_
      refine Holds.reg ?_
      refine OpsFrom.v (Y.move (up0 rfl rfl rfl) rfl rfl) rfl ?_
      refine OpsFrom.v (Y.addI (b := 1) (up0 rfl rfl rfl) rfl rfl rfl (by omega)) rfl ?_
      refine OpsFrom.v (Y.assign (up0 rfl rfl rfl) rfl rfl) rfl ?_
      refine OpsFrom.nil ?_
      exact Holds.again (i + 1) (by omega) (by omega) [] ⟨⟨rfl, rfl, rfl, rfl, rfl, rfl, trivial⟩, ⟨rfl, rfl, rfl, rfl, (hEq (po_step a b c i _)), trivial⟩, rfl, rfl⟩
  · obtain rfl : i = 32 := by omega
    rw [show iter (pouter a b c) 32 (List.replicate 65 0) = prod a b c from rfl]
    refine Holds.exit ?_
    refine Holds.seq ?_
    refine Holds.reg ?_
    refine OpsFrom.v (Y.buildA ty48 ty5 rfl (up0 rfl rfl rfl) rfl (.nil _)) rfl ?_
    refine OpsFrom.u (Y.alloc (d := 10) ty48 rfl rfl (up0 rfl rfl rfl) rfl) rfl rfl rfl ?_
    refine OpsFrom.n (Y.stR ty48 (upN rfl rfl) rfl rfl rfl rfl rfl (by first | (with_reducible assumption) | omega | (simp only [*]; done) | (simp only [*]; omega) | (simp only [lens, *]; done) | (simp only [lens, *]; omega)) (by first | (with_reducible assumption) | omega | (simp only [*]; done) | (simp only [*]; omega) | (simp only [lens, *]; done) | (simp only [lens, *]; omega)) (by decide)) rfl rfl ?_
    refine OpsFrom.nil ?_
    refine Holds.seq ?_
    refine Holds.reg ?_
    refine OpsFrom.v (Y.assign (v := (.one (.n .i64 0))) (up0 rfl rfl rfl) rfl rfl) rfl ?_
    refine OpsFrom.nil ?_
    refine Holds.seq ?_
    refine Holds.seq ?_
    refine Holds.reg ?_
    refine OpsFrom.v (Y.assign (v := (.one (.n .i64 0))) (up0 rfl rfl rfl) rfl rfl) rfl ?_
    refine OpsFrom.nil ?_
    refine Holds.block ?_
    refine Holds.loop (fun (t : Nat) => ⟨[(12, .one (.n .i64 t)), (11, .one (.n .i64 (iter (cstep (prod a b c)) t (List.replicate 65 0, 0)).2)), (6, .one (.p 6 0)), (7, .one (.p 7 0)), (10, .one (.p 10 0))], [(6, .own (.ints .u8 (List.replicate 32 0))), (7, .own (.ints .i64 (prod a b c))), (10, .own (.ints .u8 (iter (cstep (prod a b c)) t (List.replicate 65 0, 0)).1))]⟩) (fun (t : Nat) => t ≤ 65) (fun (t : Nat) => 65 - t) 0 (by omega) [] ⟨⟨rfl, rfl, rfl, rfl, rfl, trivial⟩, ⟨rfl, rfl, rfl, trivial⟩, rfl, rfl⟩ ?_
    intro t hok
    have hl3 := cslen (prod a b c) t
    have hl4 : (prod a b c).length = 65 := polen a b c 32
    have hpp : Lt 66593761 (prod a b c) := po_lt ba bb bc 32
    have hpt := hpp t
    have hct := cs_lt hpp t
    refine Holds.seq ?_
    refine Holds.seq ?_
    refine Holds.reg ?_
    refine OpsFrom.v (Y.move (up0 rfl rfl rfl) rfl rfl) rfl ?_
    refine OpsFrom.v (Y.lss (b := 65) (up0 rfl rfl rfl) rfl rfl rfl) rfl ?_
    refine OpsFrom.nil ?_
    refine Holds.condD rfl (fun h54 => ?_) (fun h54 => ?_)
    · refine Holds.skip ?_
      refine Holds.seq ?_
      refine Holds.block ?_
      refine Holds.seq ?_
      refine Holds.reg ?_
      refine OpsFrom.v (Y.move (up0 rfl rfl rfl) rfl rfl) rfl ?_
      refine OpsFrom.v (Y.ia0 ty47 ty3 (up0 rfl rfl rfl) rfl rfl rfl (by omega)) rfl ?_
      refine OpsFrom.v (Y.ldI ty3 rfl (up0 rfl rfl rfl) rfl rfl rfl (by first | (with_reducible assumption) | omega | (simp only [*]; done) | (simp only [*]; omega) | (simp only [lens, *]; done) | (simp only [lens, *]; omega))) rfl ?_
      refine OpsFrom.v (Y.move (up0 rfl rfl rfl) rfl rfl) rfl ?_
      refine OpsFrom.v (Y.addI (up0 rfl rfl rfl) rfl rfl rfl (by omega)) rfl ?_
      refine OpsFrom.v (Y.assign (up0 rfl rfl rfl) rfl rfl) rfl ?_
      refine OpsFrom.nil ?_
      refine Holds.seq ?_
      refine Holds.reg ?_
      refine OpsFrom.v (Y.move (up0 rfl rfl rfl) rfl rfl) rfl ?_
      refine OpsFrom.v (Y.move (up0 rfl rfl rfl) rfl rfl) rfl ?_
      refine OpsFrom.v (Y.rem (b := 256) (up0 rfl rfl rfl) rfl rfl rfl (by decide)) rfl ?_
      refine OpsFrom.v (Y.conv ty3.u ty5.u u8s u8m (up0 rfl rfl rfl) rfl rfl) rfl ?_
      refine OpsFrom.v (Y.ia0 ty48 ty5 (up0 rfl rfl rfl) rfl rfl rfl (by omega)) rfl ?_
      refine OpsFrom.n (Y.stI ty5 (upN rfl rfl) rfl rfl rfl rfl (by first | (with_reducible assumption) | omega | (simp only [*]; done) | (simp only [*]; omega) | (simp only [lens, *]; done) | (simp only [lens, *]; omega))) rfl rfl ?_
      refine OpsFrom.nil ?_
      refine Holds.reg ?_
      refine OpsFrom.v (Y.move (up0 rfl rfl rfl) rfl rfl) rfl ?_
      refine OpsFrom.v (Y.quoI (b := 256) (up0 rfl rfl rfl) rfl rfl rfl (by omega) (by decide)) rfl ?_
      refine OpsFrom.v (Y.assign (up0 rfl rfl rfl) rfl rfl) rfl ?_
      refine OpsFrom.nil ?_
      refine Holds.reg ?_
      refine OpsFrom.v (Y.move (up0 rfl rfl rfl) rfl rfl) rfl ?_
      refine OpsFrom.v (Y.addI (b := 1) (up0 rfl rfl rfl) rfl rfl rfl (by omega)) rfl ?_
      refine OpsFrom.v (Y.assign (up0 rfl rfl rfl) rfl rfl) rfl ?_
      refine OpsFrom.nil ?_
      exact Holds.again (t + 1) (by omega) (by omega) [] ⟨⟨rfl, rfl, rfl, rfl, rfl, trivial⟩, ⟨rfl, rfl, rfl, trivial⟩, rfl, rfl⟩
    · obtain rfl : t = 65 := by omega
      have hml := moduloB_len (iter (cstep (prod a b c)) 65 (List.replicate 65 0, 0)).1
      refine Holds.exit ?_
      refine Holds.seq ?_
      refine Holds.reg ?_
      refine OpsFrom.v (Y.slArr0 ty48 ty5 (up0 rfl rfl rfl) rfl rfl rfl (by first | (with_reducible assumption) | omega | (simp only [*]; done) | (simp only [*]; omega) | (simp only [lens, *]; done) | (simp only [lens, *]; omega)) bnd0 bnd0 (by first | (with_reducible assumption) | omega | (simp only [*]; done) | (simp only [*]; omega) | (simp only [lens, *]; done) | (simp only [lens, *]; omega)) (by first | (with_reducible assumption) | omega | (simp only [*]; done) | (simp only [*]; omega) | (simp only [lens, *]; done) | (simp only [lens, *]; omega))) rfl ?_
      refine OpsFrom.v (Y.callV (w21 _ (by first | (with_reducible assumption) | omega | (simp only [*]; done) | (simp only [*]; omega) | (simp only [lens, *]; done) | (simp only [lens, *]; omega))) fnok21 (up0 rfl rfl rfl) rfl rfl (.cons _ _ _ _ rfl .nil) (.cons _ _ _ _ (.all rfl (by first | (with_reducible assumption) | omega | (simp only [*]; done) | (simp only [*]; omega) | (simp only [lens, *]; done) | (simp only [lens, *]; omega))) .nil) rfl rfl) rfl ?_
      refine OpsFrom.n (Y.stR ty23 (upN rfl rfl) rfl rfl rfl rfl rfl (by first | (with_reducible assumption) | omega | (simp only [*]; done) | (simp only [*]; omega) | (simp only [lens, *]; done) | (simp only [lens, *]; omega)) (by first | (with_reducible assumption) | omega | (simp only [*]; done) | (simp only [*]; omega) | (simp only [lens, *]; done) | (simp only [lens, *]; omega)) (by decide)) rfl rfl ?_
      refine OpsFrom.nil ?_
      refine Holds.ret ?_
      exact Holds.ret1 (.inl rfl) rfl (.rowN rfl rfl ty23 rfl (by first | (with_reducible assumption) | omega | (simp only [*]; done) | (simp only [*]; omega) | (simp only [lens, *]; done) | (simp only [lens, *]; omega)) (by decide)) (.same _) rfl

end Go.Proofs.Ytfnfcmgbbijlnaa
