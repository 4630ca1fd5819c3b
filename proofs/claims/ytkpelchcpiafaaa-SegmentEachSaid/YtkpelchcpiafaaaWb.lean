/-
  Walks.
-/
import Derived.Test.YtkpelchcpiafaaaWa
namespace Go.Proofs.Ytkpelchcpiafaaa
open Go Go.Fx
set_option linter.unusedVariables false
def qr1 (m : List Nat) (a b c s : Nat) : List Nat :=
  let m1 := m.set a ((m.getD a 0 + m.getD b 0) % 4294967296)
  m1.set c (rotl (m1.getD c 0 ^^^ m1.getD a 0) s)
theorem qr1_len (m : List Nat) (a b c s : Nat) : (qr1 m a b c s).length = m.length := by simp [qr1]
theorem w49a (m : List Nat) (a b c s : Nat) (hm : m.length = 16) (ha : a < 16) (hb : b < 16) (hc : c < 16) : UC Try.prog 49 [.one (.n .i64 a), .one (.n .i64 b), .one (.n .i64 c), .one (.n .i64 s), .one (.p 1000 0)] [(1000, .ints .u32 m)] (.one .u) [(1000, .ints .u32 (qr1 m a b c s))] := by
  refine UC.go Try.func49 rfl Try.ntmps49 rfl rfl rfl fun ρ O w => ?_
  refine Holds.seq ?_
  refine Holds.dr mx [([9], [12, 13, 14]), ([10], [12, 13, 14]), ([11], [12, 13, 14]), ([12], [9, 10, 11]), ([13], [9, 10, 11]), ([14], [9, 10, 11]), ([15], []), ([16], []), ([1000], [])] (by kernel_rfl) ?_
  refine CertK.vd (Y.move (up0 rfl rfl rfl) rfl rfl) rfl rfl ?_
  refine CertK.vd (Y.ia0 ty60 ty24 (up0 rfl rfl rfl) rfl rfl rfl (by omega)) rfl rfl ?_
  refine CertK.vd (Y.ldI ty24 rfl (up0 rfl rfl rfl) rfl rfl rfl (by first | (with_reducible assumption) | omega | (simp only [*]; done) | (simp only [*]; omega) | (simp only [lens, *]; done) | (simp only [lens, *]; omega))) rfl rfl ?_
  refine CertK.vd (Y.move (up0 rfl rfl rfl) rfl rfl) rfl rfl ?_
  refine CertK.vd (Y.ia0 ty60 ty24 (up0 rfl rfl rfl) rfl rfl rfl (by omega)) rfl rfl ?_
  refine CertK.vd (Y.ldI ty24 rfl (up0 rfl rfl rfl) rfl rfl rfl (by first | (with_reducible assumption) | omega | (simp only [*]; done) | (simp only [*]; omega) | (simp only [lens, *]; done) | (simp only [lens, *]; omega))) rfl rfl ?_
  refine CertK.v (Y.add u32s u32m (up0 rfl rfl rfl) rfl rfl rfl) rfl ?_
  refine CertK.v (Y.ia0 ty60 ty24 (up0 rfl rfl rfl) rfl rfl rfl (by omega)) rfl ?_
  refine CertK.n (Y.stI ty24 (upN rfl rfl) rfl rfl rfl rfl (by first | (with_reducible assumption) | omega | (simp only [*]; done) | (simp only [*]; omega) | (simp only [lens, *]; done) | (simp only [lens, *]; omega))) rfl rfl rfl rfl ?_
  refine CertK.nil ?_
  refine Holds.dr mx [([17], [18, 19, 20, 21, 22, 23, 24, 25, 26]), ([18], [17, 21, 22, 23, 25]), ([19], [17, 21, 22, 23, 25]), ([20], [17, 21, 22, 23, 25]), ([21], [17, 18, 19, 20, 25]), ([22], [17, 18, 19, 20, 25]), ([23], [17, 18, 19, 20, 25]), ([24], [17, 25]), ([25], [17, 18, 19, 20, 21, 22, 23, 24]), ([26], [17]), ([27], []), ([1000], [])] (by kernel_rfl) ?_
  refine CertK.vd (Y.move (up0 rfl rfl rfl) rfl rfl) rfl rfl ?_
  refine CertK.vd (Y.move (up0 rfl rfl rfl) rfl rfl) rfl rfl ?_
  refine CertK.vd (Y.ia0 ty60 ty24 (up0 rfl rfl rfl) rfl rfl rfl (by omega)) rfl rfl ?_
  refine CertK.vd (Y.ldI ty24 rfl (up0 rfl rfl rfl) rfl rfl rfl (by first | (with_reducible assumption) | omega | (simp only [*]; done) | (simp only [*]; omega) | (simp only [lens, *]; done) | (simp only [lens, *]; omega))) rfl rfl ?_
  refine CertK.vd (Y.move (up0 rfl rfl rfl) rfl rfl) rfl rfl ?_
  refine CertK.vd (Y.ia0 ty60 ty24 (up0 rfl rfl rfl) rfl rfl rfl (by omega)) rfl rfl ?_
  refine CertK.vd (Y.ldI ty24 rfl (up0 rfl rfl rfl) rfl rfl rfl (by first | (with_reducible assumption) | omega | (simp only [*]; done) | (simp only [*]; omega) | (simp only [lens, *]; done) | (simp only [lens, *]; omega))) rfl rfl ?_
  refine CertK.vd (Y.xor u32s u32m (up0 rfl rfl rfl) rfl rfl rfl) rfl rfl ?_
  refine CertK.vd (Y.move (up0 rfl rfl rfl) rfl rfl) rfl rfl ?_
  refine CertK.vd (Y.callV (w50 _ _) fnok50 (up0 rfl rfl rfl) rfl rfl (.cons _ _ _ _ rfl (.cons _ _ _ _ rfl .nil)) (.cons _ _ _ _ (.same _) (.cons _ _ _ _ (.same _) .nil)) rfl rfl) rfl rfl ?_
  refine CertK.v (Y.ia0 ty60 ty24 (up0 rfl rfl rfl) rfl rfl rfl (by omega)) rfl ?_
  refine CertK.n (Y.stI ty24 (upN rfl rfl) rfl rfl rfl rfl (by first | (with_reducible assumption) | omega | (simp only [*]; done) | (simp only [*]; omega) | (simp only [lens, *]; done) | (simp only [lens, *]; omega))) rfl rfl rfl rfl ?_
  refine CertK.nil ?_
  exact Holds.retU (nt := 28) (.inr rfl) (fun _ _ _ _ hs => ResL.none.run hs rfl) rfl rfl (by intro x hx; simp only [List.mem_singleton] at hx; subst hx; exact ⟨rfl, by rw [show Cs.len (.ints .u32 (qr1 m a b c s)) = m.length from qr1_len m a b c s, hm]; decide, rfl⟩)
theorem w49 (id : Nat) (m : List Nat) (a b c s : Nat) (hm : m.length = 16) (ha : a < 16) (hb : b < 16) (hc : c < 16) : UC Try.prog 49 [.one (.n .i64 a), .one (.n .i64 b), .one (.n .i64 c), .one (.n .i64 s), .one (.p id 0)] [(id, .ints .u32 m)] (.one .u) [(id, .ints .u32 (qr1 m a b c s))] :=
  UC.ren1 (w49a m a b c s hm ha hb hc) rfl rfl rfl id
def m0 (ctr : Nat) : List Nat := [1634760805, 857760878, 2036477234, 1797285236, 0, 0, 0, 0, 0, 0, 0, 0, ctr, 0, 0, 0]
def kstep (key : List Nat) (i : Nat) (m : List Nat) : List Nat := m.set (4 + i / 4) (m.getD (4 + i / 4) 0 ||| key.getD i 0 * 2 ^ (8 * (i % 4)) % 4294967296)
def nstep (nonce : List Nat) (i : Nat) (m : List Nat) : List Nat := m.set (13 + i / 4) (m.getD (13 + i / 4) 0 ||| nonce.getD i 0 * 2 ^ (8 * (i % 4)) % 4294967296)
def m1 (key : List Nat) (ctr : Nat) : List Nat := iter (kstep key) 32 (m0 ctr)
def m2 (key : List Nat) (ctr : Nat) (nonce : List Nat) : List Nat := iter (nstep nonce) 12 (m1 key ctr)
def quarters : List Nat := [0, 4, 8, 12, 1, 5, 9, 13, 2, 6, 10, 14, 3, 7, 11, 15, 0, 5, 10, 15, 1, 6, 11, 12, 2, 7, 8, 13, 3, 4, 9, 14]
def qstep (q : Nat) (m : List Nat) : List Nat :=
  let z := (quarters.drop (q * 4)).take 4
  let a := z.getD 0 0
  let b := z.getD 1 0
  let c := z.getD 2 0
  let d := z.getD 3 0
  qr1 (qr1 (qr1 (qr1 m a b d 16) c d b 12) a b d 8) c d b 7
def dround (_ : Nat) (m : List Nat) : List Nat := iter qstep 8 m
def ostep (x y : List Nat) (i : Nat) (o : List Nat) : List Nat := o.set i ((x.getD (i / 4) 0 + y.getD (i / 4) 0) % 4294967296 / 2 ^ (8 * (i % 4)) % 256)
def block (key : List Nat) (ctr : Nat) (nonce : List Nat) : List Nat := iter (ostep (iter dround 10 (m2 key ctr nonce)) (m2 key ctr nonce)) 64 (List.replicate 64 0)
theorem klen (key : List Nat) (i ctr : Nat) : (iter (kstep key) i (m0 ctr)).length = 16 := iter_len (fun _ _ => by simp [kstep]) i
theorem nlen (key nonce : List Nat) (i ctr : Nat) : (iter (nstep nonce) i (m1 key ctr)).length = 16 := (iter_len (fun _ _ => by simp [nstep]) i).trans (klen key 32 ctr)
theorem m2len (key : List Nat) (ctr : Nat) (nonce : List Nat) : (m2 key ctr nonce).length = 16 := nlen key nonce 12 ctr
theorem qlen (q : Nat) (m : List Nat) : (iter qstep q m).length = m.length := iter_len (fun _ _ => by simp [qstep, qr1]) q
theorem dlen (r : Nat) (m : List Nat) (h : m.length = 16) : (iter dround r m).length = 16 := (iter_len (fun _ m => qlen 8 m) r).trans h
theorem olen (x y : List Nat) (i : Nat) : (iter (ostep x y) i (List.replicate 64 0)).length = 64 := (iter_len (fun _ _ => by simp [ostep]) i).trans (by simp)
theorem quarters_len : quarters.length = 32 := rfl
theorem hq4 : ∀ q, q < 8 → ∀ j, j < 4 → ((quarters.drop (q * 4)).take 4).getD j 0 < 16 := by decide
theorem w29 (key nonce : List Nat) (ctr : Nat) (hk : key.length = 32) (hn : nonce.length = 12) : VC Try.prog 29 [.row (.ints .u8 key), .one (.n .u32 ctr), .row (.ints .u8 nonce)] (.row (.ints .u8 (block key ctr nonce))) := by
  refine VC.go Try.func29 rfl Try.ntmps29 rfl rfl fun O w => ?_
  refine Holds.seq ?_
  refine Holds.reg ?_
  refine OpsFrom.u (Y.boxR (d := 3) (up0 rfl rfl rfl) rfl rfl rfl) rfl rfl rfl ?_
  refine OpsFrom.u (Y.boxR (d := 5) (up0 rfl rfl rfl) rfl rfl rfl) rfl rfl rfl ?_
  refine OpsFrom.u (Y.alloc (d := 6) ty30 rfl rfl (up0 rfl rfl rfl) rfl) rfl rfl rfl ?_
  refine OpsFrom.nil ?_
  refine Holds.seq ?_
  refine Holds.reg ?_
  refine OpsFrom.v (Y.move (up0 rfl rfl rfl) rfl rfl) rfl ?_
  refine OpsFrom.v (Y.buildA ty60 ty24 rfl (up0 rfl rfl rfl) rfl (.cons _ _ _ _ _ _ (.one (.n .u32 1634760805)) _ _ rfl rfl rfl rfl (Spl.n (by decide)) (.cons _ _ _ _ _ _ (.one (.n .u32 857760878)) _ _ rfl rfl rfl rfl (Spl.n (by decide)) (.cons _ _ _ _ _ _ (.one (.n .u32 2036477234)) _ _ rfl rfl rfl rfl (Spl.n (by decide)) (.cons _ _ _ _ _ _ (.one (.n .u32 1797285236)) _ _ rfl rfl rfl rfl (Spl.n (by decide)) (.cons _ _ _ _ _ _ _ _ _ rfl rfl rfl rfl (Spl.n (by decide)) (.nil _))))))) rfl ?_
  refine OpsFrom.u (Y.alloc (d := 7) ty60 rfl rfl (up0 rfl rfl rfl) rfl) rfl rfl rfl ?_
  refine OpsFrom.n (Y.stR ty60 (upN rfl rfl) rfl rfl rfl rfl rfl (by first | (with_reducible assumption) | omega | (simp only [*]; done) | (simp only [*]; omega) | (simp only [lens, *]; done) | (simp only [lens, *]; omega)) (by first | (with_reducible assumption) | omega | (simp only [*]; done) | (simp only [*]; omega) | (simp only [lens, *]; done) | (simp only [lens, *]; omega)) (by decide)) rfl rfl ?_
  refine OpsFrom.nil ?_
  refine Holds.seq ?_
  refine Holds.seq ?_
  refine Holds.reg ?_
  refine OpsFrom.v (Y.ldAll ty23 rfl (up0 rfl rfl rfl) rfl rfl rfl (by first | (with_reducible assumption) | omega | (simp only [*]; done) | (simp only [*]; omega) | (simp only [lens, *]; done) | (simp only [lens, *]; omega)) (by decide)) rfl ?_
  refine OpsFrom.v (Y.move (v := (.one (.n .i64 0))) (up0 rfl rfl rfl) rfl rfl) rfl ?_
  refine OpsFrom.nil ?_
  refine Holds.block ?_
  refine Holds.loop (fun (i : Nat) => ⟨[(25, .one (.n .i64 i)), (24, .row (.ints .u8 key)), (7, .one (.p 7 0)), (5, .one (.p 5 0)), (6, .one (.p 6 0))], [(7, .own (.ints .u32 (iter (kstep key) i (m0 ctr)))), (5, .own (.ints .u8 nonce)), (6, .own (.ints .u8 (List.replicate 64 0)))]⟩) (fun (i : Nat) => i ≤ 32) (fun (i : Nat) => 32 - i) 0 (by omega) [] ⟨⟨rfl, rfl, rfl, rfl, rfl, trivial⟩, ⟨(hEq (iter0 _ _).symm), rfl, rfl, trivial⟩, rfl, rfl⟩ ?_
  intro i hok
  have hl := klen key i ctr
  refine Holds.seq ?_
  refine Holds.reg ?_
  refine OpsFrom.v (Y.lss (b := 32) (up0 rfl rfl rfl) rfl rfl rfl) rfl ?_
  refine OpsFrom.nil ?_
  refine Holds.seq ?_
  refine Holds.condD rfl (fun h26 => ?_) (fun h26 => ?_)
  · refine Holds.skip ?_
    refine Holds.seq ?_
    refine Holds.block ?_
    refine Holds.seq ?_
    refine Holds.reg ?_
    refine OpsFrom.v (Y.move (up0 rfl rfl rfl) rfl rfl) rfl ?_
    refine OpsFrom.v (Y.idxI ty23 ty5 rfl (up0 rfl rfl rfl) rfl rfl rfl (by omega) (by omega)) rfl ?_
    refine OpsFrom.v (Y.assign (up0 rfl rfl rfl) rfl rfl) rfl ?_
    refine OpsFrom.v (Y.assign (up0 rfl rfl rfl) rfl rfl) rfl ?_
    refine OpsFrom.nil ?_
    refine Holds.dr mx [([29], [34, 35, 36, 37, 38, 39]), ([30], [34, 35, 36, 37, 38, 39]), ([31], [34, 35, 36, 37, 38, 39]), ([32], [34, 35, 36, 37, 38, 39]), ([33], [34, 35, 36, 37, 38, 39]), ([34], [29, 30, 31, 32, 33, 36, 37, 38]), ([35], [29, 30, 31, 32, 33, 36, 37, 38]), ([36], [29, 30, 31, 32, 33, 34, 35]), ([37], [29, 30, 31, 32, 33, 34, 35]), ([38], [29, 30, 31, 32, 33, 34, 35]), ([39], [29, 30, 31, 32, 33]), ([40], []), ([41], []), ([7], [])] (by kernel_rfl) ?_
    refine CertK.vd (Y.move (up0 rfl rfl rfl) rfl rfl) rfl rfl ?_
    refine CertK.vd (Y.quoI (b := 4) (up0 rfl rfl rfl) rfl rfl rfl (by omega) (by decide)) rfl rfl ?_
    refine CertK.vd (Y.addI (a := 4) (up0 rfl rfl rfl) rfl rfl rfl (by omega)) rfl rfl ?_
    refine CertK.vd (Y.ia0 ty60 ty24 (up0 rfl rfl rfl) rfl rfl rfl (by omega)) rfl rfl ?_
    refine CertK.vd (Y.ldI ty24 rfl (up0 rfl rfl rfl) rfl rfl rfl (by first | (with_reducible assumption) | omega | (simp only [*]; done) | (simp only [*]; omega) | (simp only [lens, *]; done) | (simp only [lens, *]; omega))) rfl rfl ?_
    refine CertK.vd (Y.move (up0 rfl rfl rfl) rfl rfl) rfl rfl ?_
    refine CertK.vd (Y.convUp ty5.u ty24.u rfl rfl (by decide) (up0 rfl rfl rfl) rfl rfl) rfl rfl ?_
    refine CertK.vd (Y.move (up0 rfl rfl rfl) rfl rfl) rfl rfl ?_
    refine CertK.vd (Y.rem (b := 4) (up0 rfl rfl rfl) rfl rfl rfl (by decide)) rfl rfl ?_
    refine CertK.vd (Y.mulI (a := 8) (up0 rfl rfl rfl) rfl rfl rfl (by omega)) rfl rfl ?_
    refine CertK.vd (Y.shl u32s u32m (up0 rfl rfl rfl) rfl rfl rfl) rfl rfl ?_
    refine CertK.v (Y.or u32s u32m (up0 rfl rfl rfl) rfl rfl rfl) rfl ?_
    refine CertK.v (Y.ia0 ty60 ty24 (up0 rfl rfl rfl) rfl rfl rfl (by omega)) rfl ?_
    refine CertK.n (Y.stI ty24 (upN rfl rfl) rfl rfl rfl rfl (by first | (with_reducible assumption) | omega | (simp only [*]; done) | (simp only [*]; omega) | (simp only [lens, *]; done) | (simp only [lens, *]; omega))) rfl rfl rfl rfl ?_
    refine CertK.nil ?_
    refine Holds.reg ?_
    refine OpsFrom.v (Y.addI (b := 1) (up0 rfl rfl rfl) rfl rfl rfl (by omega)) rfl ?_
    refine OpsFrom.v (Y.move (up0 rfl rfl rfl) rfl rfl) rfl ?_
    refine OpsFrom.nil ?_
    exact Holds.again (i + 1) (by omega) (by omega) [] ⟨⟨rfl, rfl, rfl, rfl, rfl, trivial⟩, ⟨rfl, rfl, rfl, trivial⟩, rfl, rfl⟩
  · obtain rfl : i = 32 := by omega
    rw [show iter (kstep key) 32 (m0 ctr) = m1 key ctr from rfl]
    refine Holds.exit ?_
    refine Holds.seq ?_
    refine Holds.seq ?_
    refine Holds.reg ?_
    refine OpsFrom.v (Y.ldAll ty25 rfl (up0 rfl rfl rfl) rfl rfl rfl (by first | (with_reducible assumption) | omega | (simp only [*]; done) | (simp only [*]; omega) | (simp only [lens, *]; done) | (simp only [lens, *]; omega)) (by decide)) rfl ?_
    refine OpsFrom.v (Y.move (v := (.one (.n .i64 0))) (up0 rfl rfl rfl) rfl rfl) rfl ?_
    refine OpsFrom.nil ?_
    refine Holds.block ?_
    refine Holds.loop (fun (i : Nat) => ⟨[(44, .one (.n .i64 i)), (43, .row (.ints .u8 nonce)), (7, .one (.p 7 0)), (6, .one (.p 6 0))], [(7, .own (.ints .u32 (iter (nstep nonce) i (m1 key ctr)))), (6, .own (.ints .u8 (List.replicate 64 0)))]⟩) (fun (i : Nat) => i ≤ 12) (fun (i : Nat) => 12 - i) 0 (by omega) [] ⟨⟨rfl, rfl, rfl, rfl, trivial⟩, ⟨(hEq (iter0 _ _).symm), rfl, trivial⟩, rfl, rfl⟩ ?_
    intro i hok
    have hl := nlen key nonce i ctr
    refine Holds.seq ?_
    refine Holds.reg ?_
    refine OpsFrom.v (Y.lss (b := 12) (up0 rfl rfl rfl) rfl rfl rfl) rfl ?_
    refine OpsFrom.nil ?_
    refine Holds.seq ?_
    refine Holds.condD rfl (fun h45 => ?_) (fun h45 => ?_)
    · refine Holds.skip ?_
      refine Holds.seq ?_
      refine Holds.block ?_
      refine Holds.seq ?_
      refine Holds.reg ?_
      refine OpsFrom.v (Y.move (up0 rfl rfl rfl) rfl rfl) rfl ?_
      refine OpsFrom.v (Y.idxI ty25 ty5 rfl (up0 rfl rfl rfl) rfl rfl rfl (by omega) (by omega)) rfl ?_
      refine OpsFrom.v (Y.assign (up0 rfl rfl rfl) rfl rfl) rfl ?_
      refine OpsFrom.v (Y.assign (up0 rfl rfl rfl) rfl rfl) rfl ?_
      refine OpsFrom.nil ?_
      refine Holds.dr mx [([48], [53, 54, 55, 56, 57, 58]), ([49], [53, 54, 55, 56, 57, 58]), ([50], [53, 54, 55, 56, 57, 58]), ([51], [53, 54, 55, 56, 57, 58]), ([52], [53, 54, 55, 56, 57, 58]), ([53], [48, 49, 50, 51, 52, 55, 56, 57]), ([54], [48, 49, 50, 51, 52, 55, 56, 57]), ([55], [48, 49, 50, 51, 52, 53, 54]), ([56], [48, 49, 50, 51, 52, 53, 54]), ([57], [48, 49, 50, 51, 52, 53, 54]), ([58], [48, 49, 50, 51, 52]), ([59], []), ([60], []), ([7], [])] (by kernel_rfl) ?_
      refine CertK.vd (Y.move (up0 rfl rfl rfl) rfl rfl) rfl rfl ?_
      refine CertK.vd (Y.quoI (b := 4) (up0 rfl rfl rfl) rfl rfl rfl (by omega) (by decide)) rfl rfl ?_
      refine CertK.vd (Y.addI (a := 13) (up0 rfl rfl rfl) rfl rfl rfl (by omega)) rfl rfl ?_
      refine CertK.vd (Y.ia0 ty60 ty24 (up0 rfl rfl rfl) rfl rfl rfl (by omega)) rfl rfl ?_
      refine CertK.vd (Y.ldI ty24 rfl (up0 rfl rfl rfl) rfl rfl rfl (by first | (with_reducible assumption) | omega | (simp only [*]; done) | (simp only [*]; omega) | (simp only [lens, *]; done) | (simp only [lens, *]; omega))) rfl rfl ?_
      refine CertK.vd (Y.move (up0 rfl rfl rfl) rfl rfl) rfl rfl ?_
      refine CertK.vd (Y.convUp ty5.u ty24.u rfl rfl (by decide) (up0 rfl rfl rfl) rfl rfl) rfl rfl ?_
      refine CertK.vd (Y.move (up0 rfl rfl rfl) rfl rfl) rfl rfl ?_
      refine CertK.vd (Y.rem (b := 4) (up0 rfl rfl rfl) rfl rfl rfl (by decide)) rfl rfl ?_
      refine CertK.vd (Y.mulI (a := 8) (up0 rfl rfl rfl) rfl rfl rfl (by omega)) rfl rfl ?_
      refine CertK.vd (Y.shl u32s u32m (up0 rfl rfl rfl) rfl rfl rfl) rfl rfl ?_
      refine CertK.v (Y.or u32s u32m (up0 rfl rfl rfl) rfl rfl rfl) rfl ?_
      refine CertK.v (Y.ia0 ty60 ty24 (up0 rfl rfl rfl) rfl rfl rfl (by omega)) rfl ?_
      refine CertK.n (Y.stI ty24 (upN rfl rfl) rfl rfl rfl rfl (by first | (with_reducible assumption) | omega | (simp only [*]; done) | (simp only [*]; omega) | (simp only [lens, *]; done) | (simp only [lens, *]; omega))) rfl rfl rfl rfl ?_
      refine CertK.nil ?_
      refine Holds.reg ?_
      refine OpsFrom.v (Y.addI (b := 1) (up0 rfl rfl rfl) rfl rfl rfl (by omega)) rfl ?_
      refine OpsFrom.v (Y.move (up0 rfl rfl rfl) rfl rfl) rfl ?_
      refine OpsFrom.nil ?_
      exact Holds.again (i + 1) (by omega) (by omega) [] ⟨⟨rfl, rfl, rfl, rfl, trivial⟩, ⟨rfl, rfl, trivial⟩, rfl, rfl⟩
    · obtain rfl : i = 12 := by omega
      rw [show iter (nstep nonce) 12 (m1 key ctr) = m2 key ctr nonce from rfl]
      have hl2 := m2len key ctr nonce
      have hq := quarters_len
      refine Holds.exit ?_
      refine Holds.seq ?_
      refine Holds.reg ?_
      refine OpsFrom.v (Y.ldAll ty60 rfl (up0 rfl rfl rfl) rfl rfl rfl (by first | (with_reducible assumption) | omega | (simp only [*]; done) | (simp only [*]; omega) | (simp only [lens, *]; done) | (simp only [lens, *]; omega)) (by decide)) rfl ?_
      refine OpsFrom.u (Y.alloc (d := 12) ty60 rfl rfl (up0 rfl rfl rfl) rfl) rfl rfl rfl ?_
      refine OpsFrom.n (Y.stR ty60 (upN rfl rfl) rfl rfl rfl rfl rfl (by first | (with_reducible assumption) | omega | (simp only [*]; done) | (simp only [*]; omega) | (simp only [lens, *]; done) | (simp only [lens, *]; omega)) (by first | (with_reducible assumption) | omega | (simp only [*]; done) | (simp only [*]; omega) | (simp only [lens, *]; done) | (simp only [lens, *]; omega)) (by decide)) rfl rfl ?_
      refine OpsFrom.nil ?_
      refine Holds.seq ?_
      refine Holds.reg ?_
      refine OpsFrom.v (Y.mkF (up0 rfl rfl rfl) rfl (.cons _ _ _ _ rfl Caps.nil)) rfl ?_
      refine OpsFrom.v (Y.assign (up0 rfl rfl rfl) rfl rfl) rfl ?_
      refine OpsFrom.nil ?_
      refine Holds.seq ?_
      refine Holds.reg ?_
      refine OpsFrom.v (Y.buildA ty63 ty3 rfl (up0 rfl rfl rfl) rfl (.cons _ _ _ _ _ _ (.one (.n .i64 0)) _ _ rfl rfl rfl rfl (Spl.n (by decide)) (.cons _ _ _ _ _ _ (.one (.n .i64 4)) _ _ rfl rfl rfl rfl (Spl.n (by decide)) (.cons _ _ _ _ _ _ (.one (.n .i64 8)) _ _ rfl rfl rfl rfl (Spl.n (by decide)) (.cons _ _ _ _ _ _ (.one (.n .i64 12)) _ _ rfl rfl rfl rfl (Spl.n (by decide)) (.nil _)))))) rfl ?_
      refine OpsFrom.v (Y.buildA ty63 ty3 rfl (up0 rfl rfl rfl) rfl (.cons _ _ _ _ _ _ (.one (.n .i64 1)) _ _ rfl rfl rfl rfl (Spl.n (by decide)) (.cons _ _ _ _ _ _ (.one (.n .i64 5)) _ _ rfl rfl rfl rfl (Spl.n (by decide)) (.cons _ _ _ _ _ _ (.one (.n .i64 9)) _ _ rfl rfl rfl rfl (Spl.n (by decide)) (.cons _ _ _ _ _ _ (.one (.n .i64 13)) _ _ rfl rfl rfl rfl (Spl.n (by decide)) (.nil _)))))) rfl ?_
      refine OpsFrom.v (Y.buildA ty63 ty3 rfl (up0 rfl rfl rfl) rfl (.cons _ _ _ _ _ _ (.one (.n .i64 2)) _ _ rfl rfl rfl rfl (Spl.n (by decide)) (.cons _ _ _ _ _ _ (.one (.n .i64 6)) _ _ rfl rfl rfl rfl (Spl.n (by decide)) (.cons _ _ _ _ _ _ (.one (.n .i64 10)) _ _ rfl rfl rfl rfl (Spl.n (by decide)) (.cons _ _ _ _ _ _ (.one (.n .i64 14)) _ _ rfl rfl rfl rfl (Spl.n (by decide)) (.nil _)))))) rfl ?_
      refine OpsFrom.v (Y.buildA ty63 ty3 rfl (up0 rfl rfl rfl) rfl (.cons _ _ _ _ _ _ (.one (.n .i64 3)) _ _ rfl rfl rfl rfl (Spl.n (by decide)) (.cons _ _ _ _ _ _ (.one (.n .i64 7)) _ _ rfl rfl rfl rfl (Spl.n (by decide)) (.cons _ _ _ _ _ _ (.one (.n .i64 11)) _ _ rfl rfl rfl rfl (Spl.n (by decide)) (.cons _ _ _ _ _ _ (.one (.n .i64 15)) _ _ rfl rfl rfl rfl (Spl.n (by decide)) (.nil _)))))) rfl ?_
      refine OpsFrom.v (Y.buildA ty63 ty3 rfl (up0 rfl rfl rfl) rfl (.cons _ _ _ _ _ _ (.one (.n .i64 0)) _ _ rfl rfl rfl rfl (Spl.n (by decide)) (.cons _ _ _ _ _ _ (.one (.n .i64 5)) _ _ rfl rfl rfl rfl (Spl.n (by decide)) (.cons _ _ _ _ _ _ (.one (.n .i64 10)) _ _ rfl rfl rfl rfl (Spl.n (by decide)) (.cons _ _ _ _ _ _ (.one (.n .i64 15)) _ _ rfl rfl rfl rfl (Spl.n (by decide)) (.nil _)))))) rfl ?_
      refine OpsFrom.v (Y.buildA ty63 ty3 rfl (up0 rfl rfl rfl) rfl (.cons _ _ _ _ _ _ (.one (.n .i64 1)) _ _ rfl rfl rfl rfl (Spl.n (by decide)) (.cons _ _ _ _ _ _ (.one (.n .i64 6)) _ _ rfl rfl rfl rfl (Spl.n (by decide)) (.cons _ _ _ _ _ _ (.one (.n .i64 11)) _ _ rfl rfl rfl rfl (Spl.n (by decide)) (.cons _ _ _ _ _ _ (.one (.n .i64 12)) _ _ rfl rfl rfl rfl (Spl.n (by decide)) (.nil _)))))) rfl ?_
      refine OpsFrom.v (Y.buildA ty63 ty3 rfl (up0 rfl rfl rfl) rfl (.cons _ _ _ _ _ _ (.one (.n .i64 2)) _ _ rfl rfl rfl rfl (Spl.n (by decide)) (.cons _ _ _ _ _ _ (.one (.n .i64 7)) _ _ rfl rfl rfl rfl (Spl.n (by decide)) (.cons _ _ _ _ _ _ (.one (.n .i64 8)) _ _ rfl rfl rfl rfl (Spl.n (by decide)) (.cons _ _ _ _ _ _ (.one (.n .i64 13)) _ _ rfl rfl rfl rfl (Spl.n (by decide)) (.nil _)))))) rfl ?_
      refine OpsFrom.v (Y.buildA ty63 ty3 rfl (up0 rfl rfl rfl) rfl (.cons _ _ _ _ _ _ (.one (.n .i64 3)) _ _ rfl rfl rfl rfl (Spl.n (by decide)) (.cons _ _ _ _ _ _ (.one (.n .i64 4)) _ _ rfl rfl rfl rfl (Spl.n (by decide)) (.cons _ _ _ _ _ _ (.one (.n .i64 9)) _ _ rfl rfl rfl rfl (Spl.n (by decide)) (.cons _ _ _ _ _ _ (.one (.n .i64 14)) _ _ rfl rfl rfl rfl (Spl.n (by decide)) (.nil _)))))) rfl ?_
      refine OpsFrom.v (Doing.cast (e' := ⟨.row (.ints .i64 quarters), [], []⟩) (by kernel_rfl) (Y.buildA ty64 ty63 rfl (up0 rfl rfl rfl) rfl (.cons _ _ _ _ _ _ _ _ _ rfl rfl rfl rfl (Spl.r (by decide)) (.cons _ _ _ _ _ _ _ _ _ rfl rfl rfl rfl (Spl.r (by decide)) (.cons _ _ _ _ _ _ _ _ _ rfl rfl rfl rfl (Spl.r (by decide)) (.cons _ _ _ _ _ _ _ _ _ rfl rfl rfl rfl (Spl.r (by decide)) (.cons _ _ _ _ _ _ _ _ _ rfl rfl rfl rfl (Spl.r (by decide)) (.cons _ _ _ _ _ _ _ _ _ rfl rfl rfl rfl (Spl.r (by decide)) (.cons _ _ _ _ _ _ _ _ _ rfl rfl rfl rfl (Spl.r (by decide)) (.cons _ _ _ _ _ _ _ _ _ rfl rfl rfl rfl (Spl.r (by decide)) (.nil _))))))))))) rfl ?_
      refine OpsFrom.u (Y.alloc (d := 14) ty64 rfl rfl (up0 rfl rfl rfl) rfl) rfl rfl rfl ?_
      refine OpsFrom.n (Y.stR ty64 (upN rfl rfl) rfl rfl rfl rfl rfl (by first | (with_reducible assumption) | omega | (simp only [*]; done) | (simp only [*]; omega) | (simp only [lens, *]; done) | (simp only [lens, *]; omega)) (by first | (with_reducible assumption) | omega | (simp only [*]; done) | (simp only [*]; omega) | (simp only [lens, *]; done) | (simp only [lens, *]; omega)) (by decide)) rfl rfl ?_
      refine OpsFrom.nil ?_
      refine Holds.seq ?_
      refine Holds.seq ?_
      refine Holds.reg ?_
      refine OpsFrom.v (Y.move (v := (.one (.n .i64 0))) (up0 rfl rfl rfl) rfl rfl) rfl ?_
      refine OpsFrom.nil ?_
      refine Holds.block ?_
      refine Holds.loop (fun (r : Nat) => ⟨[(73, .one (.n .i64 r)), (14, .one (.p 14 0)), (13, .one (.fn 49 [7])), (7, .one (.p 7 0)), (12, .one (.p 12 0)), (6, .one (.p 6 0))], [(14, .own (.ints .i64 quarters)), (7, .own (.ints .u32 (iter dround r (m2 key ctr nonce)))), (12, .own (.ints .u32 (m2 key ctr nonce))), (6, .own (.ints .u8 (List.replicate 64 0)))]⟩) (fun (r : Nat) => r ≤ 10) (fun (r : Nat) => 10 - r) 0 (by omega) [] ⟨⟨rfl, rfl, rfl, rfl, rfl, rfl, trivial⟩, ⟨rfl, (hEq (iter0 _ _).symm), rfl, rfl, trivial⟩, rfl, rfl⟩ ?_
      intro r hok
      have hl := dlen r (m2 key ctr nonce) (m2len key ctr nonce)
      refine Holds.seq ?_
      refine Holds.reg ?_
      refine OpsFrom.v (Y.lss (b := 10) (up0 rfl rfl rfl) rfl rfl rfl) rfl ?_
      refine OpsFrom.nil ?_
      refine Holds.seq ?_
      refine Holds.condD rfl (fun h74 => ?_) (fun h74 => ?_)
      · refine Holds.skip ?_
        refine Holds.seq ?_
        refine Holds.block ?_
        refine Holds.seq ?_
        refine Holds.reg ?_
        refine OpsFrom.v (Y.ldAll ty64 rfl (up0 rfl rfl rfl) rfl rfl rfl (by first | (with_reducible assumption) | omega | (simp only [*]; done) | (simp only [*]; omega) | (simp only [lens, *]; done) | (simp only [lens, *]; omega)) (by decide)) rfl ?_
        refine OpsFrom.v (Y.move (v := (.one (.n .i64 0))) (up0 rfl rfl rfl) rfl rfl) rfl ?_
        refine OpsFrom.nil ?_
        refine Holds.block ?_
        refine Holds.loop (fun (q : Nat) => ⟨[(76, .one (.n .i64 q)), (75, .row (.ints .i64 quarters)), (73, .one (.n .i64 r)), (14, .one (.p 14 0)), (13, .one (.fn 49 [7])), (7, .one (.p 7 0)), (12, .one (.p 12 0)), (6, .one (.p 6 0))], [(14, .own (.ints .i64 quarters)), (7, .own (.ints .u32 (iter qstep q (iter dround r (m2 key ctr nonce))))), (12, .own (.ints .u32 (m2 key ctr nonce))), (6, .own (.ints .u8 (List.replicate 64 0)))]⟩) (fun (q : Nat) => q ≤ 8) (fun (q : Nat) => 8 - q) 0 (by omega) [] ⟨⟨rfl, rfl, rfl, rfl, rfl, rfl, rfl, rfl, trivial⟩, ⟨rfl, (hEq (iter0 _ _).symm), rfl, rfl, trivial⟩, rfl, rfl⟩ ?_
        intro q hok2
        have hl2 := (qlen q (iter dround r (m2 key ctr nonce))).trans hl
        have hq := quarters_len
        have hql := qr1_len
        refine Holds.seq ?_
        refine Holds.reg ?_
        refine OpsFrom.v (Y.lss (b := 8) (up0 rfl rfl rfl) rfl rfl rfl) rfl ?_
        refine OpsFrom.nil ?_
        refine Holds.seq ?_
        refine Holds.condD rfl (fun h77 => ?_) (fun h77 => ?_)
        · refine Holds.skip ?_
          refine Holds.seq ?_
          refine Holds.block ?_
          refine Holds.seq ?_
          refine Holds.reg ?_
          refine OpsFrom.v (Y.idxRow ty64 ty63 rfl (up0 rfl rfl rfl) rfl rfl rfl (by omega) (by first | (with_reducible assumption) | omega | (simp only [*]; done) | (simp only [*]; omega) | (simp only [lens, *]; done) | (simp only [lens, *]; omega))) rfl ?_
          refine OpsFrom.u (Y.alloc (d := 16) ty63 rfl rfl (up0 rfl rfl rfl) rfl) rfl rfl rfl ?_
          refine OpsFrom.n (Y.stR ty63 (upN rfl rfl) rfl rfl rfl rfl rfl (by first | (with_reducible assumption) | omega | (simp only [*]; done) | (simp only [*]; omega) | (simp only [lens, *]; done) | (simp only [lens, *]; omega)) (by first | (with_reducible assumption) | omega | (simp only [*]; done) | (simp only [*]; omega) | (simp only [lens, *]; done) | (simp only [lens, *]; omega)) (by decide)) rfl rfl ?_
          refine OpsFrom.nil ?_
          refine Holds.seq ?_
          refine Holds.dr mx [([79], [81, 82, 83, 84, 85, 86]), ([80], [81, 82, 83, 84, 85, 86]), ([81], [79, 80, 83, 84, 85, 86, 17]), ([82], [79, 80, 83, 84, 85, 86, 17]), ([83], [79, 80, 81, 82, 85, 86, 17, 18]), ([84], [79, 80, 81, 82, 85, 86, 17, 18]), ([85], [79, 80, 81, 82, 83, 84, 17, 18, 19]), ([86], [79, 80, 81, 82, 83, 84, 17, 18, 19]), ([17], [81, 82, 83, 84, 85, 86]), ([18], [83, 84, 85, 86]), ([19], [85, 86]), ([20], [])] (by kernel_rfl) ?_
          refine CertK.vd (Y.ia0 (i := 0) ty63 ty3 (up0 rfl rfl rfl) rfl rfl rfl (by omega)) rfl rfl ?_
          refine CertK.vd (Y.ldI ty3 rfl (up0 rfl rfl rfl) rfl rfl rfl (by first | (with_reducible assumption) | omega | (simp only [*]; done) | (simp only [*]; omega) | (simp only [lens, *]; done) | (simp only [lens, *]; omega))) rfl rfl ?_
          refine CertK.vd (Y.ia0 (i := 1) ty63 ty3 (up0 rfl rfl rfl) rfl rfl rfl (by omega)) rfl rfl ?_
          refine CertK.vd (Y.ldI ty3 rfl (up0 rfl rfl rfl) rfl rfl rfl (by first | (with_reducible assumption) | omega | (simp only [*]; done) | (simp only [*]; omega) | (simp only [lens, *]; done) | (simp only [lens, *]; omega))) rfl rfl ?_
          refine CertK.vd (Y.ia0 (i := 2) ty63 ty3 (up0 rfl rfl rfl) rfl rfl rfl (by omega)) rfl rfl ?_
          refine CertK.vd (Y.ldI ty3 rfl (up0 rfl rfl rfl) rfl rfl rfl (by first | (with_reducible assumption) | omega | (simp only [*]; done) | (simp only [*]; omega) | (simp only [lens, *]; done) | (simp only [lens, *]; omega))) rfl rfl ?_
          refine CertK.vd (Y.ia0 (i := 3) ty63 ty3 (up0 rfl rfl rfl) rfl rfl rfl (by omega)) rfl rfl ?_
          refine CertK.vd (Y.ldI ty3 rfl (up0 rfl rfl rfl) rfl rfl rfl (by first | (with_reducible assumption) | omega | (simp only [*]; done) | (simp only [*]; omega) | (simp only [lens, *]; done) | (simp only [lens, *]; omega))) rfl rfl ?_
          refine CertK.vd (Y.assign (up0 rfl rfl rfl) rfl rfl) rfl rfl ?_
          refine CertK.vd (Y.assign (up0 rfl rfl rfl) rfl rfl) rfl rfl ?_
          refine CertK.vd (Y.assign (up0 rfl rfl rfl) rfl rfl) rfl rfl ?_
          refine CertK.v (Y.assign (up0 rfl rfl rfl) rfl rfl) rfl ?_
          refine CertK.nil ?_
          refine Holds.seq ?_
          refine Holds.reg ?_
          refine OpsFrom.v (Y.move (up0 rfl rfl rfl) rfl rfl) rfl ?_
          refine OpsFrom.v (Y.move (up0 rfl rfl rfl) rfl rfl) rfl ?_
          refine OpsFrom.v (Y.move (up0 rfl rfl rfl) rfl rfl) rfl ?_
          refine OpsFrom.v (Y.move (up0 rfl rfl rfl) rfl rfl) rfl ?_
          refine OpsFrom.u (Y.callU (vs := [_, _, _, _]) (ids := [7]) (w49 _ _ _ _ _ _ (by first | (with_reducible assumption) | omega | (simp only [*]; done) | (simp only [*]; omega) | (simp only [lens, *]; done) | (simp only [lens, *]; omega)) (hq4 _ (by omega) 0 (by omega)) (hq4 _ (by omega) 1 (by omega)) (hq4 _ (by omega) 3 (by omega))) fnok49 (up0 rfl rfl rfl) rfl rfl (.cons _ _ _ _ rfl (.cons _ _ _ _ rfl (.cons _ _ _ _ rfl (.cons _ _ (.one (.n .i64 16)) _ rfl .nil)))) (ownL1 (n := 16) rfl (by first | (with_reducible assumption) | omega | (simp only [*]; done) | (simp only [*]; omega) | (simp only [lens, *]; done) | (simp only [lens, *]; omega)) (by decide)) rfl (by simp) rfl) rfl rfl rfl ?_
          refine OpsFrom.nil ?_
          refine Holds.seq ?_
          refine Holds.reg ?_
          refine OpsFrom.v (Y.move (up0 rfl rfl rfl) rfl rfl) rfl ?_
          refine OpsFrom.v (Y.move (up0 rfl rfl rfl) rfl rfl) rfl ?_
          refine OpsFrom.v (Y.move (up0 rfl rfl rfl) rfl rfl) rfl ?_
          refine OpsFrom.v (Y.move (up0 rfl rfl rfl) rfl rfl) rfl ?_
          refine OpsFrom.u (Y.callU (vs := [_, _, _, _]) (ids := [7]) (w49 _ _ _ _ _ _ (by first | (with_reducible assumption) | omega | (simp only [*]; done) | (simp only [*]; omega) | (simp only [lens, *]; done) | (simp only [lens, *]; omega)) (hq4 _ (by omega) 2 (by omega)) (hq4 _ (by omega) 3 (by omega)) (hq4 _ (by omega) 1 (by omega))) fnok49 (up0 rfl rfl rfl) rfl rfl (.cons _ _ _ _ rfl (.cons _ _ _ _ rfl (.cons _ _ _ _ rfl (.cons _ _ (.one (.n .i64 12)) _ rfl .nil)))) (ownL1 (n := 16) rfl (by first | (with_reducible assumption) | omega | (simp only [*]; done) | (simp only [*]; omega) | (simp only [lens, *]; done) | (simp only [lens, *]; omega)) (by decide)) rfl (by simp) rfl) rfl rfl rfl ?_
          refine OpsFrom.nil ?_
          refine Holds.seq ?_
          refine Holds.reg ?_
          refine OpsFrom.v (Y.move (up0 rfl rfl rfl) rfl rfl) rfl ?_
          refine OpsFrom.v (Y.move (up0 rfl rfl rfl) rfl rfl) rfl ?_
          refine OpsFrom.v (Y.move (up0 rfl rfl rfl) rfl rfl) rfl ?_
          refine OpsFrom.v (Y.move (up0 rfl rfl rfl) rfl rfl) rfl ?_
          refine OpsFrom.u (Y.callU (vs := [_, _, _, _]) (ids := [7]) (w49 _ _ _ _ _ _ (by first | (with_reducible assumption) | omega | (simp only [*]; done) | (simp only [*]; omega) | (simp only [lens, *]; done) | (simp only [lens, *]; omega)) (hq4 _ (by omega) 0 (by omega)) (hq4 _ (by omega) 1 (by omega)) (hq4 _ (by omega) 3 (by omega))) fnok49 (up0 rfl rfl rfl) rfl rfl (.cons _ _ _ _ rfl (.cons _ _ _ _ rfl (.cons _ _ _ _ rfl (.cons _ _ (.one (.n .i64 8)) _ rfl .nil)))) (ownL1 (n := 16) rfl (by first | (with_reducible assumption) | omega | (simp only [*]; done) | (simp only [*]; omega) | (simp only [lens, *]; done) | (simp only [lens, *]; omega)) (by decide)) rfl (by simp) rfl) rfl rfl rfl ?_
          refine OpsFrom.nil ?_
          refine Holds.reg ?_
          refine OpsFrom.v (Y.move (up0 rfl rfl rfl) rfl rfl) rfl ?_
          refine OpsFrom.v (Y.move (up0 rfl rfl rfl) rfl rfl) rfl ?_
          refine OpsFrom.v (Y.move (up0 rfl rfl rfl) rfl rfl) rfl ?_
          refine OpsFrom.v (Y.move (up0 rfl rfl rfl) rfl rfl) rfl ?_
          refine OpsFrom.u (Y.callU (vs := [_, _, _, _]) (ids := [7]) (w49 _ _ _ _ _ _ (by first | (with_reducible assumption) | omega | (simp only [*]; done) | (simp only [*]; omega) | (simp only [lens, *]; done) | (simp only [lens, *]; omega)) (hq4 _ (by omega) 2 (by omega)) (hq4 _ (by omega) 3 (by omega)) (hq4 _ (by omega) 1 (by omega))) fnok49 (up0 rfl rfl rfl) rfl rfl (.cons _ _ _ _ rfl (.cons _ _ _ _ rfl (.cons _ _ _ _ rfl (.cons _ _ (.one (.n .i64 7)) _ rfl .nil)))) (ownL1 (n := 16) rfl (by first | (with_reducible assumption) | omega | (simp only [*]; done) | (simp only [*]; omega) | (simp only [lens, *]; done) | (simp only [lens, *]; omega)) (by decide)) rfl (by simp) rfl) rfl rfl rfl ?_
          refine OpsFrom.nil ?_
          refine Holds.reg ?_
          refine OpsFrom.v (Y.addI (b := 1) (up0 rfl rfl rfl) rfl rfl rfl (by omega)) rfl ?_
          refine OpsFrom.v (Y.move (up0 rfl rfl rfl) rfl rfl) rfl ?_
          refine OpsFrom.nil ?_
          exact Holds.again (q + 1) (by omega) (by omega) [] ⟨⟨rfl, rfl, rfl, rfl, rfl, rfl, rfl, rfl, trivial⟩, ⟨rfl, rfl, rfl, rfl, trivial⟩, rfl, rfl⟩
        · obtain rfl : q = 8 := by omega
          refine Holds.exit ?_
          refine Holds.reg ?_
          refine OpsFrom.v (Y.addI (b := 1) (up0 rfl rfl rfl) rfl rfl rfl (by omega)) rfl ?_
          refine OpsFrom.v (Y.move (up0 rfl rfl rfl) rfl rfl) rfl ?_
          refine OpsFrom.nil ?_
          exact Holds.again (r + 1) (by omega) (by omega) [] ⟨⟨rfl, rfl, rfl, rfl, rfl, rfl, trivial⟩, ⟨rfl, (hEq (iterS dround r _).symm), rfl, rfl, trivial⟩, rfl, rfl⟩
      · obtain rfl : r = 10 := by omega
        refine Holds.exit ?_
        refine Holds.seq ?_
        refine Holds.seq ?_
        refine Holds.reg ?_
        refine OpsFrom.v (Y.move (v := (.one (.n .i64 0))) (up0 rfl rfl rfl) rfl rfl) rfl ?_
        refine OpsFrom.nil ?_
        refine Holds.block ?_
        refine Holds.loop (fun (i : Nat) => ⟨[(109, .one (.n .i64 i)), (7, .one (.p 7 0)), (12, .one (.p 12 0)), (6, .one (.p 6 0))], [(7, .own (.ints .u32 (iter dround 10 (m2 key ctr nonce)))), (12, .own (.ints .u32 (m2 key ctr nonce))), (6, .own (.ints .u8 (iter (ostep (iter dround 10 (m2 key ctr nonce)) (m2 key ctr nonce)) i (List.replicate 64 0))))]⟩) (fun (i : Nat) => i ≤ 64) (fun (i : Nat) => 64 - i) 0 (by omega) [] ⟨⟨rfl, rfl, rfl, rfl, trivial⟩, ⟨rfl, rfl, (hEq (iter0 _ _).symm), trivial⟩, rfl, rfl⟩ ?_
        intro i hok
        have hl1 := dlen 10 (m2 key ctr nonce) (m2len key ctr nonce)
        have hl2 := m2len key ctr nonce
        have hl := olen (iter dround 10 (m2 key ctr nonce)) (m2 key ctr nonce) i
        refine Holds.seq ?_
        refine Holds.reg ?_
        refine OpsFrom.v (Y.lss (b := 64) (up0 rfl rfl rfl) rfl rfl rfl) rfl ?_
        refine OpsFrom.nil ?_
        refine Holds.seq ?_
        refine Holds.condD rfl (fun h110 => ?_) (fun h110 => ?_)
        · refine Holds.skip ?_
          refine Holds.seq ?_
          refine Holds.block ?_
          refine Holds.seq ?_
          refine Holds.reg ?_
          refine OpsFrom.v (Y.move (up0 rfl rfl rfl) rfl rfl) rfl ?_
          refine OpsFrom.v (Y.assign (up0 rfl rfl rfl) rfl rfl) rfl ?_
          refine OpsFrom.nil ?_
          refine Holds.dr mx [([112], [113, 114, 115, 116, 117, 118, 119, 120, 121, 122, 123, 124, 125, 126]), ([113], [112, 117, 118, 119, 120, 122, 123, 124]), ([114], [112, 117, 118, 119, 120, 122, 123, 124]), ([115], [112, 117, 118, 119, 120, 122, 123, 124]), ([116], [112, 117, 118, 119, 120, 122, 123, 124]), ([117], [112, 113, 114, 115, 116, 122, 123, 124]), ([118], [112, 113, 114, 115, 116, 122, 123, 124]), ([119], [112, 113, 114, 115, 116, 122, 123, 124]), ([120], [112, 113, 114, 115, 116, 122, 123, 124]), ([121], [112, 122, 123, 124]), ([122], [112, 113, 114, 115, 116, 117, 118, 119, 120, 121]), ([123], [112, 113, 114, 115, 116, 117, 118, 119, 120, 121]), ([124], [112, 113, 114, 115, 116, 117, 118, 119, 120, 121]), ([125], [112]), ([126], [112]), ([127], []), ([6], [])] (by kernel_rfl) ?_
          refine CertK.vd (Y.move (up0 rfl rfl rfl) rfl rfl) rfl rfl ?_
          refine CertK.vd (Y.move (up0 rfl rfl rfl) rfl rfl) rfl rfl ?_
          refine CertK.vd (Y.quoI (b := 4) (up0 rfl rfl rfl) rfl rfl rfl (by omega) (by decide)) rfl rfl ?_
          refine CertK.vd (Y.ia0 ty60 ty24 (up0 rfl rfl rfl) rfl rfl rfl (by omega)) rfl rfl ?_
          refine CertK.vd (Y.ldI ty24 rfl (up0 rfl rfl rfl) rfl rfl rfl (by first | (with_reducible assumption) | omega | (simp only [*]; done) | (simp only [*]; omega) | (simp only [lens, *]; done) | (simp only [lens, *]; omega))) rfl rfl ?_
          refine CertK.vd (Y.move (up0 rfl rfl rfl) rfl rfl) rfl rfl ?_
          refine CertK.vd (Y.quoI (b := 4) (up0 rfl rfl rfl) rfl rfl rfl (by omega) (by decide)) rfl rfl ?_
          refine CertK.vd (Y.ia0 ty60 ty24 (up0 rfl rfl rfl) rfl rfl rfl (by omega)) rfl rfl ?_
          refine CertK.vd (Y.ldI ty24 rfl (up0 rfl rfl rfl) rfl rfl rfl (by first | (with_reducible assumption) | omega | (simp only [*]; done) | (simp only [*]; omega) | (simp only [lens, *]; done) | (simp only [lens, *]; omega))) rfl rfl ?_
          refine CertK.vd (Y.add u32s u32m (up0 rfl rfl rfl) rfl rfl rfl) rfl rfl ?_
          refine CertK.vd (Y.move (up0 rfl rfl rfl) rfl rfl) rfl rfl ?_
          refine CertK.vd (Y.rem (b := 4) (up0 rfl rfl rfl) rfl rfl rfl (by decide)) rfl rfl ?_
          refine CertK.vd (Y.mulI (a := 8) (up0 rfl rfl rfl) rfl rfl rfl (by omega)) rfl rfl ?_
          refine CertK.vd (Y.shr u32s u32m (up0 rfl rfl rfl) rfl rfl rfl) rfl rfl ?_
          refine CertK.vd (Y.conv ty24.u ty5.u u8s u8m (up0 rfl rfl rfl) rfl rfl) rfl rfl ?_
          refine CertK.v (Y.ia0 ty30 ty5 (up0 rfl rfl rfl) rfl rfl rfl (by omega)) rfl ?_
          refine CertK.n (Y.stI ty5 (upN rfl rfl) rfl rfl rfl rfl (by first | (with_reducible assumption) | omega | (simp only [*]; done) | (simp only [*]; omega) | (simp only [lens, *]; done) | (simp only [lens, *]; omega))) rfl rfl rfl rfl ?_
          refine CertK.nil ?_
          refine Holds.reg ?_
          refine OpsFrom.v (Y.addI (b := 1) (up0 rfl rfl rfl) rfl rfl rfl (by omega)) rfl ?_
          refine OpsFrom.v (Y.move (up0 rfl rfl rfl) rfl rfl) rfl ?_
          refine OpsFrom.nil ?_
          exact Holds.again (i + 1) (by omega) (by omega) [] ⟨⟨rfl, rfl, rfl, rfl, trivial⟩, ⟨rfl, rfl, rfl, trivial⟩, rfl, rfl⟩
        · obtain rfl : i = 64 := by omega
          refine Holds.exit ?_
          refine Holds.seq ?_
          refine Holds.reg ?_
          refine OpsFrom.v (Y.ldAll ty30 rfl (up0 rfl rfl rfl) rfl rfl rfl (by first | (with_reducible assumption) | omega | (simp only [*]; done) | (simp only [*]; omega) | (simp only [lens, *]; done) | (simp only [lens, *]; omega)) (by decide)) rfl ?_
          refine OpsFrom.n (Y.stR ty30 (upN rfl rfl) rfl rfl rfl rfl rfl (by first | (with_reducible assumption) | omega | (simp only [*]; done) | (simp only [*]; omega) | (simp only [lens, *]; done) | (simp only [lens, *]; omega)) (by first | (with_reducible assumption) | omega | (simp only [*]; done) | (simp only [*]; omega) | (simp only [lens, *]; done) | (simp only [lens, *]; omega)) (by decide)) rfl rfl ?_
          refine OpsFrom.nil ?_
          refine Holds.ret ?_
          exact Holds.ret1 (.inl rfl) rfl (.rowN rfl rfl ty30 rfl (by first | (with_reducible assumption) | omega | (simp only [*]; done) | (simp only [*]; omega) | (simp only [lens, *]; done) | (simp only [lens, *]; omega)) (by decide)) (.same _) rfl

end Go.Proofs.Ytkpelchcpiafaaa
