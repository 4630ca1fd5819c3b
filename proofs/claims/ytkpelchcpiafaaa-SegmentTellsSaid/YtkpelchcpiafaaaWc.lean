/-
  Walks: the other ChaCha20.
-/
import Derived.Test.YtkpelchcpiafaaaWb
namespace Go.Proofs.Ytkpelchcpiafaaa
open Go Go.Fx
set_option linter.unusedVariables false
def turn (x k : Nat) : Nat := (x * 2 ^ k % 4294967296 + x / 2 ^ ((32 + (18446744073709551616 - k)) % 18446744073709551616)) % 4294967296
def word (b : List Nat) : Nat := (((b.getD 0 0 + b.getD 1 0 * 2 ^ 8 % 4294967296) % 4294967296 + b.getD 2 0 * 2 ^ 16 % 4294967296) % 4294967296 + b.getD 3 0 * 2 ^ 24 % 4294967296) % 4294967296
def quarter (m : List Nat) (a b c d : Nat) : List Nat :=
  let m := m.set a ((m.getD a 0 + m.getD b 0) % 4294967296)
  let m := m.set d (turn (m.getD d 0 ^^^ m.getD a 0) 16)
  let m := m.set c ((m.getD c 0 + m.getD d 0) % 4294967296)
  let m := m.set b (turn (m.getD b 0 ^^^ m.getD c 0) 12)
  let m := m.set a ((m.getD a 0 + m.getD b 0) % 4294967296)
  let m := m.set d (turn (m.getD d 0 ^^^ m.getD a 0) 8)
  let m := m.set c ((m.getD c 0 + m.getD d 0) % 4294967296)
  m.set b (turn (m.getD b 0 ^^^ m.getD c 0) 7)
theorem quarter_len (m : List Nat) (a b c d : Nat) : (quarter m a b c d).length = m.length := by simp [quarter]
def rm0 : List Nat := [1634760805, 857760878, 2036477234, 1797285236, 0, 0, 0, 0, 0, 0, 0, 0, 0, 0, 0, 0]
def rkstep (key : List Nat) (i : Nat) (m : List Nat) : List Nat := m.set (4 + i) (word ((key.drop (4 * i)).take (4 * i + 4 - 4 * i)))
def rnstep (nonce : List Nat) (i : Nat) (m : List Nat) : List Nat := m.set (13 + i) (word ((nonce.drop (4 * i)).take (4 * i + 4 - 4 * i)))
def rm1 (key : List Nat) (ctr : Nat) : List Nat := (iter (rkstep key) 8 rm0).set 12 ctr
def rm2 (key : List Nat) (ctr : Nat) (nonce : List Nat) : List Nat := iter (rnstep nonce) 3 (rm1 key ctr)
def rdround (_ : Nat) (m : List Nat) : List Nat :=
  quarter (quarter (quarter (quarter (quarter (quarter (quarter (quarter m 0 4 8 12) 1 5 9 13) 2 6 10 14) 3 7 11 15) 0 5 10 15) 1 6 11 12) 2 7 8 13) 3 4 9 14
def rostep (x y : List Nat) (i : Nat) (o : List Nat) : List Nat := o.set i ((x.getD (i / 4) 0 + y.getD (i / 4) 0) % 4294967296 / 2 ^ (8 * (i % 4) % 18446744073709551616) % 256)
def rblock (key : List Nat) (ctr : Nat) (nonce : List Nat) : List Nat := iter (rostep (iter rdround 10 (rm2 key ctr nonce)) (rm2 key ctr nonce)) 64 (List.replicate 64 0)
theorem rklen (key : List Nat) (i : Nat) : (iter (rkstep key) i rm0).length = 16 := iter_len (fun _ _ => by simp [rkstep]) i
theorem rm1len (key : List Nat) (ctr : Nat) : (rm1 key ctr).length = 16 := by rw [rm1, List.length_set, rklen]
theorem rnlen (key nonce : List Nat) (i ctr : Nat) : (iter (rnstep nonce) i (rm1 key ctr)).length = 16 := (iter_len (fun _ _ => by simp [rnstep]) i).trans (rm1len key ctr)
theorem rm2len (key : List Nat) (ctr : Nat) (nonce : List Nat) : (rm2 key ctr nonce).length = 16 := rnlen key nonce 3 ctr
theorem rdlen (r : Nat) (m : List Nat) (h : m.length = 16) : (iter rdround r m).length = 16 := (iter_len (fun _ m => by simp [rdround, quarter_len]) r).trans h
theorem rolen (x y : List Nat) (i : Nat) : (iter (rostep x y) i (List.replicate 64 0)).length = 64 := (iter_len (fun _ _ => by simp [rostep]) i).trans (by simp)
theorem rblock_len (key : List Nat) (ctr : Nat) (nonce : List Nat) : (rblock key ctr nonce).length = 64 := rolen _ _ _
theorem block_len (key : List Nat) (ctr : Nat) (nonce : List Nat) : (block key ctr nonce).length = 64 := olen _ _ _
theorem w64 (x k : Nat) : VC Try.prog 64 [.one (.n .u32 x), .one (.n .u64 k)] (.one (.n .u32 (turn x k))) := by
  refine VC.go Try.func64 rfl Try.ntmps64 rfl rfl fun O w => ?_
  refine Holds.seq ?_
  refine Holds.reg ?_
  refine OpsFrom.v (Y.assign (v := (.one (.n .u32 0))) (up0 rfl rfl rfl) rfl rfl) rfl ?_
  refine OpsFrom.nil ?_
  refine Holds.seq ?_
  refine Holds.reg ?_
  refine OpsFrom.v (Y.move (up0 rfl rfl rfl) rfl rfl) rfl ?_
  refine OpsFrom.v (Y.move (up0 rfl rfl rfl) rfl rfl) rfl ?_
  refine OpsFrom.v (Y.shl u32s u32m (up0 rfl rfl rfl) rfl rfl rfl) rfl ?_
  refine OpsFrom.v (Y.move (up0 rfl rfl rfl) rfl rfl) rfl ?_
  refine OpsFrom.v (Y.move (up0 rfl rfl rfl) rfl rfl) rfl ?_
  refine OpsFrom.v (Y.sub (a := 32) u64s u64m (up0 rfl rfl rfl) rfl rfl rfl) rfl ?_
  refine OpsFrom.v (Y.shr u32s u32m (up0 rfl rfl rfl) rfl rfl rfl) rfl ?_
  refine OpsFrom.v (Y.add u32s u32m (up0 rfl rfl rfl) rfl rfl rfl) rfl ?_
  refine OpsFrom.v (Y.assign (up0 rfl rfl rfl) rfl rfl) rfl ?_
  refine OpsFrom.nil ?_
  refine Holds.ret ?_
  exact Holds.ret1 (.inl rfl) rfl (.tmp _ _ rfl) (.same _) rfl
theorem w51 (b : List Nat) (hb : b.length = 4) : VC Try.prog 51 [.one (.bs false .u8 b)] (.one (.n .u32 (word b))) := by
  refine VC.go Try.func51 rfl Try.ntmps51 rfl rfl fun O w => ?_
  refine Holds.seq ?_
  refine Holds.reg ?_
  refine OpsFrom.v (Y.assign (v := (.one (.n .u32 0))) (up0 rfl rfl rfl) rfl rfl) rfl ?_
  refine OpsFrom.nil ?_
  refine Holds.seq ?_
  refine Holds.dr mx [([3], [7, 8, 9, 10, 11, 13, 14, 15, 16, 17, 19, 20, 21, 22, 23]), ([4], [7, 8, 9, 10, 11, 13, 14, 15, 16, 17, 19, 20, 21, 22, 23]), ([5], [7, 8, 9, 10, 11, 13, 14, 15, 16, 17, 19, 20, 21, 22, 23]), ([6], [7, 8, 9, 10, 11, 13, 14, 15, 16, 17, 19, 20, 21, 22, 23]), ([7], [3, 4, 5, 6, 13, 14, 15, 16, 17, 19, 20, 21, 22, 23]), ([8], [3, 4, 5, 6, 13, 14, 15, 16, 17, 19, 20, 21, 22, 23]), ([9], [3, 4, 5, 6, 13, 14, 15, 16, 17, 19, 20, 21, 22, 23]), ([10], [3, 4, 5, 6, 13, 14, 15, 16, 17, 19, 20, 21, 22, 23]), ([11], [3, 4, 5, 6, 13, 14, 15, 16, 17, 19, 20, 21, 22, 23]), ([12], [13, 14, 15, 16, 17, 19, 20, 21, 22, 23]), ([13], [3, 4, 5, 6, 7, 8, 9, 10, 11, 12, 19, 20, 21, 22, 23]), ([14], [3, 4, 5, 6, 7, 8, 9, 10, 11, 12, 19, 20, 21, 22, 23]), ([15], [3, 4, 5, 6, 7, 8, 9, 10, 11, 12, 19, 20, 21, 22, 23]), ([16], [3, 4, 5, 6, 7, 8, 9, 10, 11, 12, 19, 20, 21, 22, 23]), ([17], [3, 4, 5, 6, 7, 8, 9, 10, 11, 12, 19, 20, 21, 22, 23]), ([18], [19, 20, 21, 22, 23]), ([19], [3, 4, 5, 6, 7, 8, 9, 10, 11, 12, 13, 14, 15, 16, 17, 18]), ([20], [3, 4, 5, 6, 7, 8, 9, 10, 11, 12, 13, 14, 15, 16, 17, 18]), ([21], [3, 4, 5, 6, 7, 8, 9, 10, 11, 12, 13, 14, 15, 16, 17, 18]), ([22], [3, 4, 5, 6, 7, 8, 9, 10, 11, 12, 13, 14, 15, 16, 17, 18]), ([23], [3, 4, 5, 6, 7, 8, 9, 10, 11, 12, 13, 14, 15, 16, 17, 18]), ([24], []), ([2], [])] (by kernel_rfl) ?_
  refine CertK.vd (Y.move (up0 rfl rfl rfl) rfl rfl) rfl rfl ?_
  refine CertK.vd (Y.iaBs (i := 0) ty26 ty5 (up0 rfl rfl rfl) rfl rfl rfl (by omega)) rfl rfl ?_
  refine CertK.vd (Y.ldPc ty5 rfl (up0 rfl rfl rfl) rfl rfl) rfl rfl ?_
  refine CertK.vd (Y.convUp ty5.u ty24.u rfl rfl (by decide) (up0 rfl rfl rfl) rfl rfl) rfl rfl ?_
  refine CertK.vd (Y.move (up0 rfl rfl rfl) rfl rfl) rfl rfl ?_
  refine CertK.vd (Y.iaBs (i := 1) ty26 ty5 (up0 rfl rfl rfl) rfl rfl rfl (by omega)) rfl rfl ?_
  refine CertK.vd (Y.ldPc ty5 rfl (up0 rfl rfl rfl) rfl rfl) rfl rfl ?_
  refine CertK.vd (Y.convUp ty5.u ty24.u rfl rfl (by decide) (up0 rfl rfl rfl) rfl rfl) rfl rfl ?_
  refine CertK.vd (Y.shl (b := 8) u32s u32m (up0 rfl rfl rfl) rfl rfl rfl) rfl rfl ?_
  refine CertK.vd (Y.add u32s u32m (up0 rfl rfl rfl) rfl rfl rfl) rfl rfl ?_
  refine CertK.vd (Y.move (up0 rfl rfl rfl) rfl rfl) rfl rfl ?_
  refine CertK.vd (Y.iaBs (i := 2) ty26 ty5 (up0 rfl rfl rfl) rfl rfl rfl (by omega)) rfl rfl ?_
  refine CertK.vd (Y.ldPc ty5 rfl (up0 rfl rfl rfl) rfl rfl) rfl rfl ?_
  refine CertK.vd (Y.convUp ty5.u ty24.u rfl rfl (by decide) (up0 rfl rfl rfl) rfl rfl) rfl rfl ?_
  refine CertK.vd (Y.shl (b := 16) u32s u32m (up0 rfl rfl rfl) rfl rfl rfl) rfl rfl ?_
  refine CertK.vd (Y.add u32s u32m (up0 rfl rfl rfl) rfl rfl rfl) rfl rfl ?_
  refine CertK.vd (Y.move (up0 rfl rfl rfl) rfl rfl) rfl rfl ?_
  refine CertK.vd (Y.iaBs (i := 3) ty26 ty5 (up0 rfl rfl rfl) rfl rfl rfl (by omega)) rfl rfl ?_
  refine CertK.vd (Y.ldPc ty5 rfl (up0 rfl rfl rfl) rfl rfl) rfl rfl ?_
  refine CertK.vd (Y.convUp ty5.u ty24.u rfl rfl (by decide) (up0 rfl rfl rfl) rfl rfl) rfl rfl ?_
  refine CertK.vd (Y.shl (b := 24) u32s u32m (up0 rfl rfl rfl) rfl rfl rfl) rfl rfl ?_
  refine CertK.v (Y.add u32s u32m (up0 rfl rfl rfl) rfl rfl rfl) rfl ?_
  refine CertK.v (Y.assign (up0 rfl rfl rfl) rfl rfl) rfl ?_
  refine CertK.nil ?_
  refine Holds.ret ?_
  exact Holds.ret1 (.inl rfl) rfl (.tmp _ _ rfl) (.same _) rfl
theorem w52 (m : List Nat) (a b c d : Nat) (hm : m.length = 16) (ha : a < 16) (hb : b < 16) (hc : c < 16) (hd : d < 16) : VC Try.prog 52 [.row (.ints .u32 m), .one (.n .i64 a), .one (.n .i64 b), .one (.n .i64 c), .one (.n .i64 d)] (.row (.ints .u32 (quarter m a b c d))) := by
  refine VC.go Try.func52 rfl Try.ntmps52 rfl rfl fun O w => ?_
  refine Holds.seq ?_
  refine Holds.reg ?_
  refine OpsFrom.u (Y.boxR (d := 5) (up0 rfl rfl rfl) rfl rfl rfl) rfl rfl rfl ?_
  refine OpsFrom.u (Y.alloc (d := 10) ty60 rfl rfl (up0 rfl rfl rfl) rfl) rfl rfl rfl ?_
  refine OpsFrom.nil ?_
  refine Holds.seq ?_
  refine Holds.dr mx [([11], [12, 13, 14, 15, 16, 17, 18]), ([12], [11, 15, 16, 17]), ([13], [11, 15, 16, 17]), ([14], [11, 15, 16, 17]), ([15], [11, 12, 13, 14]), ([16], [11, 12, 13, 14]), ([17], [11, 12, 13, 14]), ([18], [11]), ([19], []), ([5], [])] (by kernel_rfl) ?_
  refine CertK.vd (Y.move (up0 rfl rfl rfl) rfl rfl) rfl rfl ?_
  refine CertK.vd (Y.move (up0 rfl rfl rfl) rfl rfl) rfl rfl ?_
  refine CertK.vd (Y.ia0 ty60 ty24 (up0 rfl rfl rfl) rfl rfl rfl (by omega)) rfl rfl ?_
  refine CertK.vd (Y.ldI ty24 rfl (up0 rfl rfl rfl) rfl rfl rfl (by first | (with_reducible assumption) | omega | (simp only [*]; done) | (simp only [*]; omega) | (simp only [lens, *]; done) | (simp only [lens, *]; omega))) rfl rfl ?_
  refine CertK.vd (Y.move (up0 rfl rfl rfl) rfl rfl) rfl rfl ?_
  refine CertK.vd (Y.ia0 ty60 ty24 (up0 rfl rfl rfl) rfl rfl rfl (by omega)) rfl rfl ?_
  refine CertK.vd (Y.ldI ty24 rfl (up0 rfl rfl rfl) rfl rfl rfl (by first | (with_reducible assumption) | omega | (simp only [*]; done) | (simp only [*]; omega) | (simp only [lens, *]; done) | (simp only [lens, *]; omega))) rfl rfl ?_
  refine CertK.vd (Y.add u32s u32m (up0 rfl rfl rfl) rfl rfl rfl) rfl rfl ?_
  refine CertK.v (Y.ia0 ty60 ty24 (up0 rfl rfl rfl) rfl rfl rfl (by omega)) rfl ?_
  refine CertK.n (Y.stI ty24 (upN rfl rfl) rfl rfl rfl rfl (by first | (with_reducible assumption) | omega | (simp only [*]; done) | (simp only [*]; omega) | (simp only [lens, *]; done) | (simp only [lens, *]; omega))) rfl rfl rfl rfl ?_
  refine CertK.nil ?_
  refine Holds.seq ?_
  refine Holds.dr mx [([20], [21, 22, 23, 24, 25, 26, 27, 28]), ([21], [20, 24, 25, 26]), ([22], [20, 24, 25, 26]), ([23], [20, 24, 25, 26]), ([24], [20, 21, 22, 23]), ([25], [20, 21, 22, 23]), ([26], [20, 21, 22, 23]), ([27], [20]), ([28], [20]), ([29], []), ([5], [])] (by kernel_rfl) ?_
  refine CertK.vd (Y.move (up0 rfl rfl rfl) rfl rfl) rfl rfl ?_
  refine CertK.vd (Y.move (up0 rfl rfl rfl) rfl rfl) rfl rfl ?_
  refine CertK.vd (Y.ia0 ty60 ty24 (up0 rfl rfl rfl) rfl rfl rfl (by omega)) rfl rfl ?_
  refine CertK.vd (Y.ldI ty24 rfl (up0 rfl rfl rfl) rfl rfl rfl (by first | (with_reducible assumption) | omega | (simp only [*]; done) | (simp only [*]; omega) | (simp only [lens, *]; done) | (simp only [lens, *]; omega))) rfl rfl ?_
  refine CertK.vd (Y.move (up0 rfl rfl rfl) rfl rfl) rfl rfl ?_
  refine CertK.vd (Y.ia0 ty60 ty24 (up0 rfl rfl rfl) rfl rfl rfl (by omega)) rfl rfl ?_
  refine CertK.vd (Y.ldI ty24 rfl (up0 rfl rfl rfl) rfl rfl rfl (by first | (with_reducible assumption) | omega | (simp only [*]; done) | (simp only [*]; omega) | (simp only [lens, *]; done) | (simp only [lens, *]; omega))) rfl rfl ?_
  refine CertK.vd (Y.xor u32s u32m (up0 rfl rfl rfl) rfl rfl rfl) rfl rfl ?_
  refine CertK.vd (Y.callV (w64 _ _) fnok64 (up0 rfl rfl rfl) rfl rfl (.cons _ _ _ _ rfl (.cons _ _ (.one (.n .u64 16)) _ rfl .nil)) (.cons _ _ _ _ (.same _) (.cons _ _ _ _ (.same _) .nil)) rfl rfl) rfl rfl ?_
  refine CertK.v (Y.ia0 ty60 ty24 (up0 rfl rfl rfl) rfl rfl rfl (by omega)) rfl ?_
  refine CertK.n (Y.stI ty24 (upN rfl rfl) rfl rfl rfl rfl (by first | (with_reducible assumption) | omega | (simp only [*]; done) | (simp only [*]; omega) | (simp only [lens, *]; done) | (simp only [lens, *]; omega))) rfl rfl rfl rfl ?_
  refine CertK.nil ?_
  refine Holds.seq ?_
  refine Holds.dr mx [([30], [31, 32, 33, 34, 35, 36, 37]), ([31], [30, 34, 35, 36]), ([32], [30, 34, 35, 36]), ([33], [30, 34, 35, 36]), ([34], [30, 31, 32, 33]), ([35], [30, 31, 32, 33]), ([36], [30, 31, 32, 33]), ([37], [30]), ([38], []), ([5], [])] (by kernel_rfl) ?_
  refine CertK.vd (Y.move (up0 rfl rfl rfl) rfl rfl) rfl rfl ?_
  refine CertK.vd (Y.move (up0 rfl rfl rfl) rfl rfl) rfl rfl ?_
  refine CertK.vd (Y.ia0 ty60 ty24 (up0 rfl rfl rfl) rfl rfl rfl (by omega)) rfl rfl ?_
  refine CertK.vd (Y.ldI ty24 rfl (up0 rfl rfl rfl) rfl rfl rfl (by first | (with_reducible assumption) | omega | (simp only [*]; done) | (simp only [*]; omega) | (simp only [lens, *]; done) | (simp only [lens, *]; omega))) rfl rfl ?_
  refine CertK.vd (Y.move (up0 rfl rfl rfl) rfl rfl) rfl rfl ?_
  refine CertK.vd (Y.ia0 ty60 ty24 (up0 rfl rfl rfl) rfl rfl rfl (by omega)) rfl rfl ?_
  refine CertK.vd (Y.ldI ty24 rfl (up0 rfl rfl rfl) rfl rfl rfl (by first | (with_reducible assumption) | omega | (simp only [*]; done) | (simp only [*]; omega) | (simp only [lens, *]; done) | (simp only [lens, *]; omega))) rfl rfl ?_
  refine CertK.vd (Y.add u32s u32m (up0 rfl rfl rfl) rfl rfl rfl) rfl rfl ?_
  refine CertK.v (Y.ia0 ty60 ty24 (up0 rfl rfl rfl) rfl rfl rfl (by omega)) rfl ?_
  refine CertK.n (Y.stI ty24 (upN rfl rfl) rfl rfl rfl rfl (by first | (with_reducible assumption) | omega | (simp only [*]; done) | (simp only [*]; omega) | (simp only [lens, *]; done) | (simp only [lens, *]; omega))) rfl rfl rfl rfl ?_
  refine CertK.nil ?_
  refine Holds.seq ?_
  refine Holds.dr mx [([39], [40, 41, 42, 43, 44, 45, 46, 47]), ([40], [39, 43, 44, 45]), ([41], [39, 43, 44, 45]), ([42], [39, 43, 44, 45]), ([43], [39, 40, 41, 42]), ([44], [39, 40, 41, 42]), ([45], [39, 40, 41, 42]), ([46], [39]), ([47], [39]), ([48], []), ([5], [])] (by kernel_rfl) ?_
  refine CertK.vd (Y.move (up0 rfl rfl rfl) rfl rfl) rfl rfl ?_
  refine CertK.vd (Y.move (up0 rfl rfl rfl) rfl rfl) rfl rfl ?_
  refine CertK.vd (Y.ia0 ty60 ty24 (up0 rfl rfl rfl) rfl rfl rfl (by omega)) rfl rfl ?_
  refine CertK.vd (Y.ldI ty24 rfl (up0 rfl rfl rfl) rfl rfl rfl (by first | (with_reducible assumption) | omega | (simp only [*]; done) | (simp only [*]; omega) | (simp only [lens, *]; done) | (simp only [lens, *]; omega))) rfl rfl ?_
  refine CertK.vd (Y.move (up0 rfl rfl rfl) rfl rfl) rfl rfl ?_
  refine CertK.vd (Y.ia0 ty60 ty24 (up0 rfl rfl rfl) rfl rfl rfl (by omega)) rfl rfl ?_
  refine CertK.vd (Y.ldI ty24 rfl (up0 rfl rfl rfl) rfl rfl rfl (by first | (with_reducible assumption) | omega | (simp only [*]; done) | (simp only [*]; omega) | (simp only [lens, *]; done) | (simp only [lens, *]; omega))) rfl rfl ?_
  refine CertK.vd (Y.xor u32s u32m (up0 rfl rfl rfl) rfl rfl rfl) rfl rfl ?_
  refine CertK.vd (Y.callV (w64 _ _) fnok64 (up0 rfl rfl rfl) rfl rfl (.cons _ _ _ _ rfl (.cons _ _ (.one (.n .u64 12)) _ rfl .nil)) (.cons _ _ _ _ (.same _) (.cons _ _ _ _ (.same _) .nil)) rfl rfl) rfl rfl ?_
  refine CertK.v (Y.ia0 ty60 ty24 (up0 rfl rfl rfl) rfl rfl rfl (by omega)) rfl ?_
  refine CertK.n (Y.stI ty24 (upN rfl rfl) rfl rfl rfl rfl (by first | (with_reducible assumption) | omega | (simp only [*]; done) | (simp only [*]; omega) | (simp only [lens, *]; done) | (simp only [lens, *]; omega))) rfl rfl rfl rfl ?_
  refine CertK.nil ?_
  refine Holds.seq ?_
  refine Holds.dr mx [([49], [50, 51, 52, 53, 54, 55, 56]), ([50], [49, 53, 54, 55]), ([51], [49, 53, 54, 55]), ([52], [49, 53, 54, 55]), ([53], [49, 50, 51, 52]), ([54], [49, 50, 51, 52]), ([55], [49, 50, 51, 52]), ([56], [49]), ([57], []), ([5], [])] (by kernel_rfl) ?_
  refine CertK.vd (Y.move (up0 rfl rfl rfl) rfl rfl) rfl rfl ?_
  refine CertK.vd (Y.move (up0 rfl rfl rfl) rfl rfl) rfl rfl ?_
  refine CertK.vd (Y.ia0 ty60 ty24 (up0 rfl rfl rfl) rfl rfl rfl (by omega)) rfl rfl ?_
  refine CertK.vd (Y.ldI ty24 rfl (up0 rfl rfl rfl) rfl rfl rfl (by first | (with_reducible assumption) | omega | (simp only [*]; done) | (simp only [*]; omega) | (simp only [lens, *]; done) | (simp only [lens, *]; omega))) rfl rfl ?_
  refine CertK.vd (Y.move (up0 rfl rfl rfl) rfl rfl) rfl rfl ?_
  refine CertK.vd (Y.ia0 ty60 ty24 (up0 rfl rfl rfl) rfl rfl rfl (by omega)) rfl rfl ?_
  refine CertK.vd (Y.ldI ty24 rfl (up0 rfl rfl rfl) rfl rfl rfl (by first | (with_reducible assumption) | omega | (simp only [*]; done) | (simp only [*]; omega) | (simp only [lens, *]; done) | (simp only [lens, *]; omega))) rfl rfl ?_
  refine CertK.vd (Y.add u32s u32m (up0 rfl rfl rfl) rfl rfl rfl) rfl rfl ?_
  refine CertK.v (Y.ia0 ty60 ty24 (up0 rfl rfl rfl) rfl rfl rfl (by omega)) rfl ?_
  refine CertK.n (Y.stI ty24 (upN rfl rfl) rfl rfl rfl rfl (by first | (with_reducible assumption) | omega | (simp only [*]; done) | (simp only [*]; omega) | (simp only [lens, *]; done) | (simp only [lens, *]; omega))) rfl rfl rfl rfl ?_
  refine CertK.nil ?_
  refine Holds.seq ?_
  refine Holds.dr mx [([58], [59, 60, 61, 62, 63, 64, 65, 66]), ([59], [58, 62, 63, 64]), ([60], [58, 62, 63, 64]), ([61], [58, 62, 63, 64]), ([62], [58, 59, 60, 61]), ([63], [58, 59, 60, 61]), ([64], [58, 59, 60, 61]), ([65], [58]), ([66], [58]), ([67], []), ([5], [])] (by kernel_rfl) ?_
  refine CertK.vd (Y.move (up0 rfl rfl rfl) rfl rfl) rfl rfl ?_
  refine CertK.vd (Y.move (up0 rfl rfl rfl) rfl rfl) rfl rfl ?_
  refine CertK.vd (Y.ia0 ty60 ty24 (up0 rfl rfl rfl) rfl rfl rfl (by omega)) rfl rfl ?_
  refine CertK.vd (Y.ldI ty24 rfl (up0 rfl rfl rfl) rfl rfl rfl (by first | (with_reducible assumption) | omega | (simp only [*]; done) | (simp only [*]; omega) | (simp only [lens, *]; done) | (simp only [lens, *]; omega))) rfl rfl ?_
  refine CertK.vd (Y.move (up0 rfl rfl rfl) rfl rfl) rfl rfl ?_
  refine CertK.vd (Y.ia0 ty60 ty24 (up0 rfl rfl rfl) rfl rfl rfl (by omega)) rfl rfl ?_
  refine CertK.vd (Y.ldI ty24 rfl (up0 rfl rfl rfl) rfl rfl rfl (by first | (with_reducible assumption) | omega | (simp only [*]; done) | (simp only [*]; omega) | (simp only [lens, *]; done) | (simp only [lens, *]; omega))) rfl rfl ?_
  refine CertK.vd (Y.xor u32s u32m (up0 rfl rfl rfl) rfl rfl rfl) rfl rfl ?_
  refine CertK.vd (Y.callV (w64 _ _) fnok64 (up0 rfl rfl rfl) rfl rfl (.cons _ _ _ _ rfl (.cons _ _ (.one (.n .u64 8)) _ rfl .nil)) (.cons _ _ _ _ (.same _) (.cons _ _ _ _ (.same _) .nil)) rfl rfl) rfl rfl ?_
  refine CertK.v (Y.ia0 ty60 ty24 (up0 rfl rfl rfl) rfl rfl rfl (by omega)) rfl ?_
  refine CertK.n (Y.stI ty24 (upN rfl rfl) rfl rfl rfl rfl (by first | (with_reducible assumption) | omega | (simp only [*]; done) | (simp only [*]; omega) | (simp only [lens, *]; done) | (simp only [lens, *]; omega))) rfl rfl rfl rfl ?_
  refine CertK.nil ?_
  refine Holds.seq ?_
  refine Holds.dr mx [([68], [69, 70, 71, 72, 73, 74, 75]), ([69], [68, 72, 73, 74]), ([70], [68, 72, 73, 74]), ([71], [68, 72, 73, 74]), ([72], [68, 69, 70, 71]), ([73], [68, 69, 70, 71]), ([74], [68, 69, 70, 71]), ([75], [68]), ([76], []), ([5], [])] (by kernel_rfl) ?_
  refine CertK.vd (Y.move (up0 rfl rfl rfl) rfl rfl) rfl rfl ?_
  refine CertK.vd (Y.move (up0 rfl rfl rfl) rfl rfl) rfl rfl ?_
  refine CertK.vd (Y.ia0 ty60 ty24 (up0 rfl rfl rfl) rfl rfl rfl (by omega)) rfl rfl ?_
  refine CertK.vd (Y.ldI ty24 rfl (up0 rfl rfl rfl) rfl rfl rfl (by first | (with_reducible assumption) | omega | (simp only [*]; done) | (simp only [*]; omega) | (simp only [lens, *]; done) | (simp only [lens, *]; omega))) rfl rfl ?_
  refine CertK.vd (Y.move (up0 rfl rfl rfl) rfl rfl) rfl rfl ?_
  refine CertK.vd (Y.ia0 ty60 ty24 (up0 rfl rfl rfl) rfl rfl rfl (by omega)) rfl rfl ?_
  refine CertK.vd (Y.ldI ty24 rfl (up0 rfl rfl rfl) rfl rfl rfl (by first | (with_reducible assumption) | omega | (simp only [*]; done) | (simp only [*]; omega) | (simp only [lens, *]; done) | (simp only [lens, *]; omega))) rfl rfl ?_
  refine CertK.vd (Y.add u32s u32m (up0 rfl rfl rfl) rfl rfl rfl) rfl rfl ?_
  refine CertK.v (Y.ia0 ty60 ty24 (up0 rfl rfl rfl) rfl rfl rfl (by omega)) rfl ?_
  refine CertK.n (Y.stI ty24 (upN rfl rfl) rfl rfl rfl rfl (by first | (with_reducible assumption) | omega | (simp only [*]; done) | (simp only [*]; omega) | (simp only [lens, *]; done) | (simp only [lens, *]; omega))) rfl rfl rfl rfl ?_
  refine CertK.nil ?_
  refine Holds.seq ?_
  refine Holds.dr mx [([77], [78, 79, 80, 81, 82, 83, 84, 85]), ([78], [77, 81, 82, 83]), ([79], [77, 81, 82, 83]), ([80], [77, 81, 82, 83]), ([81], [77, 78, 79, 80]), ([82], [77, 78, 79, 80]), ([83], [77, 78, 79, 80]), ([84], [77]), ([85], [77]), ([86], []), ([5], [])] (by kernel_rfl) ?_
  refine CertK.vd (Y.move (up0 rfl rfl rfl) rfl rfl) rfl rfl ?_
  refine CertK.vd (Y.move (up0 rfl rfl rfl) rfl rfl) rfl rfl ?_
  refine CertK.vd (Y.ia0 ty60 ty24 (up0 rfl rfl rfl) rfl rfl rfl (by omega)) rfl rfl ?_
  refine CertK.vd (Y.ldI ty24 rfl (up0 rfl rfl rfl) rfl rfl rfl (by first | (with_reducible assumption) | omega | (simp only [*]; done) | (simp only [*]; omega) | (simp only [lens, *]; done) | (simp only [lens, *]; omega))) rfl rfl ?_
  refine CertK.vd (Y.move (up0 rfl rfl rfl) rfl rfl) rfl rfl ?_
  refine CertK.vd (Y.ia0 ty60 ty24 (up0 rfl rfl rfl) rfl rfl rfl (by omega)) rfl rfl ?_
  refine CertK.vd (Y.ldI ty24 rfl (up0 rfl rfl rfl) rfl rfl rfl (by first | (with_reducible assumption) | omega | (simp only [*]; done) | (simp only [*]; omega) | (simp only [lens, *]; done) | (simp only [lens, *]; omega))) rfl rfl ?_
  refine CertK.vd (Y.xor u32s u32m (up0 rfl rfl rfl) rfl rfl rfl) rfl rfl ?_
  refine CertK.vd (Y.callV (w64 _ _) fnok64 (up0 rfl rfl rfl) rfl rfl (.cons _ _ _ _ rfl (.cons _ _ (.one (.n .u64 7)) _ rfl .nil)) (.cons _ _ _ _ (.same _) (.cons _ _ _ _ (.same _) .nil)) rfl rfl) rfl rfl ?_
  refine CertK.v (Y.ia0 ty60 ty24 (up0 rfl rfl rfl) rfl rfl rfl (by omega)) rfl ?_
  refine CertK.n (Y.stI ty24 (upN rfl rfl) rfl rfl rfl rfl (by first | (with_reducible assumption) | omega | (simp only [*]; done) | (simp only [*]; omega) | (simp only [lens, *]; done) | (simp only [lens, *]; omega))) rfl rfl rfl rfl ?_
  refine CertK.nil ?_
  refine Holds.seq ?_
  refine Holds.reg ?_
  refine OpsFrom.v (Y.ldAll ty60 rfl (up0 rfl rfl rfl) rfl rfl rfl (by first | (with_reducible assumption) | omega | (simp only [*]; done) | (simp only [*]; omega) | (simp only [lens, *]; done) | (simp only [lens, *]; omega)) (by decide)) rfl ?_
  refine OpsFrom.n (Y.stR ty60 (upN rfl rfl) rfl rfl rfl rfl rfl (by first | (with_reducible assumption) | omega | (simp only [*]; done) | (simp only [*]; omega) | (simp only [lens, *]; done) | (simp only [lens, *]; omega)) (by first | (with_reducible assumption) | omega | (simp only [*]; done) | (simp only [*]; omega) | (simp only [lens, *]; done) | (simp only [lens, *]; omega)) (by decide)) rfl rfl ?_
  refine OpsFrom.nil ?_
  refine Holds.ret ?_
  exact Holds.ret1 (.inl rfl) rfl (.rowN rfl rfl ty60 rfl (by first | (with_reducible assumption) | omega | (simp only [*]; done) | (simp only [*]; omega) | (simp only [lens, *]; done) | (simp only [lens, *]; omega)) (by decide)) (.same _) rfl
theorem w30 (key nonce : List Nat) (ctr : Nat) (hk : key.length = 32) (hn : nonce.length = 12) : VC Try.prog 30 [.row (.ints .u8 key), .one (.n .u32 ctr), .row (.ints .u8 nonce)] (.row (.ints .u8 (rblock key ctr nonce))) := by
  refine VC.go Try.func30 rfl Try.ntmps30 rfl rfl fun O w => ?_
  refine Holds.seq ?_
  refine Holds.reg ?_
  refine OpsFrom.u (Y.boxR (d := 3) (up0 rfl rfl rfl) rfl rfl rfl) rfl rfl rfl ?_
  refine OpsFrom.u (Y.boxR (d := 5) (up0 rfl rfl rfl) rfl rfl rfl) rfl rfl rfl ?_
  refine OpsFrom.u (Y.alloc (d := 6) ty30 rfl rfl (up0 rfl rfl rfl) rfl) rfl rfl rfl ?_
  refine OpsFrom.nil ?_
  refine Holds.seq ?_
  refine Holds.reg ?_
  refine OpsFrom.v (Y.buildA ty60 ty24 rfl (up0 rfl rfl rfl) rfl (.cons _ _ _ _ _ _ (.one (.n .u32 1634760805)) _ _ rfl rfl rfl rfl (Spl.n (by decide)) (.cons _ _ _ _ _ _ (.one (.n .u32 857760878)) _ _ rfl rfl rfl rfl (Spl.n (by decide)) (.cons _ _ _ _ _ _ (.one (.n .u32 2036477234)) _ _ rfl rfl rfl rfl (Spl.n (by decide)) (.cons _ _ _ _ _ _ (.one (.n .u32 1797285236)) _ _ rfl rfl rfl rfl (Spl.n (by decide)) (.nil _)))))) rfl ?_
  refine OpsFrom.u (Y.alloc (d := 7) ty60 rfl rfl (up0 rfl rfl rfl) rfl) rfl rfl rfl ?_
  refine OpsFrom.n (Y.stR ty60 (upN rfl rfl) rfl rfl rfl rfl rfl (by first | (with_reducible assumption) | omega | (simp only [*]; done) | (simp only [*]; omega) | (simp only [lens, *]; done) | (simp only [lens, *]; omega)) (by first | (with_reducible assumption) | omega | (simp only [*]; done) | (simp only [*]; omega) | (simp only [lens, *]; done) | (simp only [lens, *]; omega)) (by decide)) rfl rfl ?_
  refine OpsFrom.nil ?_
  refine Holds.seq ?_
  refine Holds.seq ?_
  refine Holds.reg ?_
  refine OpsFrom.v (Y.assign (v := (.one (.n .i64 0))) (up0 rfl rfl rfl) rfl rfl) rfl ?_
  refine OpsFrom.nil ?_
  refine Holds.block ?_
  refine Holds.loop (fun (i : Nat) => ⟨[(8, .one (.n .i64 i)), (7, .one (.p 7 0)), (3, .one (.p 3 0)), (5, .one (.p 5 0)), (6, .one (.p 6 0)), (1, .one (.n .u32 ctr))], [(7, .own (.ints .u32 (iter (rkstep key) i rm0))), (3, .own (.ints .u8 key)), (5, .own (.ints .u8 nonce)), (6, .own (.ints .u8 (List.replicate 64 0)))]⟩) (fun (i : Nat) => i ≤ 8) (fun (i : Nat) => 8 - i) 0 (by omega) [] ⟨⟨rfl, rfl, rfl, rfl, rfl, rfl, trivial⟩, ⟨(hEq (iter0 _ _).symm), rfl, rfl, rfl, trivial⟩, rfl, rfl⟩ ?_
  intro i hok
  have hl := rklen key i
  refine Holds.seq ?_
  refine Holds.seq ?_
  refine Holds.reg ?_
  refine OpsFrom.v (Y.move (up0 rfl rfl rfl) rfl rfl) rfl ?_
  refine OpsFrom.v (Y.lss (b := 8) (up0 rfl rfl rfl) rfl rfl rfl) rfl ?_
  refine OpsFrom.nil ?_
  refine Holds.condD rfl (fun h16 => ?_) (fun h16 => ?_)
  · refine Holds.skip ?_
    refine Holds.seq ?_
    refine Holds.block ?_
    refine Holds.reg ?_
    refine OpsFrom.v (Y.move (up0 rfl rfl rfl) rfl rfl) rfl ?_
    refine OpsFrom.v (Y.addI (a := 4) (up0 rfl rfl rfl) rfl rfl rfl (by omega)) rfl ?_
    refine OpsFrom.v (Y.move (up0 rfl rfl rfl) rfl rfl) rfl ?_
    refine OpsFrom.v (Y.mulI (a := 4) (up0 rfl rfl rfl) rfl rfl rfl (by omega)) rfl ?_
    refine OpsFrom.v (Y.move (up0 rfl rfl rfl) rfl rfl) rfl ?_
    refine OpsFrom.v (Y.mulI (a := 4) (up0 rfl rfl rfl) rfl rfl rfl (by omega)) rfl ?_
    refine OpsFrom.v (Y.addI (b := 4) (up0 rfl rfl rfl) rfl rfl rfl (by omega)) rfl ?_
    refine OpsFrom.v (Y.slArr0 ty23 ty5 (up0 rfl rfl rfl) rfl rfl rfl (by first | (with_reducible assumption) | omega | (simp only [*]; done) | (simp only [*]; omega) | (simp only [lens, *]; done) | (simp only [lens, *]; omega)) (bnd1 rfl) (bnd1 rfl) (by first | (with_reducible assumption) | omega | (simp only [*]; done) | (simp only [*]; omega) | (simp only [lens, *]; done) | (simp only [lens, *]; omega)) (by first | (with_reducible assumption) | omega | (simp only [*]; done) | (simp only [*]; omega) | (simp only [lens, *]; done) | (simp only [lens, *]; omega))) rfl ?_
    refine OpsFrom.v (Y.callV (w51 _ (by first | (with_reducible assumption) | omega | (simp only [*]; done) | (simp only [*]; omega) | (simp only [lens, *]; done) | (simp only [lens, *]; omega))) fnok51 (up0 rfl rfl rfl) rfl rfl (.cons _ _ _ _ rfl .nil) (.cons _ _ _ _ (.sg _ _ _ _ _ _ rfl rfl (by first | (with_reducible assumption) | omega | (simp only [*]; done) | (simp only [*]; omega) | (simp only [lens, *]; done) | (simp only [lens, *]; omega))) .nil) rfl rfl) rfl ?_
    refine OpsFrom.v (Y.ia0 ty60 ty24 (up0 rfl rfl rfl) rfl rfl rfl (by omega)) rfl ?_
    refine OpsFrom.n (Y.stI ty24 (upN rfl rfl) rfl rfl rfl rfl (by first | (with_reducible assumption) | omega | (simp only [*]; done) | (simp only [*]; omega) | (simp only [lens, *]; done) | (simp only [lens, *]; omega))) rfl rfl ?_
    refine OpsFrom.nil ?_
    refine Holds.reg ?_
    refine OpsFrom.v (Y.move (up0 rfl rfl rfl) rfl rfl) rfl ?_
    refine OpsFrom.v (Y.addI (b := 1) (up0 rfl rfl rfl) rfl rfl rfl (by omega)) rfl ?_
    refine OpsFrom.v (Y.assign (up0 rfl rfl rfl) rfl rfl) rfl ?_
    refine OpsFrom.nil ?_
    exact Holds.again (i + 1) (by omega) (by omega) [] ⟨⟨rfl, rfl, rfl, rfl, rfl, rfl, trivial⟩, ⟨rfl, rfl, rfl, rfl, trivial⟩, rfl, rfl⟩
  · obtain rfl : i = 8 := by omega
    refine Holds.exit ?_
    refine Holds.seq ?_
    refine Holds.reg ?_
    refine OpsFrom.v (Y.move (up0 rfl rfl rfl) rfl rfl) rfl ?_
    refine OpsFrom.v (Y.ia0 (i := 12) ty60 ty24 (up0 rfl rfl rfl) rfl rfl rfl (by omega)) rfl ?_
    refine OpsFrom.n (Y.stI ty24 (upN rfl rfl) rfl rfl rfl rfl (by first | (with_reducible assumption) | omega | (simp only [*]; done) | (simp only [*]; omega) | (simp only [lens, *]; done) | (simp only [lens, *]; omega))) rfl rfl ?_
    refine OpsFrom.nil ?_
    refine Holds.seq ?_
    refine Holds.seq ?_
    rw [show (iter (rkstep key) 8 rm0).set 12 ctr = rm1 key ctr from rfl]
    refine Holds.reg ?_
    refine OpsFrom.v (Y.assign (v := (.one (.n .i64 0))) (up0 rfl rfl rfl) rfl rfl) rfl ?_
    refine OpsFrom.nil ?_
    refine Holds.block ?_
    refine Holds.loop (fun (i : Nat) => ⟨[(9, .one (.n .i64 i)), (7, .one (.p 7 0)), (5, .one (.p 5 0)), (6, .one (.p 6 0))], [(7, .own (.ints .u32 (iter (rnstep nonce) i (rm1 key ctr)))), (5, .own (.ints .u8 nonce)), (6, .own (.ints .u8 (List.replicate 64 0)))]⟩) (fun (i : Nat) => i ≤ 3) (fun (i : Nat) => 3 - i) 0 (by omega) [] ⟨⟨rfl, rfl, rfl, rfl, trivial⟩, ⟨(hEq (iter0 _ _).symm), rfl, rfl, trivial⟩, rfl, rfl⟩ ?_
    intro i hok
    have hl := rnlen key nonce i ctr
    refine Holds.seq ?_
    refine Holds.seq ?_
    refine Holds.reg ?_
    refine OpsFrom.v (Y.move (up0 rfl rfl rfl) rfl rfl) rfl ?_
    refine OpsFrom.v (Y.lss (b := 3) (up0 rfl rfl rfl) rfl rfl rfl) rfl ?_
    refine OpsFrom.nil ?_
    refine Holds.condD rfl (fun h32 => ?_) (fun h32 => ?_)
    · refine Holds.skip ?_
      refine Holds.seq ?_
      refine Holds.block ?_
      refine Holds.reg ?_
      refine OpsFrom.v (Y.move (up0 rfl rfl rfl) rfl rfl) rfl ?_
      refine OpsFrom.v (Y.addI (a := 13) (up0 rfl rfl rfl) rfl rfl rfl (by omega)) rfl ?_
      refine OpsFrom.v (Y.move (up0 rfl rfl rfl) rfl rfl) rfl ?_
      refine OpsFrom.v (Y.mulI (a := 4) (up0 rfl rfl rfl) rfl rfl rfl (by omega)) rfl ?_
      refine OpsFrom.v (Y.move (up0 rfl rfl rfl) rfl rfl) rfl ?_
      refine OpsFrom.v (Y.mulI (a := 4) (up0 rfl rfl rfl) rfl rfl rfl (by omega)) rfl ?_
      refine OpsFrom.v (Y.addI (b := 4) (up0 rfl rfl rfl) rfl rfl rfl (by omega)) rfl ?_
      refine OpsFrom.v (Y.slArr0 ty25 ty5 (up0 rfl rfl rfl) rfl rfl rfl (by first | (with_reducible assumption) | omega | (simp only [*]; done) | (simp only [*]; omega) | (simp only [lens, *]; done) | (simp only [lens, *]; omega)) (bnd1 rfl) (bnd1 rfl) (by first | (with_reducible assumption) | omega | (simp only [*]; done) | (simp only [*]; omega) | (simp only [lens, *]; done) | (simp only [lens, *]; omega)) (by first | (with_reducible assumption) | omega | (simp only [*]; done) | (simp only [*]; omega) | (simp only [lens, *]; done) | (simp only [lens, *]; omega))) rfl ?_
      refine OpsFrom.v (Y.callV (w51 _ (by first | (with_reducible assumption) | omega | (simp only [*]; done) | (simp only [*]; omega) | (simp only [lens, *]; done) | (simp only [lens, *]; omega))) fnok51 (up0 rfl rfl rfl) rfl rfl (.cons _ _ _ _ rfl .nil) (.cons _ _ _ _ (.sg _ _ _ _ _ _ rfl rfl (by first | (with_reducible assumption) | omega | (simp only [*]; done) | (simp only [*]; omega) | (simp only [lens, *]; done) | (simp only [lens, *]; omega))) .nil) rfl rfl) rfl ?_
      refine OpsFrom.v (Y.ia0 ty60 ty24 (up0 rfl rfl rfl) rfl rfl rfl (by omega)) rfl ?_
      refine OpsFrom.n (Y.stI ty24 (upN rfl rfl) rfl rfl rfl rfl (by first | (with_reducible assumption) | omega | (simp only [*]; done) | (simp only [*]; omega) | (simp only [lens, *]; done) | (simp only [lens, *]; omega))) rfl rfl ?_
      refine OpsFrom.nil ?_
      refine Holds.reg ?_
      refine OpsFrom.v (Y.move (up0 rfl rfl rfl) rfl rfl) rfl ?_
      refine OpsFrom.v (Y.addI (b := 1) (up0 rfl rfl rfl) rfl rfl rfl (by omega)) rfl ?_
      refine OpsFrom.v (Y.assign (up0 rfl rfl rfl) rfl rfl) rfl ?_
      refine OpsFrom.nil ?_
      exact Holds.again (i + 1) (by omega) (by omega) [] ⟨⟨rfl, rfl, rfl, rfl, trivial⟩, ⟨rfl, rfl, rfl, trivial⟩, rfl, rfl⟩
    · obtain rfl : i = 3 := by omega
      rw [show iter (rnstep nonce) 3 (rm1 key ctr) = rm2 key ctr nonce from rfl]
      have hl2 := rm2len key ctr nonce
      refine Holds.exit ?_
      refine Holds.seq ?_
      refine Holds.reg ?_
      refine OpsFrom.v (Y.ldAll ty60 rfl (up0 rfl rfl rfl) rfl rfl rfl (by first | (with_reducible assumption) | omega | (simp only [*]; done) | (simp only [*]; omega) | (simp only [lens, *]; done) | (simp only [lens, *]; omega)) (by decide)) rfl ?_
      refine OpsFrom.u (Y.alloc (d := 10) ty60 rfl rfl (up0 rfl rfl rfl) rfl) rfl rfl rfl ?_
      refine OpsFrom.n (Y.stR ty60 (upN rfl rfl) rfl rfl rfl rfl rfl (by first | (with_reducible assumption) | omega | (simp only [*]; done) | (simp only [*]; omega) | (simp only [lens, *]; done) | (simp only [lens, *]; omega)) (by first | (with_reducible assumption) | omega | (simp only [*]; done) | (simp only [*]; omega) | (simp only [lens, *]; done) | (simp only [lens, *]; omega)) (by decide)) rfl rfl ?_
      refine OpsFrom.nil ?_
      refine Holds.seq ?_
      refine Holds.seq ?_
      refine Holds.reg ?_
      refine OpsFrom.v (Y.assign (v := (.one (.n .i64 0))) (up0 rfl rfl rfl) rfl rfl) rfl ?_
      refine OpsFrom.nil ?_
      refine Holds.block ?_
      refine Holds.loop (fun (r : Nat) => ⟨[(11, .one (.n .i64 r)), (7, .one (.p 7 0)), (10, .one (.p 10 0)), (6, .one (.p 6 0))], [(7, .own (.ints .u32 (rm2 key ctr nonce))), (10, .own (.ints .u32 (iter rdround r (rm2 key ctr nonce)))), (6, .own (.ints .u8 (List.replicate 64 0)))]⟩) (fun (r : Nat) => r ≤ 10) (fun (r : Nat) => 10 - r) 0 (by omega) [] ⟨⟨rfl, rfl, rfl, rfl, trivial⟩, ⟨rfl, (hEq (iter0 _ _).symm), rfl, trivial⟩, rfl, rfl⟩ ?_
      intro r hok
      have hql := quarter_len
      have hl := rdlen r (rm2 key ctr nonce) (rm2len key ctr nonce)
      refine Holds.seq ?_
      refine Holds.seq ?_
      refine Holds.reg ?_
      refine OpsFrom.v (Y.move (up0 rfl rfl rfl) rfl rfl) rfl ?_
      refine OpsFrom.v (Y.lss (b := 10) (up0 rfl rfl rfl) rfl rfl rfl) rfl ?_
      refine OpsFrom.nil ?_
      refine Holds.condD rfl (fun h47 => ?_) (fun h47 => ?_)
      · refine Holds.skip ?_
        refine Holds.seq ?_
        refine Holds.block ?_
        refine Holds.seq ?_
        refine Holds.reg ?_
        refine OpsFrom.v (Y.ldAll ty60 rfl (up0 rfl rfl rfl) rfl rfl rfl (by first | (with_reducible assumption) | omega | (simp only [*]; done) | (simp only [*]; omega) | (simp only [lens, *]; done) | (simp only [lens, *]; omega)) (by decide)) rfl ?_
        refine OpsFrom.v (Y.callV (w52 _ _ _ _ _ (by first | (with_reducible assumption) | omega | (simp only [*]; done) | (simp only [*]; omega) | (simp only [lens, *]; done) | (simp only [lens, *]; omega)) (by decide) (by decide) (by decide) (by decide)) fnok52 (up0 rfl rfl rfl) rfl rfl (.cons _ _ _ _ rfl (.cons _ _ (.one (.n .i64 0)) _ rfl (.cons _ _ (.one (.n .i64 4)) _ rfl (.cons _ _ (.one (.n .i64 8)) _ rfl (.cons _ _ (.one (.n .i64 12)) _ rfl .nil))))) (.cons _ _ _ _ (.same _) (.cons _ _ _ _ (.same _) (.cons _ _ _ _ (.same _) (.cons _ _ _ _ (.same _) (.cons _ _ _ _ (.same _) .nil))))) rfl rfl) rfl ?_
        refine OpsFrom.n (Y.stR ty60 (upN rfl rfl) rfl rfl rfl rfl rfl (by first | (with_reducible assumption) | omega | (simp only [*]; done) | (simp only [*]; omega) | (simp only [lens, *]; done) | (simp only [lens, *]; omega)) (by first | (with_reducible assumption) | omega | (simp only [*]; done) | (simp only [*]; omega) | (simp only [lens, *]; done) | (simp only [lens, *]; omega)) (by decide)) rfl rfl ?_
        refine OpsFrom.nil ?_
        refine Holds.seq ?_
        refine Holds.reg ?_
        refine OpsFrom.v (Y.ldAll ty60 rfl (up0 rfl rfl rfl) rfl rfl rfl (by first | (with_reducible assumption) | omega | (simp only [*]; done) | (simp only [*]; omega) | (simp only [lens, *]; done) | (simp only [lens, *]; omega)) (by decide)) rfl ?_
        refine OpsFrom.v (Y.callV (w52 _ _ _ _ _ (by first | (with_reducible assumption) | omega | (simp only [*]; done) | (simp only [*]; omega) | (simp only [lens, *]; done) | (simp only [lens, *]; omega)) (by decide) (by decide) (by decide) (by decide)) fnok52 (up0 rfl rfl rfl) rfl rfl (.cons _ _ _ _ rfl (.cons _ _ (.one (.n .i64 1)) _ rfl (.cons _ _ (.one (.n .i64 5)) _ rfl (.cons _ _ (.one (.n .i64 9)) _ rfl (.cons _ _ (.one (.n .i64 13)) _ rfl .nil))))) (.cons _ _ _ _ (.same _) (.cons _ _ _ _ (.same _) (.cons _ _ _ _ (.same _) (.cons _ _ _ _ (.same _) (.cons _ _ _ _ (.same _) .nil))))) rfl rfl) rfl ?_
        refine OpsFrom.n (Y.stR ty60 (upN rfl rfl) rfl rfl rfl rfl rfl (by first | (with_reducible assumption) | omega | (simp only [*]; done) | (simp only [*]; omega) | (simp only [lens, *]; done) | (simp only [lens, *]; omega)) (by first | (with_reducible assumption) | omega | (simp only [*]; done) | (simp only [*]; omega) | (simp only [lens, *]; done) | (simp only [lens, *]; omega)) (by decide)) rfl rfl ?_
        refine OpsFrom.nil ?_
        refine Holds.seq ?_
        refine Holds.reg ?_
        refine OpsFrom.v (Y.ldAll ty60 rfl (up0 rfl rfl rfl) rfl rfl rfl (by first | (with_reducible assumption) | omega | (simp only [*]; done) | (simp only [*]; omega) | (simp only [lens, *]; done) | (simp only [lens, *]; omega)) (by decide)) rfl ?_
        refine OpsFrom.v (Y.callV (w52 _ _ _ _ _ (by first | (with_reducible assumption) | omega | (simp only [*]; done) | (simp only [*]; omega) | (simp only [lens, *]; done) | (simp only [lens, *]; omega)) (by decide) (by decide) (by decide) (by decide)) fnok52 (up0 rfl rfl rfl) rfl rfl (.cons _ _ _ _ rfl (.cons _ _ (.one (.n .i64 2)) _ rfl (.cons _ _ (.one (.n .i64 6)) _ rfl (.cons _ _ (.one (.n .i64 10)) _ rfl (.cons _ _ (.one (.n .i64 14)) _ rfl .nil))))) (.cons _ _ _ _ (.same _) (.cons _ _ _ _ (.same _) (.cons _ _ _ _ (.same _) (.cons _ _ _ _ (.same _) (.cons _ _ _ _ (.same _) .nil))))) rfl rfl) rfl ?_
        refine OpsFrom.n (Y.stR ty60 (upN rfl rfl) rfl rfl rfl rfl rfl (by first | (with_reducible assumption) | omega | (simp only [*]; done) | (simp only [*]; omega) | (simp only [lens, *]; done) | (simp only [lens, *]; omega)) (by first | (with_reducible assumption) | omega | (simp only [*]; done) | (simp only [*]; omega) | (simp only [lens, *]; done) | (simp only [lens, *]; omega)) (by decide)) rfl rfl ?_
        refine OpsFrom.nil ?_
        refine Holds.seq ?_
        refine Holds.reg ?_
        refine OpsFrom.v (Y.ldAll ty60 rfl (up0 rfl rfl rfl) rfl rfl rfl (by first | (with_reducible assumption) | omega | (simp only [*]; done) | (simp only [*]; omega) | (simp only [lens, *]; done) | (simp only [lens, *]; omega)) (by decide)) rfl ?_
        refine OpsFrom.v (Y.callV (w52 _ _ _ _ _ (by first | (with_reducible assumption) | omega | (simp only [*]; done) | (simp only [*]; omega) | (simp only [lens, *]; done) | (simp only [lens, *]; omega)) (by decide) (by decide) (by decide) (by decide)) fnok52 (up0 rfl rfl rfl) rfl rfl (.cons _ _ _ _ rfl (.cons _ _ (.one (.n .i64 3)) _ rfl (.cons _ _ (.one (.n .i64 7)) _ rfl (.cons _ _ (.one (.n .i64 11)) _ rfl (.cons _ _ (.one (.n .i64 15)) _ rfl .nil))))) (.cons _ _ _ _ (.same _) (.cons _ _ _ _ (.same _) (.cons _ _ _ _ (.same _) (.cons _ _ _ _ (.same _) (.cons _ _ _ _ (.same _) .nil))))) rfl rfl) rfl ?_
        refine OpsFrom.n (Y.stR ty60 (upN rfl rfl) rfl rfl rfl rfl rfl (by first | (with_reducible assumption) | omega | (simp only [*]; done) | (simp only [*]; omega) | (simp only [lens, *]; done) | (simp only [lens, *]; omega)) (by first | (with_reducible assumption) | omega | (simp only [*]; done) | (simp only [*]; omega) | (simp only [lens, *]; done) | (simp only [lens, *]; omega)) (by decide)) rfl rfl ?_
        refine OpsFrom.nil ?_
        refine Holds.seq ?_
        refine Holds.reg ?_
        refine OpsFrom.v (Y.ldAll ty60 rfl (up0 rfl rfl rfl) rfl rfl rfl (by first | (with_reducible assumption) | omega | (simp only [*]; done) | (simp only [*]; omega) | (simp only [lens, *]; done) | (simp only [lens, *]; omega)) (by decide)) rfl ?_
        refine OpsFrom.v (Y.callV (w52 _ _ _ _ _ (by first | (with_reducible assumption) | omega | (simp only [*]; done) | (simp only [*]; omega) | (simp only [lens, *]; done) | (simp only [lens, *]; omega)) (by decide) (by decide) (by decide) (by decide)) fnok52 (up0 rfl rfl rfl) rfl rfl (.cons _ _ _ _ rfl (.cons _ _ (.one (.n .i64 0)) _ rfl (.cons _ _ (.one (.n .i64 5)) _ rfl (.cons _ _ (.one (.n .i64 10)) _ rfl (.cons _ _ (.one (.n .i64 15)) _ rfl .nil))))) (.cons _ _ _ _ (.same _) (.cons _ _ _ _ (.same _) (.cons _ _ _ _ (.same _) (.cons _ _ _ _ (.same _) (.cons _ _ _ _ (.same _) .nil))))) rfl rfl) rfl ?_
        refine OpsFrom.n (Y.stR ty60 (upN rfl rfl) rfl rfl rfl rfl rfl (by first | (with_reducible assumption) | omega | (simp only [*]; done) | (simp only [*]; omega) | (simp only [lens, *]; done) | (simp only [lens, *]; omega)) (by first | (with_reducible assumption) | omega | (simp only [*]; done) | (simp only [*]; omega) | (simp only [lens, *]; done) | (simp only [lens, *]; omega)) (by decide)) rfl rfl ?_
        refine OpsFrom.nil ?_
        refine Holds.seq ?_
        refine Holds.reg ?_
        refine OpsFrom.v (Y.ldAll ty60 rfl (up0 rfl rfl rfl) rfl rfl rfl (by first | (with_reducible assumption) | omega | (simp only [*]; done) | (simp only [*]; omega) | (simp only [lens, *]; done) | (simp only [lens, *]; omega)) (by decide)) rfl ?_
        refine OpsFrom.v (Y.callV (w52 _ _ _ _ _ (by first | (with_reducible assumption) | omega | (simp only [*]; done) | (simp only [*]; omega) | (simp only [lens, *]; done) | (simp only [lens, *]; omega)) (by decide) (by decide) (by decide) (by decide)) fnok52 (up0 rfl rfl rfl) rfl rfl (.cons _ _ _ _ rfl (.cons _ _ (.one (.n .i64 1)) _ rfl (.cons _ _ (.one (.n .i64 6)) _ rfl (.cons _ _ (.one (.n .i64 11)) _ rfl (.cons _ _ (.one (.n .i64 12)) _ rfl .nil))))) (.cons _ _ _ _ (.same _) (.cons _ _ _ _ (.same _) (.cons _ _ _ _ (.same _) (.cons _ _ _ _ (.same _) (.cons _ _ _ _ (.same _) .nil))))) rfl rfl) rfl ?_
        refine OpsFrom.n (Y.stR ty60 (upN rfl rfl) rfl rfl rfl rfl rfl (by first | (with_reducible assumption) | omega | (simp only [*]; done) | (simp only [*]; omega) | (simp only [lens, *]; done) | (simp only [lens, *]; omega)) (by first | (with_reducible assumption) | omega | (simp only [*]; done) | (simp only [*]; omega) | (simp only [lens, *]; done) | (simp only [lens, *]; omega)) (by decide)) rfl rfl ?_
        refine OpsFrom.nil ?_
        refine Holds.seq ?_
        refine Holds.reg ?_
        refine OpsFrom.v (Y.ldAll ty60 rfl (up0 rfl rfl rfl) rfl rfl rfl (by first | (with_reducible assumption) | omega | (simp only [*]; done) | (simp only [*]; omega) | (simp only [lens, *]; done) | (simp only [lens, *]; omega)) (by decide)) rfl ?_
        refine OpsFrom.v (Y.callV (w52 _ _ _ _ _ (by first | (with_reducible assumption) | omega | (simp only [*]; done) | (simp only [*]; omega) | (simp only [lens, *]; done) | (simp only [lens, *]; omega)) (by decide) (by decide) (by decide) (by decide)) fnok52 (up0 rfl rfl rfl) rfl rfl (.cons _ _ _ _ rfl (.cons _ _ (.one (.n .i64 2)) _ rfl (.cons _ _ (.one (.n .i64 7)) _ rfl (.cons _ _ (.one (.n .i64 8)) _ rfl (.cons _ _ (.one (.n .i64 13)) _ rfl .nil))))) (.cons _ _ _ _ (.same _) (.cons _ _ _ _ (.same _) (.cons _ _ _ _ (.same _) (.cons _ _ _ _ (.same _) (.cons _ _ _ _ (.same _) .nil))))) rfl rfl) rfl ?_
        refine OpsFrom.n (Y.stR ty60 (upN rfl rfl) rfl rfl rfl rfl rfl (by first | (with_reducible assumption) | omega | (simp only [*]; done) | (simp only [*]; omega) | (simp only [lens, *]; done) | (simp only [lens, *]; omega)) (by first | (with_reducible assumption) | omega | (simp only [*]; done) | (simp only [*]; omega) | (simp only [lens, *]; done) | (simp only [lens, *]; omega)) (by decide)) rfl rfl ?_
        refine OpsFrom.nil ?_
        refine Holds.reg ?_
        refine OpsFrom.v (Y.ldAll ty60 rfl (up0 rfl rfl rfl) rfl rfl rfl (by first | (with_reducible assumption) | omega | (simp only [*]; done) | (simp only [*]; omega) | (simp only [lens, *]; done) | (simp only [lens, *]; omega)) (by decide)) rfl ?_
        refine OpsFrom.v (Y.callV (w52 _ _ _ _ _ (by first | (with_reducible assumption) | omega | (simp only [*]; done) | (simp only [*]; omega) | (simp only [lens, *]; done) | (simp only [lens, *]; omega)) (by decide) (by decide) (by decide) (by decide)) fnok52 (up0 rfl rfl rfl) rfl rfl (.cons _ _ _ _ rfl (.cons _ _ (.one (.n .i64 3)) _ rfl (.cons _ _ (.one (.n .i64 4)) _ rfl (.cons _ _ (.one (.n .i64 9)) _ rfl (.cons _ _ (.one (.n .i64 14)) _ rfl .nil))))) (.cons _ _ _ _ (.same _) (.cons _ _ _ _ (.same _) (.cons _ _ _ _ (.same _) (.cons _ _ _ _ (.same _) (.cons _ _ _ _ (.same _) .nil))))) rfl rfl) rfl ?_
        refine OpsFrom.n (Y.stR ty60 (upN rfl rfl) rfl rfl rfl rfl rfl (by first | (with_reducible assumption) | omega | (simp only [*]; done) | (simp only [*]; omega) | (simp only [lens, *]; done) | (simp only [lens, *]; omega)) (by first | (with_reducible assumption) | omega | (simp only [*]; done) | (simp only [*]; omega) | (simp only [lens, *]; done) | (simp only [lens, *]; omega)) (by decide)) rfl rfl ?_
        refine OpsFrom.nil ?_
        refine Holds.reg ?_
        refine OpsFrom.v (Y.move (up0 rfl rfl rfl) rfl rfl) rfl ?_
        refine OpsFrom.v (Y.addI (b := 1) (up0 rfl rfl rfl) rfl rfl rfl (by omega)) rfl ?_
        refine OpsFrom.v (Y.assign (up0 rfl rfl rfl) rfl rfl) rfl ?_
        refine OpsFrom.nil ?_
        exact Holds.again (r + 1) (by omega) (by omega) [] ⟨⟨rfl, rfl, rfl, rfl, trivial⟩, ⟨rfl, (hEq (iterS rdround r _).symm), rfl, trivial⟩, rfl, rfl⟩
      · obtain rfl : r = 10 := by omega
        refine Holds.exit ?_
        refine Holds.seq ?_
        refine Holds.reg ?_
        refine OpsFrom.v (Y.buildA ty30 ty5 rfl (up0 rfl rfl rfl) rfl (.nil _)) rfl ?_
        refine OpsFrom.u (Y.alloc (d := 12) ty30 rfl rfl (up0 rfl rfl rfl) rfl) rfl rfl rfl ?_
        refine OpsFrom.n (Y.stR ty30 (upN rfl rfl) rfl rfl rfl rfl rfl (by first | (with_reducible assumption) | omega | (simp only [*]; done) | (simp only [*]; omega) | (simp only [lens, *]; done) | (simp only [lens, *]; omega)) (by first | (with_reducible assumption) | omega | (simp only [*]; done) | (simp only [*]; omega) | (simp only [lens, *]; done) | (simp only [lens, *]; omega)) (by decide)) rfl rfl ?_
        refine OpsFrom.nil ?_
        refine Holds.seq ?_
        refine Holds.seq ?_
        refine Holds.reg ?_
        refine OpsFrom.v (Y.assign (v := (.one (.n .i64 0))) (up0 rfl rfl rfl) rfl rfl) rfl ?_
        refine OpsFrom.nil ?_
        refine Holds.block ?_
        refine Holds.loop (fun (i : Nat) => ⟨[(13, .one (.n .i64 i)), (7, .one (.p 7 0)), (10, .one (.p 10 0)), (6, .one (.p 6 0)), (12, .one (.p 12 0))], [(7, .own (.ints .u32 (rm2 key ctr nonce))), (10, .own (.ints .u32 (iter rdround 10 (rm2 key ctr nonce)))), (6, .own (.ints .u8 (List.replicate 64 0))), (12, .own (.ints .u8 (iter (rostep (iter rdround 10 (rm2 key ctr nonce)) (rm2 key ctr nonce)) i (List.replicate 64 0))))]⟩) (fun (i : Nat) => i ≤ 64) (fun (i : Nat) => 64 - i) 0 (by omega) [] ⟨⟨rfl, rfl, rfl, rfl, rfl, trivial⟩, ⟨rfl, rfl, rfl, (hEq (iter0 _ _).symm), trivial⟩, rfl, rfl⟩ ?_
        intro i hok
        have hl1 := rdlen 10 (rm2 key ctr nonce) (rm2len key ctr nonce)
        have hl2 := rm2len key ctr nonce
        have hl := rolen (iter rdround 10 (rm2 key ctr nonce)) (rm2 key ctr nonce) i
        refine Holds.seq ?_
        refine Holds.seq ?_
        refine Holds.reg ?_
        refine OpsFrom.v (Y.move (up0 rfl rfl rfl) rfl rfl) rfl ?_
        refine OpsFrom.v (Y.lss (b := 64) (up0 rfl rfl rfl) rfl rfl rfl) rfl ?_
        refine OpsFrom.nil ?_
        refine Holds.condD rfl (fun h68 => ?_) (fun h68 => ?_)
        · refine Holds.skip ?_
          refine Holds.seq ?_
          refine Holds.block ?_
          refine Holds.dr mx [([71], [72, 73, 74, 75, 76, 77, 78, 79, 80, 81, 82, 83, 84, 85, 86]), ([72], [71, 76, 77, 78, 79, 81, 82, 83, 84]), ([73], [71, 76, 77, 78, 79, 81, 82, 83, 84]), ([74], [71, 76, 77, 78, 79, 81, 82, 83, 84]), ([75], [71, 76, 77, 78, 79, 81, 82, 83, 84]), ([76], [71, 72, 73, 74, 75, 81, 82, 83, 84]), ([77], [71, 72, 73, 74, 75, 81, 82, 83, 84]), ([78], [71, 72, 73, 74, 75, 81, 82, 83, 84]), ([79], [71, 72, 73, 74, 75, 81, 82, 83, 84]), ([80], [71, 81, 82, 83, 84]), ([81], [71, 72, 73, 74, 75, 76, 77, 78, 79, 80]), ([82], [71, 72, 73, 74, 75, 76, 77, 78, 79, 80]), ([83], [71, 72, 73, 74, 75, 76, 77, 78, 79, 80]), ([84], [71, 72, 73, 74, 75, 76, 77, 78, 79, 80]), ([85], [71]), ([86], [71]), ([87], []), ([12], [])] (by kernel_rfl) ?_
          refine CertK.vd (Y.move (up0 rfl rfl rfl) rfl rfl) rfl rfl ?_
          refine CertK.vd (Y.move (up0 rfl rfl rfl) rfl rfl) rfl rfl ?_
          refine CertK.vd (Y.quoI (b := 4) (up0 rfl rfl rfl) rfl rfl rfl (by omega) (by decide)) rfl rfl ?_
          refine CertK.vd (Y.ia0 ty60 ty24 (up0 rfl rfl rfl) rfl rfl rfl (by omega)) rfl rfl ?_
          refine CertK.vd (Y.ldI ty24 rfl (up0 rfl rfl rfl) rfl rfl rfl (by first | (with_reducible assumption) | omega | (simp only [*]; done) | (simp only [*]; omega) | (simp only [lens, *]; done) | (simp only [lens, *]; omega))) rfl rfl ?_
          refine CertK.vd (Y.move (up0 rfl rfl rfl) rfl rfl) rfl rfl ?_
          refine CertK.vd (Y.quoI (b := 4) (up0 rfl rfl rfl) rfl rfl rfl (by omega) (by decide)) rfl rfl ?_
          refine CertK.vd (Y.ia0 ty60 ty24 (up0 rfl rfl rfl) rfl rfl rfl (by omega)) rfl rfl ?_
          refine CertK.vd (Y.ldI ty24 rfl (up0 rfl rfl rfl) rfl rfl rfl (by first | (with_reducible assumption) | omega | (simp only [*]; done) | (simp only [*]; omega) | (simp only [lens, *]; done) | (simp only [lens, *]; omega))) rfl rfl ?_
          refine CertK.vd (Y.add u32s u32m (up0 rfl rfl rfl) rfl rfl rfl) rfl rfl ?_
          refine CertK.vd (Y.move (up0 rfl rfl rfl) rfl rfl) rfl rfl ?_
          refine CertK.vd (Y.rem (b := 4) (up0 rfl rfl rfl) rfl rfl rfl (by decide)) rfl rfl ?_
          refine CertK.vd (Y.mulI (a := 8) (up0 rfl rfl rfl) rfl rfl rfl (by omega)) rfl rfl ?_
          refine CertK.vd (Y.conv ty3.u ty67.u u64s u64m (up0 rfl rfl rfl) rfl rfl) rfl rfl ?_
          refine CertK.vd (Y.shr u32s u32m (up0 rfl rfl rfl) rfl rfl rfl) rfl rfl ?_
          refine CertK.vd (Y.conv ty24.u ty5.u u8s u8m (up0 rfl rfl rfl) rfl rfl) rfl rfl ?_
          refine CertK.v (Y.ia0 ty30 ty5 (up0 rfl rfl rfl) rfl rfl rfl (by omega)) rfl ?_
          refine CertK.n (Y.stI ty5 (upN rfl rfl) rfl rfl rfl rfl (by first | (with_reducible assumption) | omega | (simp only [*]; done) | (simp only [*]; omega) | (simp only [lens, *]; done) | (simp only [lens, *]; omega))) rfl rfl rfl rfl ?_
          refine CertK.nil ?_
          refine Holds.reg ?_
          refine OpsFrom.v (Y.move (up0 rfl rfl rfl) rfl rfl) rfl ?_
          refine OpsFrom.v (Y.addI (b := 1) (up0 rfl rfl rfl) rfl rfl rfl (by omega)) rfl ?_
          refine OpsFrom.v (Y.assign (up0 rfl rfl rfl) rfl rfl) rfl ?_
          refine OpsFrom.nil ?_
          exact Holds.again (i + 1) (by omega) (by omega) [] ⟨⟨rfl, rfl, rfl, rfl, rfl, trivial⟩, ⟨rfl, rfl, rfl, rfl, trivial⟩, rfl, rfl⟩
        · obtain rfl : i = 64 := by omega
          refine Holds.exit ?_
          refine Holds.seq ?_
          refine Holds.reg ?_
          refine OpsFrom.v (Y.ldAll ty30 rfl (up0 rfl rfl rfl) rfl rfl rfl (by first | (with_reducible assumption) | omega | (simp only [*]; done) | (simp only [*]; omega) | (simp only [lens, *]; done) | (simp only [lens, *]; omega)) (by decide)) rfl ?_
          refine OpsFrom.n (Y.stR ty30 (upN rfl rfl) rfl rfl rfl rfl rfl (by first | (with_reducible assumption) | omega | (simp only [*]; done) | (simp only [*]; omega) | (simp only [lens, *]; done) | (simp only [lens, *]; omega)) (by first | (with_reducible assumption) | omega | (simp only [*]; done) | (simp only [*]; omega) | (simp only [lens, *]; done) | (simp only [lens, *]; omega)) (by decide)) rfl rfl ?_
          refine OpsFrom.nil ?_
          refine Holds.ret ?_
          exact Holds.ret1 (.inl rfl) rfl (.rowN rfl rfl ty30 rfl (by first | (with_reducible assumption) | omega | (simp only [*]; done) | (simp only [*]; omega) | (simp only [lens, *]; done) | (simp only [lens, *]; omega)) (by decide)) (.same _) rfl

end Go.Proofs.Ytkpelchcpiafaaa
