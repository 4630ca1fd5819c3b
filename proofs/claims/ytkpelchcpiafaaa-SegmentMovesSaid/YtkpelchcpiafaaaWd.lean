/-
  Walks: the key streams.
-/
import Derived.Test.YtkpelchcpiafaaaWc
namespace Go.Proofs.Ytkpelchcpiafaaa
open Go Go.Fx
set_option linter.unusedVariables false
/-- The key stream's block at the i-th byte. -/
def blk (B : List Nat → Nat → List Nat → List Nat) (key : List Nat) (ctr : Nat) (nonce : List Nat) (i : Nat) : List Nat := B key ((ctr + i / 64 % 4294967296) % 4294967296) nonce
/-- The block at hand ahead of the i-th byte. -/
def blkAt (B : List Nat → Nat → List Nat → List Nat) (key : List Nat) (ctr : Nat) (nonce : List Nat) (i : Nat) : List Nat := if i = 0 then List.replicate 64 0 else blk B key ctr nonce (i - 1)
def sbyte (B : List Nat → Nat → List Nat → List Nat) (key : List Nat) (ctr : Nat) (nonce xs : List Nat) (i : Nat) : Nat := xs.getD i 0 ^^^ (blk B key ctr nonce i).getD (i % 64) 0
def stream (B : List Nat → Nat → List Nat → List Nat) (key : List Nat) (ctr : Nat) (nonce xs : List Nat) : List Nat := (List.range xs.length).map (sbyte B key ctr nonce xs)
theorem stream_len (B : List Nat → Nat → List Nat → List Nat) (key : List Nat) (ctr : Nat) (nonce xs : List Nat) : (stream B key ctr nonce xs).length = xs.length := by simp [stream]
theorem blkAt_len {B : List Nat → Nat → List Nat → List Nat} (h : ∀ k c n, (B k c n).length = 64) (key : List Nat) (ctr : Nat) (nonce : List Nat) (i : Nat) : (blkAt B key ctr nonce i).length = 64 := by
  unfold blkAt blk
  split
  · simp
  · exact h _ _ _
theorem blk_now {B : List Nat → Nat → List Nat → List Nat} {key : List Nat} {ctr : Nat} {nonce b : List Nat} {i : Nat} (h : (i % 64 = 0 ∧ b = B key ((ctr + i / 64 % 4294967296) % 4294967296) nonce) ∨ (¬ i % 64 = 0 ∧ b = blkAt B key ctr nonce i)) : b = blk B key ctr nonce i := by
  rcases h with ⟨_, h⟩ | ⟨h0, h⟩
  · exact h
  · subst h
    unfold blkAt blk
    rw [if_neg (by omega), show (i - 1) / 64 = i / 64 by omega]
theorem blk_next {B : List Nat → Nat → List Nat → List Nat} {key : List Nat} {ctr : Nat} {nonce b : List Nat} {i : Nat} (h : (i % 64 = 0 ∧ b = B key ((ctr + i / 64 % 4294967296) % 4294967296) nonce) ∨ (¬ i % 64 = 0 ∧ b = blkAt B key ctr nonce i)) : b = blkAt B key ctr nonce (i + 1) := by
  rw [blk_now h]; simp [blkAt]
theorem out_set {B : List Nat → Nat → List Nat → List Nat} {key : List Nat} {ctr : Nat} {nonce b xs : List Nat} {i : Nat} (h : (i % 64 = 0 ∧ b = B key ((ctr + i / 64 % 4294967296) % 4294967296) nonce) ∨ (¬ i % 64 = 0 ∧ b = blkAt B key ctr nonce i)) (hi : i < xs.length) :
    ((List.range i).map (sbyte B key ctr nonce xs) ++ List.replicate (xs.length - i) 0).set i (xs.getD i 0 ^^^ b.getD (i % 64) 0) = (List.range (i + 1)).map (sbyte B key ctr nonce xs) ++ List.replicate (xs.length - (i + 1)) 0 := by
  rw [blk_now h]; exact set_fill _ _ _ _ hi
theorem out_app {B : List Nat → Nat → List Nat → List Nat} {key : List Nat} {ctr : Nat} {nonce b xs : List Nat} {i : Nat} (h : (i % 64 = 0 ∧ b = B key ((ctr + i / 64 % 4294967296) % 4294967296) nonce) ∨ (¬ i % 64 = 0 ∧ b = blkAt B key ctr nonce i)) :
    (List.range i).map (sbyte B key ctr nonce xs) ++ [xs.getD i 0 ^^^ b.getD (i % 64) 0] = (List.range (i + 1)).map (sbyte B key ctr nonce xs) := by
  rw [blk_now h]; exact map_range_succ _ _
theorem w27 (key nonce xs : List Nat) (ctr : Nat) (hk : key.length = 32) (hn : nonce.length = 12) (hx : xs.length < 4294967296) (hc : ctr + (xs.length + 63) / 64 ≤ 4294967296) : VF Try.prog 27 [.row (.ints .u8 key), .one (.n .u32 ctr), .row (.ints .u8 nonce), .one (.bs false .u8 xs)] (.two (.one (.sg 0 0 xs.length)) (.one (.n .i64 0))) .u8 (stream block key ctr nonce xs) := by
  refine VF.go Try.func27 rfl Try.ntmps27 rfl rfl fun O w => ?_
  refine Holds.seq ?_
  refine Holds.reg ?_
  refine OpsFrom.u (Y.boxR (d := 4) (up0 rfl rfl rfl) rfl rfl rfl) rfl rfl rfl ?_
  refine OpsFrom.u (Y.boxR (d := 6) (up0 rfl rfl rfl) rfl rfl rfl) rfl rfl rfl ?_
  refine OpsFrom.v (Y.assign (up0 rfl rfl rfl) rfl rfl) rfl ?_
  refine OpsFrom.v (Y.assign (v := (.one (.n .i64 0))) (up0 rfl rfl rfl) rfl rfl) rfl ?_
  refine OpsFrom.nil ?_
  refine Holds.seq ?_
  refine Holds.seq ?_
  refine Holds.reg ?_
  refine OpsFrom.v (Y.move (up0 rfl rfl rfl) rfl rfl) rfl ?_
  refine OpsFrom.v (Y.len ty26 (up0 rfl rfl rfl) rfl rfl rfl rfl) rfl ?_
  refine OpsFrom.v (Y.addI (b := 63) (up0 rfl rfl rfl) rfl rfl rfl (by omega)) rfl ?_
  refine OpsFrom.v (Y.conv ty3.u ty42.u u64s u64m (up0 rfl rfl rfl) rfl rfl) rfl ?_
  refine OpsFrom.v (Y.quo (b := 64) u64s u64m (up0 rfl rfl rfl) rfl rfl rfl (by decide)) rfl ?_
  refine OpsFrom.v (Y.assign (up0 rfl rfl rfl) rfl rfl) rfl ?_
  refine OpsFrom.nil ?_
  refine Holds.seq ?_
  refine Holds.reg ?_
  refine OpsFrom.v (Y.move (up0 rfl rfl rfl) rfl rfl) rfl ?_
  refine OpsFrom.v (Y.convUp ty24.u ty42.u rfl rfl (by decide) (up0 rfl rfl rfl) rfl rfl) rfl ?_
  refine OpsFrom.v (Y.move (up0 rfl rfl rfl) rfl rfl) rfl ?_
  refine OpsFrom.v (Y.add u64s u64m (up0 rfl rfl rfl) rfl rfl rfl) rfl ?_
  refine OpsFrom.v (Y.gtr (b := 4294967296) (up0 rfl rfl rfl) rfl rfl rfl) rfl ?_
  refine OpsFrom.nil ?_
  refine Holds.condDF rfl (decide_eq_false (by omega)) ?_
  refine Holds.skip ?_
  refine Holds.seq ?_
  refine Holds.reg ?_
  refine OpsFrom.v (Y.move (up0 rfl rfl rfl) rfl rfl) rfl ?_
  refine OpsFrom.v (Y.len ty26 (up0 rfl rfl rfl) rfl rfl rfl rfl) rfl ?_
  refine OpsFrom.u (Y.mkS (d := 27) ty26 ty5 (up0 rfl rfl rfl) rfl rfl rfl (by omega) (by omega)) rfl rfl rfl ?_
  refine OpsFrom.v (Y.assign (up0 rfl rfl rfl) rfl rfl) rfl ?_
  refine OpsFrom.nil ?_
  refine Holds.seq ?_
  refine Holds.reg ?_
  refine OpsFrom.u (Y.alloc (d := 12) ty30 rfl rfl (up0 rfl rfl rfl) rfl) rfl rfl rfl ?_
  refine OpsFrom.nil ?_
  refine Holds.seq ?_
  refine Holds.seq ?_
  refine Holds.reg ?_
  refine OpsFrom.v (Y.move (up0 rfl rfl rfl) rfl rfl) rfl ?_
  refine OpsFrom.v (Y.len ty26 (up0 rfl rfl rfl) rfl rfl rfl rfl) rfl ?_
  refine OpsFrom.v (Y.move (v := (.one (.n .i64 0))) (up0 rfl rfl rfl) rfl rfl) rfl ?_
  refine OpsFrom.nil ?_
  refine Holds.block ?_
  refine Holds.loop (fun (i : Nat) => ⟨[(30, .one (.n .i64 i)), (29, .one (.n .i64 xs.length)), (28, .one (.bs false .u8 xs)), (4, .one (.p 4 0)), (6, .one (.p 6 0)), (11, .one (.sg 27 0 xs.length)), (12, .one (.p 12 0)), (1, .one (.n .u32 ctr))], [(4, .own (.ints .u8 key)), (6, .own (.ints .u8 nonce)), (27, .own (.ints .u8 ((List.range i).map (sbyte block key ctr nonce xs) ++ List.replicate (xs.length - i) 0))), (12, .own (.ints .u8 (blkAt block key ctr nonce i)))]⟩) (fun (i : Nat) => i ≤ xs.length) (fun (i : Nat) => xs.length - i) 0 (by omega) [] ⟨⟨rfl, rfl, rfl, rfl, rfl, rfl, rfl, rfl, trivial⟩, ⟨rfl, rfl, rfl, rfl, trivial⟩, rfl, rfl⟩ ?_
  intro i hok
  have hb := block_len
  have hb2 := blkAt_len block_len key ctr nonce i
  refine Holds.seq ?_
  refine Holds.reg ?_
  refine OpsFrom.v (Y.lss (up0 rfl rfl rfl) rfl rfl rfl) rfl ?_
  refine OpsFrom.nil ?_
  refine Holds.seq ?_
  refine Holds.condD rfl (fun h31 => ?_) (fun h31 => ?_)
  · refine Holds.skip ?_
    refine Holds.seq ?_
    refine Holds.block ?_
    refine Holds.seq ?_
    refine Holds.reg ?_
    refine OpsFrom.v (Y.move (up0 rfl rfl rfl) rfl rfl) rfl ?_
    refine OpsFrom.v (Y.iaBs ty26 ty5 (up0 rfl rfl rfl) rfl rfl rfl (by omega)) rfl ?_
    refine OpsFrom.v (Y.ldPc ty5 rfl (up0 rfl rfl rfl) rfl rfl) rfl ?_
    refine OpsFrom.v (Y.assign (up0 rfl rfl rfl) rfl rfl) rfl ?_
    refine OpsFrom.v (Y.assign (up0 rfl rfl rfl) rfl rfl) rfl ?_
    refine OpsFrom.nil ?_
    refine Holds.seq ?_
    refine Holds.seq ?_
    refine Holds.reg ?_
    refine OpsFrom.v (Y.move (up0 rfl rfl rfl) rfl rfl) rfl ?_
    refine OpsFrom.v (Y.rem (b := 64) (up0 rfl rfl rfl) rfl rfl rfl (by decide)) rfl ?_
    refine OpsFrom.v (Y.eql (b := 0) (up0 rfl rfl rfl) rfl rfl rfl) rfl ?_
    refine OpsFrom.nil ?_
    refine Holds.condD rfl (fun h37 => ?_) (fun h37 => ?_)
    · refine Holds.reg ?_
      refine OpsFrom.v (Y.ldAll ty23 rfl (up0 rfl rfl rfl) rfl rfl rfl (by first | (with_reducible assumption) | omega | (simp only [*]; done) | (simp only [*]; omega) | (simp only [lens, *]; done) | (simp only [lens, *]; omega)) (by decide)) rfl ?_
      refine OpsFrom.v (Y.move (up0 rfl rfl rfl) rfl rfl) rfl ?_
      refine OpsFrom.v (Y.move (up0 rfl rfl rfl) rfl rfl) rfl ?_
      refine OpsFrom.v (Y.quoI (b := 64) (up0 rfl rfl rfl) rfl rfl rfl (by omega) (by decide)) rfl ?_
      refine OpsFrom.v (Y.conv ty3.u ty24.u u32s u32m (up0 rfl rfl rfl) rfl rfl) rfl ?_
      refine OpsFrom.v (Y.add u32s u32m (up0 rfl rfl rfl) rfl rfl rfl) rfl ?_
      refine OpsFrom.v (Y.ldAll ty25 rfl (up0 rfl rfl rfl) rfl rfl rfl (by first | (with_reducible assumption) | omega | (simp only [*]; done) | (simp only [*]; omega) | (simp only [lens, *]; done) | (simp only [lens, *]; omega)) (by decide)) rfl ?_
      refine OpsFrom.v (Y.callV (w29 _ _ _ (by first | (with_reducible assumption) | omega | (simp only [*]; done) | (simp only [*]; omega) | (simp only [lens, *]; done) | (simp only [lens, *]; omega)) (by first | (with_reducible assumption) | omega | (simp only [*]; done) | (simp only [*]; omega) | (simp only [lens, *]; done) | (simp only [lens, *]; omega))) fnok29 (up0 rfl rfl rfl) rfl rfl (.cons _ _ _ _ rfl (.cons _ _ _ _ rfl (.cons _ _ _ _ rfl .nil))) (.cons _ _ _ _ (.same _) (.cons _ _ _ _ (.same _) (.cons _ _ _ _ (.same _) .nil))) rfl rfl) rfl ?_
      refine OpsFrom.n (Y.stR ty30 (upN rfl rfl) rfl rfl rfl rfl rfl (by first | (with_reducible assumption) | omega | (simp only [*]; done) | (simp only [*]; omega) | (simp only [lens, *]; done) | (simp only [lens, *]; omega)) (by first | (with_reducible assumption) | omega | (simp only [*]; done) | (simp only [*]; omega) | (simp only [lens, *]; done) | (simp only [lens, *]; omega)) (by decide)) rfl rfl ?_
      refine OpsFrom.nil ?_
      refine Holds.reg ?_
      refine OpsFrom.v (Y.move (up0 rfl rfl rfl) rfl rfl) rfl ?_
      refine OpsFrom.v (Y.move (up0 rfl rfl rfl) rfl rfl) rfl ?_
      refine OpsFrom.v (Y.move (up0 rfl rfl rfl) rfl rfl) rfl ?_
      refine OpsFrom.v (Y.move (up0 rfl rfl rfl) rfl rfl) rfl ?_
      refine OpsFrom.v (Y.rem (b := 64) (up0 rfl rfl rfl) rfl rfl rfl (by decide)) rfl ?_
      refine OpsFrom.v (Y.ia0 ty30 ty5 (up0 rfl rfl rfl) rfl rfl rfl (by omega)) rfl ?_
      refine OpsFrom.v (Y.ldI ty5 rfl (up0 rfl rfl rfl) rfl rfl rfl (by first | (with_reducible assumption) | omega | (simp only [*]; done) | (simp only [*]; omega) | (simp only [lens, *]; done) | (simp only [lens, *]; omega))) rfl ?_
      refine OpsFrom.v (Y.xor u8s u8m (up0 rfl rfl rfl) rfl rfl rfl) rfl ?_
      refine OpsFrom.v (Y.iaSg0 ty26 ty5 (up0 rfl rfl rfl) rfl rfl rfl (by omega)) rfl ?_
      refine OpsFrom.n (Y.stI ty5 (upN rfl rfl) rfl rfl rfl rfl (by first | (with_reducible assumption) | omega | (simp only [*]; done) | (simp only [*]; omega) | (simp only [lens, *]; done) | (simp only [lens, *]; omega))) rfl rfl ?_
      refine OpsFrom.nil ?_
      refine Holds.reg ?_
      refine OpsFrom.v (Y.addI (b := 1) (up0 rfl rfl rfl) rfl rfl rfl (by omega)) rfl ?_
      refine OpsFrom.v (Y.move (up0 rfl rfl rfl) rfl rfl) rfl ?_
      refine OpsFrom.nil ?_
      exact Holds.again (i + 1) (by omega) (by omega) [] ⟨⟨rfl, rfl, rfl, rfl, rfl, rfl, rfl, rfl, trivial⟩, ⟨rfl, rfl, (hEq (out_set (by first | exact .inl ⟨h37, rfl⟩ | exact .inr ⟨h37, rfl⟩) (by omega))), (hEq (blk_next (by first | exact .inl ⟨h37, rfl⟩ | exact .inr ⟨h37, rfl⟩))), trivial⟩, rfl, rfl⟩
    · refine Holds.skip ?_
      refine Holds.reg ?_
      refine OpsFrom.v (Y.move (up0 rfl rfl rfl) rfl rfl) rfl ?_
      refine OpsFrom.v (Y.move (up0 rfl rfl rfl) rfl rfl) rfl ?_
      refine OpsFrom.v (Y.move (up0 rfl rfl rfl) rfl rfl) rfl ?_
      refine OpsFrom.v (Y.move (up0 rfl rfl rfl) rfl rfl) rfl ?_
      refine OpsFrom.v (Y.rem (b := 64) (up0 rfl rfl rfl) rfl rfl rfl (by decide)) rfl ?_
      refine OpsFrom.v (Y.ia0 ty30 ty5 (up0 rfl rfl rfl) rfl rfl rfl (by omega)) rfl ?_
      refine OpsFrom.v (Y.ldI ty5 rfl (up0 rfl rfl rfl) rfl rfl rfl (by first | (with_reducible assumption) | omega | (simp only [*]; done) | (simp only [*]; omega) | (simp only [lens, *]; done) | (simp only [lens, *]; omega))) rfl ?_
      refine OpsFrom.v (Y.xor u8s u8m (up0 rfl rfl rfl) rfl rfl rfl) rfl ?_
      refine OpsFrom.v (Y.iaSg0 ty26 ty5 (up0 rfl rfl rfl) rfl rfl rfl (by omega)) rfl ?_
      refine OpsFrom.n (Y.stI ty5 (upN rfl rfl) rfl rfl rfl rfl (by first | (with_reducible assumption) | omega | (simp only [*]; done) | (simp only [*]; omega) | (simp only [lens, *]; done) | (simp only [lens, *]; omega))) rfl rfl ?_
      refine OpsFrom.nil ?_
      refine Holds.reg ?_
      refine OpsFrom.v (Y.addI (b := 1) (up0 rfl rfl rfl) rfl rfl rfl (by omega)) rfl ?_
      refine OpsFrom.v (Y.move (up0 rfl rfl rfl) rfl rfl) rfl ?_
      refine OpsFrom.nil ?_
      exact Holds.again (i + 1) (by omega) (by omega) [] ⟨⟨rfl, rfl, rfl, rfl, rfl, rfl, rfl, rfl, trivial⟩, ⟨rfl, rfl, (hEq (out_set (by first | exact .inl ⟨h37, rfl⟩ | exact .inr ⟨h37, rfl⟩) (by omega))), (hEq (blk_next (by first | exact .inl ⟨h37, rfl⟩ | exact .inr ⟨h37, rfl⟩))), trivial⟩, rfl, rfl⟩
  · obtain rfl : i = xs.length := by omega
    rw [fill_all]
    refine Holds.exit ?_
    refine Holds.seq ?_
    refine Holds.reg ?_
    refine OpsFrom.v (Y.move (up0 rfl rfl rfl) rfl rfl) rfl ?_
    refine OpsFrom.v (Y.assign (up0 rfl rfl rfl) rfl rfl) rfl ?_
    refine OpsFrom.v (Y.assign (v := (.one (.n .i64 0))) (up0 rfl rfl rfl) rfl rfl) rfl ?_
    refine OpsFrom.nil ?_
    refine Holds.ret ?_
    exact Holds.retF (id := 27) (.inl rfl) rfl (.two _ _ _ _ (.tmp _ _ rfl) (.tmp _ _ rfl)) rfl rfl rfl
theorem w27e (key nonce xs : List Nat) (ctr : Nat) (hk : key.length = 32) (hn : nonce.length = 12) (hx : xs.length < 4294967296) (hc : 4294967296 < ctr + (xs.length + 63) / 64) (hc2 : ctr < 4294967296) : VC Try.prog 27 [.row (.ints .u8 key), .one (.n .u32 ctr), .row (.ints .u8 nonce), .one (.bs false .u8 xs)] (.two (.one .nil) (.one (.n .i64 90))) := by
  refine VC.go Try.func27 rfl Try.ntmps27 rfl rfl fun O w => ?_
  refine Holds.seq ?_
  refine Holds.reg ?_
  refine OpsFrom.u (Y.boxR (d := 4) (up0 rfl rfl rfl) rfl rfl rfl) rfl rfl rfl ?_
  refine OpsFrom.u (Y.boxR (d := 6) (up0 rfl rfl rfl) rfl rfl rfl) rfl rfl rfl ?_
  refine OpsFrom.v (Y.assign (up0 rfl rfl rfl) rfl rfl) rfl ?_
  refine OpsFrom.v (Y.assign (v := (.one (.n .i64 0))) (up0 rfl rfl rfl) rfl rfl) rfl ?_
  refine OpsFrom.nil ?_
  refine Holds.seq ?_
  refine Holds.seq ?_
  refine Holds.reg ?_
  refine OpsFrom.v (Y.move (up0 rfl rfl rfl) rfl rfl) rfl ?_
  refine OpsFrom.v (Y.len ty26 (up0 rfl rfl rfl) rfl rfl rfl rfl) rfl ?_
  refine OpsFrom.v (Y.addI (b := 63) (up0 rfl rfl rfl) rfl rfl rfl (by omega)) rfl ?_
  refine OpsFrom.v (Y.conv ty3.u ty42.u u64s u64m (up0 rfl rfl rfl) rfl rfl) rfl ?_
  refine OpsFrom.v (Y.quo (b := 64) u64s u64m (up0 rfl rfl rfl) rfl rfl rfl (by decide)) rfl ?_
  refine OpsFrom.v (Y.assign (up0 rfl rfl rfl) rfl rfl) rfl ?_
  refine OpsFrom.nil ?_
  refine Holds.seq ?_
  refine Holds.reg ?_
  refine OpsFrom.v (Y.move (up0 rfl rfl rfl) rfl rfl) rfl ?_
  refine OpsFrom.v (Y.convUp ty24.u ty42.u rfl rfl (by decide) (up0 rfl rfl rfl) rfl rfl) rfl ?_
  refine OpsFrom.v (Y.move (up0 rfl rfl rfl) rfl rfl) rfl ?_
  refine OpsFrom.v (Y.add u64s u64m (up0 rfl rfl rfl) rfl rfl rfl) rfl ?_
  refine OpsFrom.v (Y.gtr (b := 4294967296) (up0 rfl rfl rfl) rfl rfl rfl) rfl ?_
  refine OpsFrom.nil ?_
  refine Holds.condDT rfl (decide_eq_true (by omega)) ?_
  refine Holds.seq ?_
  refine Holds.reg ?_
  refine OpsFrom.v (Y.assign (up0 rfl rfl rfl) rfl rfl) rfl ?_
  refine OpsFrom.v (Y.assign (v := (.one (.n .i64 90))) (up0 rfl rfl rfl) rfl rfl) rfl ?_
  refine OpsFrom.nil ?_
  refine Holds.ret ?_
  exact Holds.ret2 (.inl rfl) rfl (.tmp _ _ rfl) (.tmp _ _ rfl) (.same _) rfl
theorem w28 (key nonce xs : List Nat) (ctr : Nat) (hk : key.length = 32) (hn : nonce.length = 12) (hx : xs.length < 4294967296) (hc : ctr + (xs.length + 63) / 64 ≤ 4294967296) : VF Try.prog 28 [.row (.ints .u8 key), .one (.n .u32 ctr), .row (.ints .u8 nonce), .one (.bs false .u8 xs)] (.two (.one (.sg 0 0 xs.length)) (.one (.n .i64 0))) .u8 (stream rblock key ctr nonce xs) := by
  refine VF.go Try.func28 rfl Try.ntmps28 rfl rfl fun O w => ?_
  refine Holds.seq ?_
  refine Holds.reg ?_
  refine OpsFrom.u (Y.boxR (d := 4) (up0 rfl rfl rfl) rfl rfl rfl) rfl rfl rfl ?_
  refine OpsFrom.u (Y.boxR (d := 6) (up0 rfl rfl rfl) rfl rfl rfl) rfl rfl rfl ?_
  refine OpsFrom.v (Y.assign (up0 rfl rfl rfl) rfl rfl) rfl ?_
  refine OpsFrom.v (Y.assign (v := (.one (.n .i64 0))) (up0 rfl rfl rfl) rfl rfl) rfl ?_
  refine OpsFrom.nil ?_
  refine Holds.seq ?_
  refine Holds.seq ?_
  refine Holds.reg ?_
  refine OpsFrom.v (Y.move (up0 rfl rfl rfl) rfl rfl) rfl ?_
  refine OpsFrom.v (Y.convUp ty24.u ty42.u rfl rfl (by decide) (up0 rfl rfl rfl) rfl rfl) rfl ?_
  refine OpsFrom.v (Y.move (up0 rfl rfl rfl) rfl rfl) rfl ?_
  refine OpsFrom.v (Y.len ty26 (up0 rfl rfl rfl) rfl rfl rfl rfl) rfl ?_
  refine OpsFrom.v (Y.addI (b := 63) (up0 rfl rfl rfl) rfl rfl rfl (by omega)) rfl ?_
  refine OpsFrom.v (Y.quoI (b := 64) (up0 rfl rfl rfl) rfl rfl rfl (by omega) (by decide)) rfl ?_
  refine OpsFrom.v (Y.conv ty3.u ty42.u u64s u64m (up0 rfl rfl rfl) rfl rfl) rfl ?_
  refine OpsFrom.v (Y.add u64s u64m (up0 rfl rfl rfl) rfl rfl rfl) rfl ?_
  refine OpsFrom.v (Y.gtr (b := 4294967296) (up0 rfl rfl rfl) rfl rfl rfl) rfl ?_
  refine OpsFrom.nil ?_
  refine Holds.condDF rfl (decide_eq_false (by omega)) ?_
  refine Holds.skip ?_
  refine Holds.seq ?_
  refine Holds.reg ?_
  refine OpsFrom.v (Y.assign (up0 rfl rfl rfl) rfl rfl) rfl ?_
  refine OpsFrom.nil ?_
  refine Holds.seq ?_
  refine Holds.reg ?_
  refine OpsFrom.v (Y.buildA ty30 ty5 rfl (up0 rfl rfl rfl) rfl (.nil _)) rfl ?_
  refine OpsFrom.u (Y.alloc (d := 11) ty30 rfl rfl (up0 rfl rfl rfl) rfl) rfl rfl rfl ?_
  refine OpsFrom.n (Y.stR ty30 (upN rfl rfl) rfl rfl rfl rfl rfl (by first | (with_reducible assumption) | omega | (simp only [*]; done) | (simp only [*]; omega) | (simp only [lens, *]; done) | (simp only [lens, *]; omega)) (by first | (with_reducible assumption) | omega | (simp only [*]; done) | (simp only [*]; omega) | (simp only [lens, *]; done) | (simp only [lens, *]; omega)) (by decide)) rfl rfl ?_
  refine OpsFrom.nil ?_
  refine Holds.seq ?_
  refine Holds.seq ?_
  refine Holds.reg ?_
  refine OpsFrom.v (Y.assign (v := (.one (.n .i64 0))) (up0 rfl rfl rfl) rfl rfl) rfl ?_
  refine OpsFrom.nil ?_
  refine Holds.block ?_
  refine Holds.grow 10 10 (.ints .u8 []) rfl rfl rfl ?_
  refine Holds.loop (fun (i : Nat) => ⟨[(12, .one (.n .i64 i)), (3, .one (.bs false .u8 xs)), (4, .one (.p 4 0)), (6, .one (.p 6 0)), (10, .one (.sg 10 0 ((List.range i).map (sbyte rblock key ctr nonce xs)).length)), (11, .one (.p 11 0)), (1, .one (.n .u32 ctr))], [(4, .own (.ints .u8 key)), (6, .own (.ints .u8 nonce)), (10, .own (.ints .u8 ((List.range i).map (sbyte rblock key ctr nonce xs)))), (11, .own (.ints .u8 (blkAt rblock key ctr nonce i)))]⟩) (fun (i : Nat) => i ≤ xs.length) (fun (i : Nat) => xs.length - i) 0 (by omega) [] ⟨⟨rfl, rfl, rfl, rfl, rfl, rfl, rfl, trivial⟩, ⟨rfl, rfl, rfl, rfl, trivial⟩, rfl, rfl⟩ ?_
  intro i hok
  have hb := rblock_len
  have hb2 := blkAt_len rblock_len key ctr nonce i
  refine Holds.seq ?_
  refine Holds.seq ?_
  refine Holds.reg ?_
  refine OpsFrom.v (Y.move (up0 rfl rfl rfl) rfl rfl) rfl ?_
  refine OpsFrom.v (Y.move (up0 rfl rfl rfl) rfl rfl) rfl ?_
  refine OpsFrom.v (Y.len ty26 (up0 rfl rfl rfl) rfl rfl rfl rfl) rfl ?_
  refine OpsFrom.v (Y.lss (up0 rfl rfl rfl) rfl rfl rfl) rfl ?_
  refine OpsFrom.nil ?_
  refine Holds.condD rfl (fun h26 => ?_) (fun h26 => ?_)
  · refine Holds.skip ?_
    refine Holds.seq ?_
    refine Holds.block ?_
    refine Holds.seq ?_
    refine Holds.seq ?_
    refine Holds.reg ?_
    refine OpsFrom.v (Y.move (up0 rfl rfl rfl) rfl rfl) rfl ?_
    refine OpsFrom.v (Y.rem (b := 64) (up0 rfl rfl rfl) rfl rfl rfl (by decide)) rfl ?_
    refine OpsFrom.v (Y.eql (b := 0) (up0 rfl rfl rfl) rfl rfl rfl) rfl ?_
    refine OpsFrom.nil ?_
    refine Holds.condD rfl (fun h31 => ?_) (fun h31 => ?_)
    · refine Holds.reg ?_
      refine OpsFrom.v (Y.ldAll ty23 rfl (up0 rfl rfl rfl) rfl rfl rfl (by first | (with_reducible assumption) | omega | (simp only [*]; done) | (simp only [*]; omega) | (simp only [lens, *]; done) | (simp only [lens, *]; omega)) (by decide)) rfl ?_
      refine OpsFrom.v (Y.move (up0 rfl rfl rfl) rfl rfl) rfl ?_
      refine OpsFrom.v (Y.move (up0 rfl rfl rfl) rfl rfl) rfl ?_
      refine OpsFrom.v (Y.quoI (b := 64) (up0 rfl rfl rfl) rfl rfl rfl (by omega) (by decide)) rfl ?_
      refine OpsFrom.v (Y.conv ty3.u ty24.u u32s u32m (up0 rfl rfl rfl) rfl rfl) rfl ?_
      refine OpsFrom.v (Y.add u32s u32m (up0 rfl rfl rfl) rfl rfl rfl) rfl ?_
      refine OpsFrom.v (Y.ldAll ty25 rfl (up0 rfl rfl rfl) rfl rfl rfl (by first | (with_reducible assumption) | omega | (simp only [*]; done) | (simp only [*]; omega) | (simp only [lens, *]; done) | (simp only [lens, *]; omega)) (by decide)) rfl ?_
      refine OpsFrom.v (Y.callV (w30 _ _ _ (by first | (with_reducible assumption) | omega | (simp only [*]; done) | (simp only [*]; omega) | (simp only [lens, *]; done) | (simp only [lens, *]; omega)) (by first | (with_reducible assumption) | omega | (simp only [*]; done) | (simp only [*]; omega) | (simp only [lens, *]; done) | (simp only [lens, *]; omega))) fnok30 (up0 rfl rfl rfl) rfl rfl (.cons _ _ _ _ rfl (.cons _ _ _ _ rfl (.cons _ _ _ _ rfl .nil))) (.cons _ _ _ _ (.same _) (.cons _ _ _ _ (.same _) (.cons _ _ _ _ (.same _) .nil))) rfl rfl) rfl ?_
      refine OpsFrom.n (Y.stR ty30 (upN rfl rfl) rfl rfl rfl rfl rfl (by first | (with_reducible assumption) | omega | (simp only [*]; done) | (simp only [*]; omega) | (simp only [lens, *]; done) | (simp only [lens, *]; omega)) (by first | (with_reducible assumption) | omega | (simp only [*]; done) | (simp only [*]; omega) | (simp only [lens, *]; done) | (simp only [lens, *]; omega)) (by decide)) rfl rfl ?_
      refine OpsFrom.nil ?_
      refine Holds.dr mx [([40], [41, 42, 43, 44, 45, 46, 47, 48, 49, 50]), ([41], [40, 42, 45, 46, 47, 48]), ([42], [40, 41, 45, 46, 47, 48]), ([43], [40, 45, 46, 47, 48]), ([44], [40, 45, 46, 47, 48]), ([45], [40, 41, 42, 43, 44]), ([46], [40, 41, 42, 43, 44]), ([47], [40, 41, 42, 43, 44]), ([48], [40, 41, 42, 43, 44]), ([49], [40]), ([50], [40]), ([51, 10], []), ([10], [])] (by kernel_rfl) ?_
      refine CertK.vd (Y.move (up0 rfl rfl rfl) rfl rfl) rfl rfl ?_
      refine CertK.vd (Y.move (up0 rfl rfl rfl) rfl rfl) rfl rfl ?_
      refine CertK.vd (Y.move (up0 rfl rfl rfl) rfl rfl) rfl rfl ?_
      refine CertK.vd (Y.iaBs ty26 ty5 (up0 rfl rfl rfl) rfl rfl rfl (by omega)) rfl rfl ?_
      refine CertK.vd (Y.ldPc ty5 rfl (up0 rfl rfl rfl) rfl rfl) rfl rfl ?_
      refine CertK.vd (Y.move (up0 rfl rfl rfl) rfl rfl) rfl rfl ?_
      refine CertK.vd (Y.rem (b := 64) (up0 rfl rfl rfl) rfl rfl rfl (by decide)) rfl rfl ?_
      refine CertK.vd (Y.ia0 ty30 ty5 (up0 rfl rfl rfl) rfl rfl rfl (by omega)) rfl rfl ?_
      refine CertK.vd (Y.ldI ty5 rfl (up0 rfl rfl rfl) rfl rfl rfl (by first | (with_reducible assumption) | omega | (simp only [*]; done) | (simp only [*]; omega) | (simp only [lens, *]; done) | (simp only [lens, *]; omega))) rfl rfl ?_
      refine CertK.vd (Y.xor u8s u8m (up0 rfl rfl rfl) rfl rfl rfl) rfl rfl ?_
      refine CertK.u (Y.bldS (d := 50) ty26 ty5 rfl (up0 rfl rfl rfl) rfl (.ints .u8 (List.replicate 1 0)) rfl rfl rfl rfl (by decide) (by decide) (.cons _ _ _ _ _ _ _ _ _ rfl rfl rfl rfl (Spl.n (by decide)) (.nil _))) rfl rfl rfl rfl rfl ?_
      refine CertK.u (Y.app (d := 51) ty26 ty5 rfl ty26 (by decide) (up0 rfl rfl rfl) rfl rfl rfl (.all rfl (by first | (with_reducible assumption) | omega | (simp only [*]; done) | (simp only [*]; omega) | (simp only [lens, *]; done) | (simp only [lens, *]; omega))) rfl (.all rfl (by first | (with_reducible assumption) | omega | (simp only [*]; done) | (simp only [*]; omega) | (simp only [lens, *]; done) | (simp only [lens, *]; omega))) App.i (by first | (with_reducible assumption) | omega | (simp only [*]; done) | (simp only [*]; omega) | (simp only [lens, *]; done) | (simp only [lens, *]; omega)) rfl (by simp)) rfl rfl rfl rfl rfl ?_
      refine CertK.v (Y.assign (up0 rfl rfl rfl) rfl rfl) rfl ?_
      refine CertK.nil ?_
      refine Holds.reg ?_
      refine OpsFrom.v (Y.move (up0 rfl rfl rfl) rfl rfl) rfl ?_
      refine OpsFrom.v (Y.addI (b := 1) (up0 rfl rfl rfl) rfl rfl rfl (by omega)) rfl ?_
      refine OpsFrom.v (Y.assign (up0 rfl rfl rfl) rfl rfl) rfl ?_
      refine OpsFrom.nil ?_
      exact Holds.again (i + 1) (by omega) (by omega) [(10, 51)] ⟨⟨rfl, rfl, rfl, rfl, (sgEq (congrArg List.length (out_app (by first | exact .inl ⟨h31, rfl⟩ | exact .inr ⟨h31, rfl⟩))) rfl), rfl, rfl, trivial⟩, ⟨rfl, rfl, (hEq (out_app (by first | exact .inl ⟨h31, rfl⟩ | exact .inr ⟨h31, rfl⟩))), (hEq (blk_next (by first | exact .inl ⟨h31, rfl⟩ | exact .inr ⟨h31, rfl⟩))), trivial⟩, rfl, rfl⟩
    · refine Holds.skip ?_
      refine Holds.dr mx [([40], [41, 42, 43, 44, 45, 46, 47, 48, 49, 50]), ([41], [40, 42, 45, 46, 47, 48]), ([42], [40, 41, 45, 46, 47, 48]), ([43], [40, 45, 46, 47, 48]), ([44], [40, 45, 46, 47, 48]), ([45], [40, 41, 42, 43, 44]), ([46], [40, 41, 42, 43, 44]), ([47], [40, 41, 42, 43, 44]), ([48], [40, 41, 42, 43, 44]), ([49], [40]), ([50], [40]), ([51, 10], []), ([10], [])] (by kernel_rfl) ?_
      refine CertK.vd (Y.move (up0 rfl rfl rfl) rfl rfl) rfl rfl ?_
      refine CertK.vd (Y.move (up0 rfl rfl rfl) rfl rfl) rfl rfl ?_
      refine CertK.vd (Y.move (up0 rfl rfl rfl) rfl rfl) rfl rfl ?_
      refine CertK.vd (Y.iaBs ty26 ty5 (up0 rfl rfl rfl) rfl rfl rfl (by omega)) rfl rfl ?_
      refine CertK.vd (Y.ldPc ty5 rfl (up0 rfl rfl rfl) rfl rfl) rfl rfl ?_
      refine CertK.vd (Y.move (up0 rfl rfl rfl) rfl rfl) rfl rfl ?_
      refine CertK.vd (Y.rem (b := 64) (up0 rfl rfl rfl) rfl rfl rfl (by decide)) rfl rfl ?_
      refine CertK.vd (Y.ia0 ty30 ty5 (up0 rfl rfl rfl) rfl rfl rfl (by omega)) rfl rfl ?_
      refine CertK.vd (Y.ldI ty5 rfl (up0 rfl rfl rfl) rfl rfl rfl (by first | (with_reducible assumption) | omega | (simp only [*]; done) | (simp only [*]; omega) | (simp only [lens, *]; done) | (simp only [lens, *]; omega))) rfl rfl ?_
      refine CertK.vd (Y.xor u8s u8m (up0 rfl rfl rfl) rfl rfl rfl) rfl rfl ?_
      refine CertK.u (Y.bldS (d := 50) ty26 ty5 rfl (up0 rfl rfl rfl) rfl (.ints .u8 (List.replicate 1 0)) rfl rfl rfl rfl (by decide) (by decide) (.cons _ _ _ _ _ _ _ _ _ rfl rfl rfl rfl (Spl.n (by decide)) (.nil _))) rfl rfl rfl rfl rfl ?_
      refine CertK.u (Y.app (d := 51) ty26 ty5 rfl ty26 (by decide) (up0 rfl rfl rfl) rfl rfl rfl (.all rfl (by first | (with_reducible assumption) | omega | (simp only [*]; done) | (simp only [*]; omega) | (simp only [lens, *]; done) | (simp only [lens, *]; omega))) rfl (.all rfl (by first | (with_reducible assumption) | omega | (simp only [*]; done) | (simp only [*]; omega) | (simp only [lens, *]; done) | (simp only [lens, *]; omega))) App.i (by first | (with_reducible assumption) | omega | (simp only [*]; done) | (simp only [*]; omega) | (simp only [lens, *]; done) | (simp only [lens, *]; omega)) rfl (by simp)) rfl rfl rfl rfl rfl ?_
      refine CertK.v (Y.assign (up0 rfl rfl rfl) rfl rfl) rfl ?_
      refine CertK.nil ?_
      refine Holds.reg ?_
      refine OpsFrom.v (Y.move (up0 rfl rfl rfl) rfl rfl) rfl ?_
      refine OpsFrom.v (Y.addI (b := 1) (up0 rfl rfl rfl) rfl rfl rfl (by omega)) rfl ?_
      refine OpsFrom.v (Y.assign (up0 rfl rfl rfl) rfl rfl) rfl ?_
      refine OpsFrom.nil ?_
      exact Holds.again (i + 1) (by omega) (by omega) [(10, 51)] ⟨⟨rfl, rfl, rfl, rfl, (sgEq (congrArg List.length (out_app (by first | exact .inl ⟨h31, rfl⟩ | exact .inr ⟨h31, rfl⟩))) rfl), rfl, rfl, trivial⟩, ⟨rfl, rfl, (hEq (out_app (by first | exact .inl ⟨h31, rfl⟩ | exact .inr ⟨h31, rfl⟩))), (hEq (blk_next (by first | exact .inl ⟨h31, rfl⟩ | exact .inr ⟨h31, rfl⟩))), trivial⟩, rfl, rfl⟩
  · obtain rfl : i = xs.length := by omega
    refine Holds.exit ?_
    refine Holds.seq ?_
    refine Holds.reg ?_
    refine OpsFrom.v (Y.move (up0 rfl rfl rfl) rfl rfl) rfl ?_
    refine OpsFrom.v (Y.assign (up0 rfl rfl rfl) rfl rfl) rfl ?_
    refine OpsFrom.v (Y.assign (v := (.one (.n .i64 0))) (up0 rfl rfl rfl) rfl rfl) rfl ?_
    refine OpsFrom.nil ?_
    refine Holds.ret ?_
    exact Holds.retF (id := 10) (.inl rfl) rfl (.two _ _ _ _ (.tmp _ _ rfl) (.tmp _ _ rfl)) (by rw [List.length_map, List.length_range]; rfl) rfl rfl
theorem w28e (key nonce xs : List Nat) (ctr : Nat) (hk : key.length = 32) (hn : nonce.length = 12) (hx : xs.length < 4294967296) (hc : 4294967296 < ctr + (xs.length + 63) / 64) (hc2 : ctr < 4294967296) : VC Try.prog 28 [.row (.ints .u8 key), .one (.n .u32 ctr), .row (.ints .u8 nonce), .one (.bs false .u8 xs)] (.two (.one .nil) (.one (.n .i64 90))) := by
  refine VC.go Try.func28 rfl Try.ntmps28 rfl rfl fun O w => ?_
  refine Holds.seq ?_
  refine Holds.reg ?_
  refine OpsFrom.u (Y.boxR (d := 4) (up0 rfl rfl rfl) rfl rfl rfl) rfl rfl rfl ?_
  refine OpsFrom.u (Y.boxR (d := 6) (up0 rfl rfl rfl) rfl rfl rfl) rfl rfl rfl ?_
  refine OpsFrom.v (Y.assign (up0 rfl rfl rfl) rfl rfl) rfl ?_
  refine OpsFrom.v (Y.assign (v := (.one (.n .i64 0))) (up0 rfl rfl rfl) rfl rfl) rfl ?_
  refine OpsFrom.nil ?_
  refine Holds.seq ?_
  refine Holds.seq ?_
  refine Holds.reg ?_
  refine OpsFrom.v (Y.move (up0 rfl rfl rfl) rfl rfl) rfl ?_
  refine OpsFrom.v (Y.convUp ty24.u ty42.u rfl rfl (by decide) (up0 rfl rfl rfl) rfl rfl) rfl ?_
  refine OpsFrom.v (Y.move (up0 rfl rfl rfl) rfl rfl) rfl ?_
  refine OpsFrom.v (Y.len ty26 (up0 rfl rfl rfl) rfl rfl rfl rfl) rfl ?_
  refine OpsFrom.v (Y.addI (b := 63) (up0 rfl rfl rfl) rfl rfl rfl (by omega)) rfl ?_
  refine OpsFrom.v (Y.quoI (b := 64) (up0 rfl rfl rfl) rfl rfl rfl (by omega) (by decide)) rfl ?_
  refine OpsFrom.v (Y.conv ty3.u ty42.u u64s u64m (up0 rfl rfl rfl) rfl rfl) rfl ?_
  refine OpsFrom.v (Y.add u64s u64m (up0 rfl rfl rfl) rfl rfl rfl) rfl ?_
  refine OpsFrom.v (Y.gtr (b := 4294967296) (up0 rfl rfl rfl) rfl rfl rfl) rfl ?_
  refine OpsFrom.nil ?_
  refine Holds.condDT rfl (decide_eq_true (by omega)) ?_
  refine Holds.seq ?_
  refine Holds.reg ?_
  refine OpsFrom.v (Y.assign (up0 rfl rfl rfl) rfl rfl) rfl ?_
  refine OpsFrom.v (Y.assign (v := (.one (.n .i64 90))) (up0 rfl rfl rfl) rfl rfl) rfl ?_
  refine OpsFrom.nil ?_
  refine Holds.ret ?_
  exact Holds.ret2 (.inl rfl) rfl (.tmp _ _ rfl) (.tmp _ _ rfl) (.same _) rfl

end Go.Proofs.Ytkpelchcpiafaaa
