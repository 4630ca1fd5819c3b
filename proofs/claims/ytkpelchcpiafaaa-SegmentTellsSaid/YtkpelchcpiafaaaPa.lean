/-
  The plain half: both ChaCha20 blocks are one function.
-/
import Derived.Test.YtkpelchcpiafaaaWd
namespace Go.Proofs.Ytkpelchcpiafaaa
open Go Go.Fx

theorem or_add {a b k : Nat} (h : a < 2 ^ k) : a ||| b * 2 ^ k = b * 2 ^ k + a := by
  rw [Nat.mul_comm b, Nat.two_pow_add_eq_or_of_lt h, Nat.or_comm]
/-- A word out of four bytes, or'ed. -/
def orWord (k : List Nat) (j : Nat) : Nat := (((0 ||| k.getD (4 * j) 0 * 2 ^ (8 * 0) % 4294967296) ||| k.getD (4 * j + 1) 0 * 2 ^ (8 * 1) % 4294967296) ||| k.getD (4 * j + 2) 0 * 2 ^ (8 * 2) % 4294967296) ||| k.getD (4 * j + 3) 0 * 2 ^ (8 * 3) % 4294967296
def addWord (k : List Nat) (j : Nat) : Nat := word ((k.drop (4 * j)).take (4 * j + 4 - 4 * j))
theorem orWord_eq {k : List Nat} (h : Lt 256 k) (j : Nat) : orWord k j = addWord k j := by
  have e : ∀ t, t < 4 → ((k.drop (4 * j)).take (4 * j + 4 - 4 * j)).getD t 0 = k.getD (4 * j + t) 0 := fun t ht => by
    rw [getD_take (by omega), getD_drop]
  unfold orWord addWord word
  rw [e 0 (by omega), e 1 (by omega), e 2 (by omega), e 3 (by omega), Nat.add_zero]
  have h0 := h (4 * j)
  have h1 := h (4 * j + 1)
  have h2 := h (4 * j + 2)
  have h3 := h (4 * j + 3)
  generalize k.getD (4 * j) 0 = a at *
  generalize k.getD (4 * j + 1) 0 = b at *
  generalize k.getD (4 * j + 2) 0 = c at *
  generalize k.getD (4 * j + 3) 0 = d at *
  have q0 : a * 2 ^ (8 * 0) % 4294967296 = a := (congrArg (· % 4294967296) (Nat.mul_one a)).trans (Nat.mod_eq_of_lt (by omega))
  have q1 : b * 2 ^ (8 * 1) % 4294967296 = b * 2 ^ 8 := Nat.mod_eq_of_lt (show b * 256 < _ by omega)
  have q2 : c * 2 ^ (8 * 2) % 4294967296 = c * 2 ^ 16 := Nat.mod_eq_of_lt (show c * 65536 < _ by omega)
  have q3 : d * 2 ^ (8 * 3) % 4294967296 = d * 2 ^ 24 := Nat.mod_eq_of_lt (show d * 16777216 < _ by omega)
  have r1 : a ||| b * 2 ^ 8 = b * 2 ^ 8 + a := or_add (by omega)
  have r2 : (b * 2 ^ 8 + a) ||| c * 2 ^ 16 = c * 2 ^ 16 + (b * 2 ^ 8 + a) := or_add (by omega)
  have r3 : (c * 2 ^ 16 + (b * 2 ^ 8 + a)) ||| d * 2 ^ 24 = d * 2 ^ 24 + (c * 2 ^ 16 + (b * 2 ^ 8 + a)) := or_add (by omega)
  rw [q0, q1, q2, q3, Nat.zero_or, r1, r2, r3]
  omega
def mWords (w : List Nat → Nat → Nat) (key : List Nat) (ctr : Nat) (nonce : List Nat) : List Nat :=
  [1634760805, 857760878, 2036477234, 1797285236, w key 0, w key 1, w key 2, w key 3, w key 4, w key 5, w key 6, w key 7, ctr, w nonce 0, w nonce 1, w nonce 2]
set_option maxRecDepth 10000 in
theorem m2_words (key : List Nat) (ctr : Nat) (nonce : List Nat) : m2 key ctr nonce = mWords orWord key ctr nonce := by kernel_rfl
set_option maxRecDepth 10000 in
theorem rm2_words (key : List Nat) (ctr : Nat) (nonce : List Nat) : rm2 key ctr nonce = mWords addWord key ctr nonce := by kernel_rfl
theorem m2_rm2 {key nonce : List Nat} (hk : Lt 256 key) (hn : Lt 256 nonce) (ctr : Nat) : m2 key ctr nonce = rm2 key ctr nonce := by
  rw [m2_words, rm2_words]
  unfold mWords
  simp only [orWord_eq hk, orWord_eq hn]
theorem addWord_lt (k : List Nat) (j : Nat) : addWord k j < 4294967296 := Nat.mod_lt _ (by decide)
theorem rm2_lt (key nonce : List Nat) {ctr : Nat} (hc : ctr < 4294967296) : Lt 4294967296 (rm2 key ctr nonce) := by
  rw [rm2_words]
  refine Lt.of_mem (by decide) fun x hx => ?_
  simp only [mWords, List.mem_cons, List.not_mem_nil, or_false] at hx
  have := addWord_lt key
  have := addWord_lt nonce
  rcases hx with rfl | rfl | rfl | rfl | rfl | rfl | rfl | rfl | rfl | rfl | rfl | rfl | rfl | rfl | rfl | rfl <;> first | exact hc | exact addWord_lt _ _ | decide

theorem rot_add {x a b : Nat} (hx : x < 2 ^ (a + b)) : (x * 2 ^ a % 2 ^ (a + b)) ||| (x / 2 ^ b) = x * 2 ^ a % 2 ^ (a + b) + x / 2 ^ b ∧ x * 2 ^ a % 2 ^ (a + b) + x / 2 ^ b < 2 ^ (a + b) := by
  have h1 : x * 2 ^ a % 2 ^ (a + b) = (x % 2 ^ b) * 2 ^ a := by
    rw [Nat.add_comm a b, Nat.pow_add, Nat.mul_mod_mul_right]
  have h2 : x / 2 ^ b < 2 ^ a := by
    rw [Nat.div_lt_iff_lt_mul (Nat.two_pow_pos _), ← Nat.pow_add]; exact hx
  have h3 : x % 2 ^ b < 2 ^ b := Nat.mod_lt _ (Nat.two_pow_pos _)
  rw [h1, Nat.or_comm, or_add h2]
  refine ⟨rfl, ?_⟩
  rw [Nat.add_comm a b, Nat.pow_add]
  have h4 : (x % 2 ^ b + 1) * 2 ^ a ≤ 2 ^ b * 2 ^ a := Nat.mul_le_mul_right _ h3
  rw [Nat.add_mul, Nat.one_mul] at h4
  omega
theorem rotl_turn {x k : Nat} (hx : x < 4294967296) (hk : k = 16 ∨ k = 12 ∨ k = 8 ∨ k = 7) : rotl x k = turn x k := by
  unfold rotl turn
  rcases hk with rfl | rfl | rfl | rfl
  · obtain ⟨h1, h2⟩ := rot_add (x := x) (a := 16) (b := 16) hx
    exact h1.trans (Nat.mod_eq_of_lt h2).symm
  · obtain ⟨h1, h2⟩ := rot_add (x := x) (a := 12) (b := 20) hx
    exact h1.trans (Nat.mod_eq_of_lt h2).symm
  · obtain ⟨h1, h2⟩ := rot_add (x := x) (a := 8) (b := 24) hx
    exact h1.trans (Nat.mod_eq_of_lt h2).symm
  · obtain ⟨h1, h2⟩ := rot_add (x := x) (a := 7) (b := 25) hx
    exact h1.trans (Nat.mod_eq_of_lt h2).symm
def qt (m : List Nat) (a b c s : Nat) : List Nat :=
  let m1 := m.set a ((m.getD a 0 + m.getD b 0) % 4294967296)
  m1.set c (turn (m1.getD c 0 ^^^ m1.getD a 0) s)
theorem turn_lt (x k : Nat) : turn x k < 4294967296 := Nat.mod_lt _ (by decide)
theorem qt_lt {m : List Nat} (h : Lt 4294967296 m) (a b c s : Nat) : Lt 4294967296 (qt m a b c s) := (h.set (Nat.mod_lt _ (by decide))).set (turn_lt _ _)
theorem qr1_qt {m : List Nat} (h : Lt 4294967296 m) (a b c : Nat) {s : Nat} (hs : s = 16 ∨ s = 12 ∨ s = 8 ∨ s = 7) : qr1 m a b c s = qt m a b c s := by
  unfold qr1 qt
  have h1 : Lt 4294967296 (m.set a ((m.getD a 0 + m.getD b 0) % 4294967296)) := h.set (Nat.mod_lt _ (by decide))
  simp only
  rw [rotl_turn (Nat.xor_lt_two_pow (n := 32) (h1 _) (h1 _)) hs]
def qq (m : List Nat) (a b c d : Nat) : List Nat := qr1 (qr1 (qr1 (qr1 m a b d 16) c d b 12) a b d 8) c d b 7
theorem quarter_qt (m : List Nat) (a b c d : Nat) : quarter m a b c d = qt (qt (qt (qt m a b d 16) c d b 12) a b d 8) c d b 7 := rfl
theorem qq_quarter {m : List Nat} (h : Lt 4294967296 m) (a b c d : Nat) : qq m a b c d = quarter m a b c d ∧ Lt 4294967296 (quarter m a b c d) := by
  rw [quarter_qt]
  unfold qq
  have h1 := qt_lt h a b d 16
  have h2 := qt_lt h1 c d b 12
  have h3 := qt_lt h2 a b d 8
  rw [qr1_qt h _ _ _ (by decide), qr1_qt h1 _ _ _ (by decide), qr1_qt h2 _ _ _ (by decide), qr1_qt h3 _ _ _ (by decide)]
  exact ⟨rfl, qt_lt h3 c d b 7⟩
theorem dround_qq (r : Nat) (m : List Nat) : dround r m = qq (qq (qq (qq (qq (qq (qq (qq m 0 4 8 12) 1 5 9 13) 2 6 10 14) 3 7 11 15) 0 5 10 15) 1 6 11 12) 2 7 8 13) 3 4 9 14 := by kernel_rfl
theorem dround_eq {m : List Nat} (h : Lt 4294967296 m) (r : Nat) : dround r m = rdround r m ∧ Lt 4294967296 (rdround r m) := by
  rw [dround_qq]
  unfold rdround
  obtain ⟨e1, h1⟩ := qq_quarter h 0 4 8 12
  obtain ⟨e2, h2⟩ := qq_quarter h1 1 5 9 13
  obtain ⟨e3, h3⟩ := qq_quarter h2 2 6 10 14
  obtain ⟨e4, h4⟩ := qq_quarter h3 3 7 11 15
  obtain ⟨e5, h5⟩ := qq_quarter h4 0 5 10 15
  obtain ⟨e6, h6⟩ := qq_quarter h5 1 6 11 12
  obtain ⟨e7, h7⟩ := qq_quarter h6 2 7 8 13
  obtain ⟨e8, h8⟩ := qq_quarter h7 3 4 9 14
  rw [e1, e2, e3, e4, e5, e6, e7, e8]
  exact ⟨rfl, h8⟩
theorem rounds_eq {m : List Nat} (h : Lt 4294967296 m) (n : Nat) : iter dround n m = iter rdround n m ∧ Lt 4294967296 (iter rdround n m) := by
  induction n with
  | zero => rw [iter0, iter0]; exact ⟨rfl, h⟩
  | succ n ih =>
    obtain ⟨e2, h2⟩ := dround_eq ih.2 n
    rw [iterS, iterS, ih.1]
    exact ⟨e2, h2⟩
theorem ostep_eq (x y : List Nat) (i : Nat) (o : List Nat) : ostep x y i o = rostep x y i o := by
  unfold ostep rostep
  rw [show 8 * (i % 4) % 18446744073709551616 = 8 * (i % 4) by omega]
theorem block_eq {key nonce : List Nat} (hk : Lt 256 key) (hn : Lt 256 nonce) {ctr : Nat} (hc : ctr < 4294967296) : block key ctr nonce = rblock key ctr nonce := by
  unfold block rblock
  rw [m2_rm2 hk hn, (rounds_eq (rm2_lt key nonce hc) 10).1]
  exact iter_ext _ fun i _ x _ => ostep_eq _ _ i x
theorem stream_eq {key nonce : List Nat} (hk : Lt 256 key) (hn : Lt 256 nonce) (ctr : Nat) (xs : List Nat) : stream block key ctr nonce xs = stream rblock key ctr nonce xs := by
  unfold stream
  refine List.map_congr_left fun i _ => ?_
  unfold sbyte blk
  rw [block_eq hk hn (Nat.mod_lt _ (by decide))]
theorem xor_xor (a b : Nat) : a ^^^ b ^^^ b = a := by rw [Nat.xor_assoc, Nat.xor_self, Nat.xor_zero]
/-- Once more gives back what went in. -/
theorem stream_twice (B : List Nat → Nat → List Nat → List Nat) (key : List Nat) (ctr : Nat) (nonce xs : List Nat) : stream B key ctr nonce (stream B key ctr nonce xs) = xs := by
  refine ext_getD (by simp [stream_len]) fun i hi => ?_
  have hi' : i < xs.length := by simpa [stream_len] using hi
  have e : (stream B key ctr nonce xs).length = xs.length := stream_len _ _ _ _ _
  rw [stream, e, getD_map_range hi', sbyte, stream, getD_map_range hi', sbyte, xor_xor]
/-- In two parts, parted at a block's end. -/
theorem stream_parts (B : List Nat → Nat → List Nat → List Nat) (key : List Nat) (ctr : Nat) (nonce xs : List Nat) (n : Nat) (hn : n % 64 = 0) (hl : n ≤ xs.length) :
    stream B key ctr nonce xs = stream B key ctr nonce (xs.take n) ++ stream B key ((ctr + n / 64) % 4294967296) nonce (xs.drop n) := by
  refine ext_getD (by simp [stream_len]; omega) fun i hi => ?_
  have hi' : i < xs.length := by simpa [stream_len] using hi
  have el : (stream B key ctr nonce (xs.take n)).length = n := by rw [stream_len, List.length_take]; omega
  by_cases h : i < n
  · rw [getD_append_l (by omega), stream, stream, getD_map_range hi', getD_map_range (by simp; omega), sbyte, sbyte, getD_take h]
  · rw [getD_append_r (by omega), el, stream, stream, getD_map_range hi', getD_map_range (by simp; omega), sbyte, sbyte, getD_drop, show n + (i - n) = i by omega]
    unfold blk
    rw [show (i - n) % 64 = i % 64 by omega, show ((ctr + n / 64) % 4294967296 + (i - n) / 64 % 4294967296) % 4294967296 = (ctr + i / 64 % 4294967296) % 4294967296 by omega]
end Go.Proofs.Ytkpelchcpiafaaa
