/-
  Plain: bytes of a number, loading, sums, differences, choices.
-/
import Derived.Test.YtnfiiclmbiiokaaPb
namespace Go.Proofs.Ytnfiiclmbiiokaa
open Go Go.Fx
set_option linter.unusedVariables false
set_option linter.unusedSimpArgs false
theorem fb_words {v : Nat} (hv : v < 57896044618658097711785492504343953926634992332820282019728792003956564819949) {l : List Nat} (hl : l = digs 2251799813685248 5 v) :
    ((((List.replicate 4 0).set 0 ((l.getD 0 0) ||| ((l.getD 1 0) * 2 ^ 51 % 18446744073709551616))).set 1 (((l.getD 1 0) / 2 ^ 13) ||| ((l.getD 2 0) * 2 ^ 38 % 18446744073709551616))).set 2 (((l.getD 2 0) / 2 ^ 26) ||| ((l.getD 3 0) * 2 ^ 25 % 18446744073709551616))).set 3 (((l.getD 3 0) / 2 ^ 39) ||| ((l.getD 4 0) * 2 ^ 12 % 18446744073709551616)) = digs 18446744073709551616 4 v := by
  have e0 : l.getD 0 0 = v % 2251799813685248 := by rw [hl, digs_getD (by decide)]; simp
  have e1 : l.getD 1 0 = v / 2251799813685248 % 2251799813685248 := by rw [hl, digs_getD (by decide)]
  have e2 : l.getD 2 0 = v / 5070602400912917605986812821504 % 2251799813685248 := by rw [hl, digs_getD (by decide)]
  have e3 : l.getD 3 0 = v / 11417981541647679048466287755595961091061972992 % 2251799813685248 := by rw [hl, digs_getD (by decide)]
  have e4 : l.getD 4 0 = v / 25711008708143844408671393477458601640355247900524685364822016 % 2251799813685248 := by rw [hl, digs_getD (by decide)]
  rw [e0, e1, e2, e3, e4]
  have w0 : v % 2251799813685248 ||| (v / 2251799813685248 % 2251799813685248) * 2 ^ 51 % 18446744073709551616 = v % 18446744073709551616 := by
    rw [show (v / 2251799813685248 % 2251799813685248) * 2 ^ 51 % 18446744073709551616 = (v / 2251799813685248 % 8192) * 2 ^ 51 by simp only [show (2 : Nat) ^ 51 = 2251799813685248 from rfl]; omega, or_add (show v % 2251799813685248 < 2 ^ 51 from Nat.mod_lt _ (by decide))]
    simp only [show (2 : Nat) ^ 51 = 2251799813685248 from rfl]
    omega
  have w1 : (v / 2251799813685248 % 2251799813685248) / 2 ^ 13 ||| (v / 5070602400912917605986812821504 % 2251799813685248) * 2 ^ 38 % 18446744073709551616 = v / 18446744073709551616 % 18446744073709551616 := by
    rw [show (v / 5070602400912917605986812821504 % 2251799813685248) * 2 ^ 38 % 18446744073709551616 = (v / 5070602400912917605986812821504 % 67108864) * 2 ^ 38 by simp only [show (2 : Nat) ^ 38 = 274877906944 from rfl]; omega, or_add (by simp only [show (2 : Nat) ^ 38 = 274877906944 from rfl, show (2 : Nat) ^ 13 = 8192 from rfl]; omega)]
    simp only [show (2 : Nat) ^ 38 = 274877906944 from rfl, show (2 : Nat) ^ 13 = 8192 from rfl]
    omega
  have w2 : (v / 5070602400912917605986812821504 % 2251799813685248) / 2 ^ 26 ||| (v / 11417981541647679048466287755595961091061972992 % 2251799813685248) * 2 ^ 25 % 18446744073709551616 = v / 340282366920938463463374607431768211456 % 18446744073709551616 := by
    rw [show (v / 11417981541647679048466287755595961091061972992 % 2251799813685248) * 2 ^ 25 % 18446744073709551616 = (v / 11417981541647679048466287755595961091061972992 % 549755813888) * 2 ^ 25 by simp only [show (2 : Nat) ^ 25 = 33554432 from rfl]; omega, or_add (by simp only [show (2 : Nat) ^ 25 = 33554432 from rfl, show (2 : Nat) ^ 26 = 67108864 from rfl]; omega)]
    simp only [show (2 : Nat) ^ 25 = 33554432 from rfl, show (2 : Nat) ^ 26 = 67108864 from rfl]
    omega
  have w3 : (v / 11417981541647679048466287755595961091061972992 % 2251799813685248) / 2 ^ 39 ||| (v / 25711008708143844408671393477458601640355247900524685364822016 % 2251799813685248) * 2 ^ 12 % 18446744073709551616 = v / 6277101735386680763835789423207666416102355444464034512896 % 18446744073709551616 := by
    rw [show (v / 25711008708143844408671393477458601640355247900524685364822016 % 2251799813685248) * 2 ^ 12 % 18446744073709551616 = (v / 25711008708143844408671393477458601640355247900524685364822016 % 2251799813685248) * 2 ^ 12 by simp only [show (2 : Nat) ^ 12 = 4096 from rfl]; omega, or_add (by simp only [show (2 : Nat) ^ 12 = 4096 from rfl, show (2 : Nat) ^ 39 = 549755813888 from rfl]; omega)]
    simp only [show (2 : Nat) ^ 12 = 4096 from rfl, show (2 : Nat) ^ 39 = 549755813888 from rfl]
    omega
  rw [w0, w1, w2, w3]
  unfold digs
  simp only [List.range, List.range.loop, List.map_cons, List.map_nil, show 18446744073709551616 ^ 0 = 1 from rfl, show 18446744073709551616 ^ 1 = 18446744073709551616 from rfl, show 18446744073709551616 ^ 2 = 340282366920938463463374607431768211456 from rfl, show 18446744073709551616 ^ 3 = 6277101735386680763835789423207666416102355444464034512896 from rfl, Nat.div_one]
  rfl
theorem fbytes_val {x : List Nat} (h : Fe x) : fbytes x = digs 256 32 (kv x).val := by
  have hv := (kv x).isLt
  have hl := least_val h
  generalize (kv x).val = v at *
  have hs : fbytes_s1 x = fun i m => m.set i ((digs 18446744073709551616 4 v).getD (i / 8) 0 / 2 ^ (8 * (i % 8)) % 256) := by
    funext i m
    unfold fbytes_s1
    dsimp only
    rw [fb_words hv hl]
  unfold fbytes fbytes_it1
  rw [hs, iter_fill (fun i => (digs 18446744073709551616 4 v).getD (i / 8) 0 / 2 ^ (8 * (i % 8)) % 256) 32]
  unfold digs
  refine List.map_congr_left fun i _ => ?_
  have g3 := val_group (B := 256) (k := 8) (by decide) (by decide) (digs 18446744073709551616 4 v) i (digs_lt (by decide) 4 v)
  rw [show (256 : Nat) ^ 8 = 18446744073709551616 from rfl, val_digs (by decide)] at g3
  rw [pow256]
  refine Eq.trans ?_ (g3.symm.trans ?_)
  · rfl
  · rw [Nat.mod_eq_of_lt (show v < 18446744073709551616 ^ 4 from Nat.lt_of_lt_of_le hv (by decide))]
theorem wrd_val {b : List Nat} (hb : Lt 256 b) (h8 : b.length = 8) : wrd b = val 256 b := by
  have : ∀ i, i ≤ 8 → wrd_it1 b i = val 256 (b.take i) := by
    intro i
    induction i with
    | zero => intro _; rfl
    | succ i ih =>
      intro hi
      rw [wrd_it1_s]
      unfold wrd_s1
      rw [ih (by omega), val_take_succ (by omega)]
      exact word_step hb (by omega)
  unfold wrd
  rw [this 8 (by decide), List.take_of_length_le (by omega)]
theorem val32 {b : List Nat} (hb : b.length = 32) : val 256 b = val 256 ((b.drop 0).take (8 - 0)) + 18446744073709551616 * (val 256 ((b.drop 8).take (16 - 8)) + 18446744073709551616 * (val 256 ((b.drop 16).take (24 - 16)) + 18446744073709551616 * val 256 ((b.drop 24).take (32 - 24)))) := by
  rw [val_split8 b (by omega), val_split8 (b.drop 8) (by simp; omega), val_split8 ((b.drop 8).drop 8) (by simp; omega)]
  simp only [List.drop_drop, List.drop_zero, Nat.sub_zero]
  rw [List.take_of_length_le (l := b.drop 24) (by simp; omega)]
theorem w_lt {b : List Nat} (hb : Lt 256 b) (o : Nat) : val 256 ((b.drop o).take 8) < 18446744073709551616 := by
  have h1 := ((hb.drop o).take 8).val_lt
  have h2 : (256 : Nat) ^ ((b.drop o).take 8).length ≤ 256 ^ 8 := Nat.pow_le_pow_right (by decide) (by rw [List.length_take]; omega)
  exact Nat.lt_of_lt_of_le h1 h2
theorem load_val {b : List Nat} (hl : b.length = 32) (hb : Lt 256 b) : Fe (load b) ∧ kv (load b) = kof (val 256 b) := by
  have e0 : wrd ((b.drop 0).take (8 - 0)) = val 256 ((b.drop 0).take (8 - 0)) := wrd_val ((hb.drop _).take _) (by simp; omega)
  have e1 : wrd ((b.drop 8).take (16 - 8)) = val 256 ((b.drop 8).take (16 - 8)) := wrd_val ((hb.drop _).take _) (by simp; omega)
  have e2 : wrd ((b.drop 16).take (24 - 16)) = val 256 ((b.drop 16).take (24 - 16)) := wrd_val ((hb.drop _).take _) (by simp; omega)
  have e3 : wrd ((b.drop 24).take (32 - 24)) = val 256 ((b.drop 24).take (32 - 24)) := wrd_val ((hb.drop _).take _) (by simp; omega)
  rw [val32 hl]
  have l0 := w_lt hb 0
  have l1 := w_lt hb 8
  have l2 := w_lt hb 16
  have l3 := w_lt hb 24
  unfold load
  rw [e0, e1, e2, e3]
  simp only [Nat.sub_zero, show 16 - 8 = 8 from rfl, show 24 - 16 = 8 from rfl, show 32 - 24 = 8 from rfl]
  generalize val 256 ((b.drop 0).take 8) = w0 at *
  generalize val 256 ((b.drop 8).take 8) = w1 at *
  generalize val 256 ((b.drop 16).take 8) = w2 at *
  generalize val 256 ((b.drop 24).take 8) = w3 at *
  show Fe (car [w0 &&& 2251799813685247, (w0 / 2 ^ 51 ||| w1 * 2 ^ 13 % 18446744073709551616) &&& 2251799813685247, (w1 / 2 ^ 38 ||| w2 * 2 ^ 26 % 18446744073709551616) &&& 2251799813685247, (w2 / 2 ^ 25 ||| w3 * 2 ^ 39 % 18446744073709551616) &&& 2251799813685247, w3 / 2 ^ 12]) ∧ kv (car [w0 &&& 2251799813685247, (w0 / 2 ^ 51 ||| w1 * 2 ^ 13 % 18446744073709551616) &&& 2251799813685247, (w1 / 2 ^ 38 ||| w2 * 2 ^ 26 % 18446744073709551616) &&& 2251799813685247, (w2 / 2 ^ 25 ||| w3 * 2 ^ 39 % 18446744073709551616) &&& 2251799813685247, w3 / 2 ^ 12]) = _
  have m1 : (w0 / 2 ^ 51 ||| w1 * 2 ^ 13 % 18446744073709551616) &&& 2251799813685247 = w0 / 2251799813685248 + w1 % 274877906944 * 8192 := by
    rw [show w1 * 2 ^ 13 % 18446744073709551616 = (w1 % 2251799813685248) * 2 ^ 13 by simp only [show (2 : Nat) ^ 13 = 8192 from rfl]; omega, or_add (by simp only [show (2 : Nat) ^ 13 = 8192 from rfl, show (2 : Nat) ^ 51 = 2251799813685248 from rfl]; omega), mask51]
    simp only [show (2 : Nat) ^ 13 = 8192 from rfl, show (2 : Nat) ^ 51 = 2251799813685248 from rfl]
    omega
  have m2 : (w1 / 2 ^ 38 ||| w2 * 2 ^ 26 % 18446744073709551616) &&& 2251799813685247 = w1 / 274877906944 + w2 % 33554432 * 67108864 := by
    rw [show w2 * 2 ^ 26 % 18446744073709551616 = (w2 % 274877906944) * 2 ^ 26 by simp only [show (2 : Nat) ^ 26 = 67108864 from rfl]; omega, or_add (by simp only [show (2 : Nat) ^ 26 = 67108864 from rfl, show (2 : Nat) ^ 38 = 274877906944 from rfl]; omega), mask51]
    simp only [show (2 : Nat) ^ 26 = 67108864 from rfl, show (2 : Nat) ^ 38 = 274877906944 from rfl]
    omega
  have m3 : (w2 / 2 ^ 25 ||| w3 * 2 ^ 39 % 18446744073709551616) &&& 2251799813685247 = w2 / 33554432 + w3 % 4096 * 549755813888 := by
    rw [show w3 * 2 ^ 39 % 18446744073709551616 = (w3 % 33554432) * 2 ^ 39 by simp only [show (2 : Nat) ^ 39 = 549755813888 from rfl]; omega, or_add (by simp only [show (2 : Nat) ^ 39 = 549755813888 from rfl, show (2 : Nat) ^ 25 = 33554432 from rfl]; omega), mask51]
    simp only [show (2 : Nat) ^ 39 = 549755813888 from rfl, show (2 : Nat) ^ 25 = 33554432 from rfl]
    omega
  rw [m1, m2, m3, mask51, show (2 : Nat) ^ 12 = 4096 from rfl]
  obtain ⟨h1, h2⟩ := car_ok (l := [w0 % 2251799813685248, w0 / 2251799813685248 + w1 % 274877906944 * 8192, w1 / 274877906944 + w2 % 33554432 * 67108864, w2 / 33554432 + w3 % 4096 * 549755813888, w3 / 4096]) rfl (lt5_mk (by omega) (by omega) (by omega) (by omega) (by omega))
  refine ⟨h1, h2.trans ?_⟩
  unfold kv
  rw [val5]
  congr 1
  omega
theorem add_raw (a b c d e a' b' c' d' e' : Nat) : add [a, b, c, d, e] [a', b', c', d', e'] = car [(a + a') % 18446744073709551616, (b + b') % 18446744073709551616, (c + c') % 18446744073709551616, (d + d') % 18446744073709551616, (e + e') % 18446744073709551616] := by
  unfold add
  rfl
theorem add_val {x y : List Nat} (hx : Fe x) (hy : Fe y) : Fe (add x y) ∧ kv (add x y) = kv x + kv y := by
  obtain ⟨hx5, hx⟩ := hx
  obtain ⟨hy5, hy⟩ := hy
  obtain ⟨a, b, c, d, e, rfl⟩ := five hx5
  obtain ⟨a', b', c', d', e', rfl⟩ := five hy5
  obtain ⟨ha, hb, hc, hd, he⟩ := lt5 hx
  obtain ⟨ha', hb', hc', hd', he'⟩ := lt5 hy
  rw [add_raw, show (a + a') % 18446744073709551616 = a + a' by omega, show (b + b') % 18446744073709551616 = b + b' by omega, show (c + c') % 18446744073709551616 = c + c' by omega, show (d + d') % 18446744073709551616 = d + d' by omega, show (e + e') % 18446744073709551616 = e + e' by omega]
  obtain ⟨h1, h2⟩ := car_ok (l := [a + a', b + b', c + c', d + d', e + e']) rfl (lt5_mk (by omega) (by omega) (by omega) (by omega) (by omega))
  refine ⟨h1, h2.trans ?_⟩
  unfold kv
  rw [← kof_add, val5, val5, val5]
  congr 1
  omega
theorem sub_raw (a b c d e a' b' c' d' e' : Nat) : sub [a, b, c, d, e] [a', b', c', d', e'] = car [(a + (9007199254740916 + (18446744073709551616 - a')) % 18446744073709551616) % 18446744073709551616, (b + (9007199254740988 + (18446744073709551616 - b')) % 18446744073709551616) % 18446744073709551616, (c + (9007199254740988 + (18446744073709551616 - c')) % 18446744073709551616) % 18446744073709551616, (d + (9007199254740988 + (18446744073709551616 - d')) % 18446744073709551616) % 18446744073709551616, (e + (9007199254740988 + (18446744073709551616 - e')) % 18446744073709551616) % 18446744073709551616] := by
  unfold sub
  rfl
theorem sub_val {x y : List Nat} (hx : Fe x) (hy : Fe y) : Fe (sub x y) ∧ kv (sub x y) = kv x - kv y := by
  obtain ⟨hx5, hx⟩ := hx
  obtain ⟨hy5, hy⟩ := hy
  obtain ⟨a, b, c, d, e, rfl⟩ := five hx5
  obtain ⟨a', b', c', d', e', rfl⟩ := five hy5
  obtain ⟨ha, hb, hc, hd, he⟩ := lt5 hx
  obtain ⟨ha', hb', hc', hd', he'⟩ := lt5 hy
  rw [sub_raw, show (a + (9007199254740916 + (18446744073709551616 - a')) % 18446744073709551616) % 18446744073709551616 = a + 9007199254740916 - a' by omega, show (b + (9007199254740988 + (18446744073709551616 - b')) % 18446744073709551616) % 18446744073709551616 = b + 9007199254740988 - b' by omega, show (c + (9007199254740988 + (18446744073709551616 - c')) % 18446744073709551616) % 18446744073709551616 = c + 9007199254740988 - c' by omega,
    show (d + (9007199254740988 + (18446744073709551616 - d')) % 18446744073709551616) % 18446744073709551616 = d + 9007199254740988 - d' by omega, show (e + (9007199254740988 + (18446744073709551616 - e')) % 18446744073709551616) % 18446744073709551616 = e + 9007199254740988 - e' by omega]
  obtain ⟨h1, h2⟩ := car_ok (l := [a + 9007199254740916 - a', b + 9007199254740988 - b', c + 9007199254740988 - c', d + 9007199254740988 - d', e + 9007199254740988 - e']) rfl (lt5_mk (by omega) (by omega) (by omega) (by omega) (by omega))
  refine ⟨h1, h2.trans ?_⟩
  unfold kv
  rw [val5, val5, val5]
  have e1 : kof (a + 2251799813685248 * (b + 2251799813685248 * (c + 2251799813685248 * (d + 2251799813685248 * e)))) = kof (a + 2251799813685248 * (b + 2251799813685248 * (c + 2251799813685248 * (d + 2251799813685248 * e))) + 4 * 57896044618658097711785492504343953926634992332820282019728792003956564819949) := kof_of_add rfl
  rw [e1]
  exact kof_sub (by omega)
theorem fe_zero : Fe (List.replicate 5 0) := ⟨rfl, Lt.replicate (by decide)⟩
theorem kv_zero : kv (List.replicate 5 0) = 0 := by
  unfold kv
  rw [val_replicate]
  rfl
theorem neg_val {x : List Nat} (hx : Fe x) : Fe (neg x) ∧ kv (neg x) = -kv x := by
  unfold neg
  obtain ⟨h1, h2⟩ := sub_val fe_zero hx
  refine ⟨h1, h2.trans ?_⟩
  rw [kv_zero]
  grind
theorem pick_all {x y : List Nat} (hx : Fe x) (hy : Fe y) (f : Bool) : pick x y f = if f = true then x else y := by
  obtain ⟨hx5, hx⟩ := hx
  obtain ⟨hy5, hy⟩ := hy
  obtain ⟨a, b, c, d, e, rfl⟩ := five hx5
  obtain ⟨a', b', c', d', e', rfl⟩ := five hy5
  obtain ⟨ha, hb, hc, hd, he⟩ := lt5 hx
  obtain ⟨ha', hb', hc', hd', he'⟩ := lt5 hy
  have r : ∀ m : Nat, m = (if f = true then ((0 + (18446744073709551616 - 1)) % 18446744073709551616) else 0) → pick [a, b, c, d, e] [a', b', c', d', e'] f = [a' ^^^ (m &&& (a ^^^ a')), b' ^^^ (m &&& (b ^^^ b')), c' ^^^ (m &&& (c ^^^ c')), d' ^^^ (m &&& (d ^^^ d')), e' ^^^ (m &&& (e ^^^ e'))] := by
    intro m hm
    subst hm
    unfold pick
    rfl
  rw [r _ rfl]
  cases f with
  | false => simp
  | true =>
    have one : ∀ p q : Nat, p < 4503599627370496 → q < 4503599627370496 → q ^^^ (18446744073709551615 &&& (p ^^^ q)) = p := by
      intro p q hp hq
      have hx : p ^^^ q < 2 ^ 52 := Nat.xor_lt_two_pow (n := 52) hp hq
      rw [Nat.and_comm, show 18446744073709551615 = 2 ^ 64 - 1 from rfl, Nat.and_two_pow_sub_one_eq_mod, Nat.mod_eq_of_lt (Nat.lt_of_lt_of_le hx (by decide)), Nat.xor_comm p q, ← Nat.xor_assoc, Nat.xor_self, Nat.zero_xor]
    simp only [if_true]
    rw [show (0 + (18446744073709551616 - 1)) % 18446744073709551616 = 18446744073709551615 from rfl, one a a' ha ha', one b b' hb hb', one c c' hc hc', one d d' hd hd', one e e' he he']
theorem odd_val {x : List Nat} (h : Fe x) : odd x = decide ((kv x).val % 2 = 1) := by
  unfold odd
  dsimp only
  rw [fbytes_val h, digs_getD (by decide), Nat.pow_zero, Nat.div_one, show (1 : Nat) = 2 ^ 1 - 1 from rfl, Nat.and_two_pow_sub_one_eq_mod]
  exact decide_eq_decide.2 (by omega)
theorem digs_kv {x y : K} : digs 256 32 x.val = digs 256 32 y.val ↔ x = y := by
  constructor
  · intro h
    exact Fin.ext ((digs_inj (by decide) (Nat.lt_trans x.isLt (by decide)) (Nat.lt_trans y.isLt (by decide))).1 h)
  · intro h; rw [h]
theorem same_val {x y : List Nat} (hx : Fe x) (hy : Fe y) : same x y = decide (kv x = kv y) := by
  unfold same
  rw [fbytes_val hx, fbytes_val hy]
  exact decide_eq_decide.2 digs_kv
end Go.Proofs.Ytnfiiclmbiiokaa
