/-
  Plain: the ladder at the points of small order, masked bits, a known answer.
-/
import Derived.Test.YtnfiiclmbiiokaaPj
namespace Go.Proofs.Ytnfiiclmbiiokaa
open Go Go.Fx
set_option linter.unusedVariables false
set_option linter.unusedSimpArgs false
/-! ### Points of small order -/
theorem core_hom (x l m a b c d : K) : K4.core x ⟨l * a, l * b, m * c, m * d⟩ = ⟨l * l * (l * l) * (K4.core x ⟨a, b, c, d⟩).a, l * l * (l * l) * (K4.core x ⟨a, b, c, d⟩).b, l * m * (l * m) * (K4.core x ⟨a, b, c, d⟩).c, l * m * (l * m) * (K4.core x ⟨a, b, c, d⟩).d⟩ := by
  unfold K4.core
  dsimp only
  generalize kof 121665 = q
  congr 1
  · grind
  · grind
  · grind
  · grind
theorem core_symc (x a b c d : K) : (K4.core x ⟨c, d, a, b⟩).c = (K4.core x ⟨a, b, c, d⟩).c := by
  unfold K4.core
  dsimp only
  grind
theorem core_symd (x a b c d : K) : (K4.core x ⟨c, d, a, b⟩).d = (K4.core x ⟨a, b, c, d⟩).d := by
  unfold K4.core
  dsimp only
  grind
theorem core_a (x a b c d c' d' : K) : (K4.core x ⟨a, b, c, d⟩).a = (K4.core x ⟨a, b, c', d'⟩).a := rfl
theorem core_b (x a b c d c' d' : K) : (K4.core x ⟨a, b, c, d⟩).b = (K4.core x ⟨a, b, c', d'⟩).b := rfl
def klit (l : List Nat) (r : Nat) : K := kof (l.getD r 0)
/-- A table of a point's eight multiples, with the factors of one step. -/
def okT (x : K) (X Z al be : List Nat) : Bool :=
  decide (klit X 0 = 1) && decide (klit Z 0 = 0) && decide (klit X 1 = x) && decide (klit Z 1 = 1) && (List.range 8).all fun r =>
    decide ((K4.core x ⟨klit X r, klit Z r, klit X ((r + 1) % 8), klit Z ((r + 1) % 8)⟩).a = klit al r * klit X (2 * r % 8)) &&
    decide ((K4.core x ⟨klit X r, klit Z r, klit X ((r + 1) % 8), klit Z ((r + 1) % 8)⟩).b = klit al r * klit Z (2 * r % 8)) &&
    decide ((K4.core x ⟨klit X r, klit Z r, klit X ((r + 1) % 8), klit Z ((r + 1) % 8)⟩).c = klit be r * klit X ((2 * r + 1) % 8)) &&
    decide ((K4.core x ⟨klit X r, klit Z r, klit X ((r + 1) % 8), klit Z ((r + 1) % 8)⟩).d = klit be r * klit Z ((2 * r + 1) % 8))
def kres (f : Nat → Bool) : Nat → Nat
  | 0 => 0
  | i + 1 => (2 * kres f i + (f i).toNat) % 8
theorem kres_lt (f : Nat → Bool) : ∀ i, kres f i < 8
  | 0 => show 0 < 8 by decide
  | i + 1 => Nat.mod_lt _ (by decide)
theorem kres_succ (f : Nat → Bool) (i : Nat) : kres f (i + 1) = (2 * kres f i + (f i).toNat) % 8 := rfl
theorem five_key {x : K} {X Z al be : List Nat} (h : okT x X Z al be = true) (f : Nat → Bool) : ∀ i, ∃ l m : K, klad f x i = ⟨l * klit X (kres f i), l * klit Z (kres f i), m * klit X ((kres f i + 1) % 8), m * klit Z ((kres f i + 1) % 8)⟩ := by
  unfold okT at h
  simp only [Bool.and_eq_true, List.all_eq_true, List.mem_range, decide_eq_true_eq] at h
  obtain ⟨⟨⟨⟨h0, h1⟩, h2⟩, h3⟩, H⟩ := h
  intro i
  induction i with
  | zero =>
    refine ⟨1, 1, ?_⟩
    show (⟨1, 0, x, 1⟩ : K4) = ⟨1 * klit X 0, 1 * klit Z 0, 1 * klit X 1, 1 * klit Z 1⟩
    rw [h0, h1, h2, h3]
    congr 1 <;> grind
  | succ i ih =>
    obtain ⟨l, m, e⟩ := ih
    have hr := kres_lt f i
    rw [klad_succ, e, kres_succ]
    generalize kres f i = r at *
    obtain ⟨⟨⟨g1, g2⟩, g3⟩, g4⟩ := H r hr
    cases hb : f i
    · refine ⟨l * l * (l * l) * klit al r, l * m * (l * m) * klit be r, ?_⟩
      show K4.core x ⟨l * klit X r, l * klit Z r, m * klit X ((r + 1) % 8), m * klit Z ((r + 1) % 8)⟩ = _
      rw [core_hom, g1, g2, g3, g4]
      rw [show (2 * r + false.toNat) % 8 = 2 * r % 8 from rfl, show (2 * r % 8 + 1) % 8 = (2 * r + 1) % 8 by omega]
      congr 1 <;> grind
    · obtain ⟨⟨⟨k1, k2⟩, _⟩, _⟩ := H ((r + 1) % 8) (Nat.mod_lt _ (by decide))
      refine ⟨m * l * (m * l) * klit be r, m * m * (m * m) * klit al ((r + 1) % 8), ?_⟩
      show K4.sw true (K4.core x ⟨m * klit X ((r + 1) % 8), m * klit Z ((r + 1) % 8), l * klit X r, l * klit Z r⟩) = _
      rw [core_hom, core_symc, core_symd, g3, g4]
      rw [core_a x (klit X ((r + 1) % 8)) (klit Z ((r + 1) % 8)) (klit X r) (klit Z r) (klit X (((r + 1) % 8 + 1) % 8)) (klit Z (((r + 1) % 8 + 1) % 8)), k1]
      rw [core_b x (klit X ((r + 1) % 8)) (klit Z ((r + 1) % 8)) (klit X r) (klit Z r) (klit X (((r + 1) % 8 + 1) % 8)) (klit Z (((r + 1) % 8 + 1) % 8)), k2]
      rw [show (2 * r + true.toNat) % 8 = (2 * r + 1) % 8 from rfl, show ((2 * r + 1) % 8 + 1) % 8 = 2 * ((r + 1) % 8) % 8 by omega]
      unfold K4.sw
      rw [if_pos rfl]
      dsimp only
      congr 1 <;> grind
theorem five_zero {x : K} {X Z al be : List Nat} (h : okT x X Z al be = true) {f : Nat → Bool} (h0 : f 252 = false) (h1 : f 253 = false) (h2 : f 254 = false) : kmul f x = 0 := by
  obtain ⟨l, m, e⟩ := five_key h f 255
  have hr : kres f 255 = 0 := by
    have a1 : kres f 255 = (2 * kres f 254 + (f 254).toNat) % 8 := rfl
    have a2 : kres f 254 = (2 * kres f 253 + (f 253).toNat) % 8 := rfl
    have a3 : kres f 253 = (2 * kres f 252 + (f 252).toNat) % 8 := rfl
    rw [h2] at a1
    rw [h1] at a2
    rw [h0] at a3
    simp only [Bool.toNat_false] at a1 a2 a3
    omega
  have hz : klit Z 0 = 0 := by
    unfold okT at h
    simp only [Bool.and_eq_true, decide_eq_true_eq] at h
    exact h.1.1.1.2
  unfold kmul
  rw [e, hr, hz]
  dsimp only
  have hb : l * (0 : K) = 0 := by grind
  rw [hb, ki_zero]
  grind
/-- The three low bits of a scalar are none. -/
theorem and248 {a k : Nat} (hk : k < 3) : ((a &&& (256 - 1 - 7)) / 2 ^ k) &&& 1 ≠ 1 := by
  intro h
  have h1 : (a &&& (256 - 1 - 7)).testBit k = true := by
    rw [Nat.testBit_eq_decide_div_mod_eq, ← Nat.and_one_is_mod]
    exact decide_eq_true h
  rw [Nat.testBit_and] at h1
  have h2 : (256 - 1 - 7).testBit k = false := by
    rcases (by omega : k = 0 ∨ k = 1 ∨ k = 2) with e | e | e <;> subst e <;> rfl
  rw [h2, Bool.and_false] at h1
  cases h1
theorem lsec_low {s : List Nat} (hl : s.length = 32) {i : Nat} (h1 : 252 ≤ i) (h2 : i ≤ 254) : lbit (lsec s) i = false := by
  unfold lbit
  apply decide_eq_false
  have e : (lsec s).getD ((254 - i) / 8) 0 = (s.getD 0 0) &&& (256 - 1 - 7) := by
    rw [show (254 - i) / 8 = 0 by omega]
    unfold lsec
    dsimp only
    rw [Fx.getD_set_ne (by decide), Fx.getD_set_eq (by rw [hl]; decide)]
  rw [e]
  exact and248 (by omega)
theorem tab0 : okT (kof 0) [1, 0, 1, 0, 1, 0, 1, 0] [0, 1, 0, 1, 0, 1, 0, 1] [1, 1, 1, 1, 1, 1, 1, 1] [0, 0, 0, 0, 0, 0, 0, 0] = true := by decide +kernel
theorem tab1 : okT (kof 1) [1, 1, 0, 1, 1, 1, 0, 1] [0, 1, 1, 1, 0, 1, 1, 1] [1, 1946656, 1, 1946656, 1, 1946656, 1, 1946656] [4, 4, 4, 4, 4, 4, 4, 4] = true := by decide +kernel
theorem tab2 : okT (kof 57896044618658097711785492504343953926634992332820282019728792003956564819948) [1, 57896044618658097711785492504343953926634992332820282019728792003956564819948, 0, 57896044618658097711785492504343953926634992332820282019728792003956564819948, 1, 57896044618658097711785492504343953926634992332820282019728792003956564819948, 0, 57896044618658097711785492504343953926634992332820282019728792003956564819948] [0, 1, 1, 1, 0, 1, 1, 1] [1, 1946640, 1, 1946640, 1, 1946640, 1, 1946640] [57896044618658097711785492504343953926634992332820282019728792003956564819945, 57896044618658097711785492504343953926634992332820282019728792003956564819945, 57896044618658097711785492504343953926634992332820282019728792003956564819945, 57896044618658097711785492504343953926634992332820282019728792003956564819945, 57896044618658097711785492504343953926634992332820282019728792003956564819945, 57896044618658097711785492504343953926634992332820282019728792003956564819945, 57896044618658097711785492504343953926634992332820282019728792003956564819945, 57896044618658097711785492504343953926634992332820282019728792003956564819945] = true := by decide +kernel
theorem tab3 : okT (kof 325606250916557431795983626356110631294008115727848805560023387167927233504) [1, 325606250916557431795983626356110631294008115727848805560023387167927233504, 1, 39382357235489614581723060781553021112529911719440698176882885853963445705823, 0, 39382357235489614581723060781553021112529911719440698176882885853963445705823, 1, 325606250916557431795983626356110631294008115727848805560023387167927233504] [0, 1, 1, 1, 1, 1, 1, 1] [1, 45396917006225111810827341870339786373668205820213556558545403612143054885807, 1946656, 24871845842723059791009793099485790699430777617945840999563689295137248234743, 1, 24871845842723059791009793099485790699430777617945840999563689295137248234743, 1946656, 45396917006225111810827341870339786373668205820213556558545403612143054885807] [1302425003666229727183934505424442525176032462911395222240093548671708934016, 48761077026508114957042383884231568914342515009330145294212738689583669055707, 43039764708308492630505192622948619122025694675033623890314052956612362117402, 41737339704642262903321258117524176596849662212122228668073959407940653183394, 41737339704642262903321258117524176596849662212122228668073959407940653183394, 43039764708308492630505192622948619122025694675033623890314052956612362117402, 48761077026508114957042383884231568914342515009330145294212738689583669055707, 1302425003666229727183934505424442525176032462911395222240093548671708934016] = true := by decide +kernel
theorem tab4 : okT (kof 39382357235489614581723060781553021112529911719440698176882885853963445705823) [1, 39382357235489614581723060781553021112529911719440698176882885853963445705823, 1, 325606250916557431795983626356110631294008115727848805560023387167927233504, 0, 325606250916557431795983626356110631294008115727848805560023387167927233504, 1, 39382357235489614581723060781553021112529911719440698176882885853963445705823] [0, 1, 1, 1, 1, 1, 1, 1] [1, 24871845842723059791009793099485790699430777617945840999563689295137248234743, 1946656, 45396917006225111810827341870339786373668205820213556558545403612143054885807, 1, 45396917006225111810827341870339786373668205820213556558545403612143054885807, 1946656, 24871845842723059791009793099485790699430777617945840999563689295137248234743] [41737339704642262903321258117524176596849662212122228668073959407940653183394, 29413069106274463474381376223629838744232671384783177375155860718774123457394, 43039764708308492630505192622948619122025694675033623890314052956612362117402, 1302425003666229727183934505424442525176032462911395222240093548671708934016, 1302425003666229727183934505424442525176032462911395222240093548671708934016, 43039764708308492630505192622948619122025694675033623890314052956612362117402, 29413069106274463474381376223629838744232671384783177375155860718774123457394, 41737339704642262903321258117524176596849662212122228668073959407940653183394] = true := by decide +kernel
theorem kl_five {s p : List Nat} (hl : s.length = 32) {x : K} {X Z al be : List Nat} (h : okT x X Z al be = true) (e : ko (lpnt p) = x) : kl s p = 0 := by
  unfold kl
  rw [e]
  exact five_zero h (lsec_low hl (by decide) (by decide)) (lsec_low hl (by decide) (by decide)) (lsec_low hl (by decide) (by decide))
theorem digs0 : digs 256 32 (0 : K).val = List.replicate 32 0 := by decide +kernel
theorem lshr_five {s p : List Nat} (hl : s.length = 32) (hl' : p.length = 32) (hp : Lt 256 p) {x : K} {X Z al be : List Nat} (h : okT x X Z al be = true) (e : ko (lpnt p) = x) : (lshr s p).1 = List.replicate 32 0 ∧ (lshr s p).2 = false := by
  have h1 : lmul s p = List.replicate 32 0 := by rw [lmul_k hl' hp, kl_five hl h e, digs0]
  unfold lshr
  dsimp only
  exact ⟨h1, decide_eq_false (fun k => k h1)⟩
theorem zer0 {s : List Nat} (hl : s.length = 32) : (lshr s (List.replicate 32 0)).1 = List.replicate 32 0 ∧ (lshr s (List.replicate 32 0)).2 = false :=
  lshr_five hl rfl (Lt.replicate (by decide)) tab0 (by unfold lpnt ko; decide +kernel)
theorem zer1 {s : List Nat} (hl : s.length = 32) : (lshr s ((List.replicate 32 0).set 0 1)).1 = List.replicate 32 0 ∧ (lshr s ((List.replicate 32 0).set 0 1)).2 = false :=
  lshr_five hl rfl (Lt.of_mem (by decide) (by decide +kernel)) tab1 (by unfold lpnt ko; decide +kernel)
theorem negone : fbytes (neg (load ((List.replicate 32 0).set 0 1))) = digs 256 32 57896044618658097711785492504343953926634992332820282019728792003956564819948 := by
  obtain ⟨h1, h2⟩ := neg_val cOne.1
  rw [fbytes_val h1, h2, cOne.2]
  decide +kernel
theorem zer2 {s : List Nat} (hl : s.length = 32) : (lshr s (fbytes (neg (load ((List.replicate 32 0).set 0 1))))).1 = List.replicate 32 0 ∧ (lshr s (fbytes (neg (load ((List.replicate 32 0).set 0 1))))).2 = false := by
  rw [negone]
  exact lshr_five hl (digs_len _ _ _) (digs_lt (by decide) _ _) tab2 (by unfold lpnt ko; decide +kernel)
theorem zer3 {s : List Nat} (hl : s.length = 32) : (lshr s (((((((((((((((((((((((((((((((((List.replicate 32 0).set 0 224).set 1 235).set 2 122).set 3 124).set 4 59).set 5 65).set 6 184).set 7 174).set 8 22).set 9 86).set 10 227).set 11 250).set 12 241).set 13 159).set 14 196).set 15 106).set 16 218).set 17 9).set 18 141).set 19 235).set 20 156).set 21 50).set 22 177).set 23 253).set 24 134).set 25 98).set 26 5).set 27 22).set 28 95).set 29 73).set 30 184).set 31 0)).1 = List.replicate 32 0 ∧ (lshr s (((((((((((((((((((((((((((((((((List.replicate 32 0).set 0 224).set 1 235).set 2 122).set 3 124).set 4 59).set 5 65).set 6 184).set 7 174).set 8 22).set 9 86).set 10 227).set 11 250).set 12 241).set 13 159).set 14 196).set 15 106).set 16 218).set 17 9).set 18 141).set 19 235).set 20 156).set 21 50).set 22 177).set 23 253).set 24 134).set 25 98).set 26 5).set 27 22).set 28 95).set 29 73).set 30 184).set 31 0)).2 = false :=
  lshr_five hl rfl (Lt.of_mem (by decide) (by decide +kernel)) tab3 (by unfold lpnt ko; decide +kernel)
theorem zer4 {s : List Nat} (hl : s.length = 32) : (lshr s (((((((((((((((((((((((((((((((((List.replicate 32 0).set 0 95).set 1 156).set 2 149).set 3 188).set 4 163).set 5 80).set 6 140).set 7 36).set 8 177).set 9 208).set 10 177).set 11 85).set 12 156).set 13 131).set 14 239).set 15 91).set 16 4).set 17 68).set 18 92).set 19 196).set 20 88).set 21 28).set 22 142).set 23 134).set 24 216).set 25 34).set 26 78).set 27 221).set 28 208).set 29 159).set 30 17).set 31 87)).1 = List.replicate 32 0 ∧ (lshr s (((((((((((((((((((((((((((((((((List.replicate 32 0).set 0 95).set 1 156).set 2 149).set 3 188).set 4 163).set 5 80).set 6 140).set 7 36).set 8 177).set 9 208).set 10 177).set 11 85).set 12 156).set 13 131).set 14 239).set 15 91).set 16 4).set 17 68).set 18 92).set 19 196).set 20 88).set 21 28).set 22 142).set 23 134).set 24 216).set 25 34).set 26 78).set 27 221).set 28 208).set 29 159).set 30 17).set 31 87)).2 = false :=
  lshr_five hl rfl (Lt.of_mem (by decide) (by decide +kernel)) tab4 (by unfold lpnt ko; decide +kernel)
/-! ### Masked bits -/
theorem bit7 : ∀ x < 256, ∀ y < 8, (x ^^^ y) &&& (256 - 1 - 7) = x &&& (256 - 1 - 7) := by decide +kernel
theorem bit192 : ∀ x < 256, ∀ y < 4, (((x ^^^ (64 * y)) &&& 127) ||| 64) = ((x &&& 127) ||| 64) := by decide +kernel
theorem bit128 : ∀ x < 256, (x ^^^ 128) &&& 127 = x &&& 127 := by decide +kernel
theorem bit127 : ∀ x < 128, x &&& 127 = x := by decide +kernel
theorem y192 : ∀ z < 256, z &&& 192 = 64 * (z / 64) := by decide +kernel
theorem lsec_bits {s : List Nat} (hl : s.length = 32) (hs : Lt 256 s) {y z : Nat} (hz : z < 256) :
    lsec ((s.set 0 ((s.getD 0 0) ^^^ (y &&& 7))).set 31 (((s.set 0 ((s.getD 0 0) ^^^ (y &&& 7))).getD 31 0) ^^^ (z &&& 192))) = lsec s := by
  have e0 := bit7 (s.getD 0 0) (hs 0) (y &&& 7) (Nat.lt_of_le_of_lt Nat.and_le_right (by decide))
  have e1 := bit192 (s.getD 31 0) (hs 31) (z / 64) (by omega)
  rw [← y192 z hz] at e1
  generalize y &&& 7 = u at *
  generalize z &&& 192 = w at *
  unfold lsec
  dsimp only
  have g1 : (s.set 0 ((s.getD 0 0) ^^^ u)).getD 31 0 = s.getD 31 0 := Fx.getD_set_ne (by decide)
  rw [g1]
  have g2 : ((s.set 0 ((s.getD 0 0) ^^^ u)).set 31 ((s.getD 31 0) ^^^ w)).getD 0 0 = (s.getD 0 0) ^^^ u := by
    rw [Fx.getD_set_ne (by decide), Fx.getD_set_eq (by rw [hl]; decide)]
  rw [g2, e0]
  rw [Fx.getD_set_ne (by decide), Fx.getD_set_eq (by rw [List.length_set, hl]; decide), e1]
  have g3 : (s.set 0 ((s.getD 0 0) &&& (256 - 1 - 7))).getD 31 0 = s.getD 31 0 := Fx.getD_set_ne (by decide)
  rw [g3]
  apply Fx.ext_getD (by simp only [List.length_set])
  intro j hj
  by_cases h0 : j = 0
  · subst h0
    rw [Fx.getD_set_ne (by decide), Fx.getD_set_eq (by simp only [List.length_set, hl]; decide), Fx.getD_set_ne (by decide), Fx.getD_set_eq (by simp only [List.length_set, hl]; decide)]
  · by_cases h31 : j = 31
    · subst h31
      rw [Fx.getD_set_eq (by simp only [List.length_set, hl]; decide), Fx.getD_set_eq (by simp only [List.length_set, hl]; decide)]
    · rw [Fx.getD_set_ne (by omega), Fx.getD_set_ne (by omega), Fx.getD_set_ne (by omega), Fx.getD_set_ne (by omega), Fx.getD_set_ne (by omega), Fx.getD_set_ne (by omega)]
theorem lmul_bits {s p : List Nat} (hl : s.length = 32) (hs : Lt 256 s) (hp' : p.length = 32) (hp : Lt 256 p) {y z : Nat} (hz : z < 256) :
    lmul ((s.set 0 ((s.getD 0 0) ^^^ (y &&& 7))).set 31 (((s.set 0 ((s.getD 0 0) ^^^ (y &&& 7))).getD 31 0) ^^^ (z &&& 192))) p = lmul s p := by
  rw [lmul_k hp' hp, lmul_k hp' hp]
  unfold kl
  rw [lsec_bits hl hs hz]
theorem lpnt_bits {p : List Nat} (hl : p.length = 32) (hp : Lt 256 p) : lpnt (p.set 31 ((p.getD 31 0) ^^^ 128)) = lpnt p := by
  unfold lpnt
  rw [Fx.getD_set_eq (by rw [hl]; decide), bit128 _ (hp 31), List.set_set]
theorem kl_p {s p q : List Nat} (h : ko (lpnt p) = ko (lpnt q)) : kl s p = kl s q := by unfold kl; rw [h]
theorem lmul_top {s p : List Nat} (hl : p.length = 32) (hp : Lt 256 p) : lmul s (p.set 31 ((p.getD 31 0) ^^^ 128)) = lmul s p := by
  have hx : (p.getD 31 0) ^^^ 128 < 256 := Nat.xor_lt_two_pow (n := 8) (hp 31) (by decide)
  rw [lmul_k (by rw [List.length_set]; exact hl) (hp.set hx), lmul_k hl hp, kl_p (s := s) (p := p.set 31 ((p.getD 31 0) ^^^ 128)) (q := p) (by rw [lpnt_bits hl hp])]
theorem lpnt_k (x : K) : ko (lpnt (digs 256 32 x.val)) = x := by
  have e : lpnt (digs 256 32 x.val) = digs 256 32 x.val := by
    unfold lpnt
    have hx := x.isLt
    have h31 : (digs 256 32 x.val).getD 31 0 < 128 := by
      rw [digs_getD (by decide)]
      generalize x.val = v at *
      exact Nat.lt_of_le_of_lt (Nat.mod_le _ _) (by omega)
    rw [bit127 _ h31]
    apply Fx.ext_getD (by rw [List.length_set])
    intro j hj
    by_cases h : j = 31
    · subst h; rw [Fx.getD_set_eq (by rw [digs_len]; decide)]
    · rw [Fx.getD_set_ne (by omega)]
  rw [e]
  unfold ko
  rw [val_digs (by decide), Nat.mod_eq_of_lt (Nat.lt_trans x.isLt (by decide)), kof_of]
theorem lmul_least {s p : List Nat} (hl : p.length = 32) (hp : Lt 256 p) : lmul s (fbytes (load (lpnt p))) = lmul s p := by
  obtain ⟨h1, h2⟩ := ld ((lpnt_len p).trans hl) (lpnt_lt hp)
  rw [lmul_k (fb_len h1) (fb_lt h1), lmul_k hl hp, kl_p]
  rw [fbytes_val h1, lpnt_k, h2]
/-! ### A known answer -/
def nsb (u v : Nat) : Nat := u + (57896044618658097711785492504343953926634992332820282019728792003956564819949 - v % 57896044618658097711785492504343953926634992332820282019728792003956564819949)
theorem nsb_k (u v : Nat) : kof (nsb u v) = kof u - kof v := by
  have h : v % 57896044618658097711785492504343953926634992332820282019728792003956564819949 < 57896044618658097711785492504343953926634992332820282019728792003956564819949 := Nat.mod_lt _ (by decide)
  have h1 : kof (nsb u v) = kof (u + 57896044618658097711785492504343953926634992332820282019728792003956564819949) - kof (v % 57896044618658097711785492504343953926634992332820282019728792003956564819949) := kof_sub (by unfold nsb; omega)
  have h2 : kof 57896044618658097711785492504343953926634992332820282019728792003956564819949 = 0 := kof_eq0.2 (Nat.dvd_refl _)
  rw [h1, kof_mod, kof_add, h2]
  grind
def nA (a b : Nat) : Nat := (a + b) * (a + b) * (nsb a b * nsb a b) % 57896044618658097711785492504343953926634992332820282019728792003956564819949
def nB (a b : Nat) : Nat := nsb ((a + b) * (a + b)) (nsb a b * nsb a b) * ((a + b) * (a + b) + 121665 * nsb ((a + b) * (a + b)) (nsb a b * nsb a b)) % 57896044618658097711785492504343953926634992332820282019728792003956564819949
def nC (a b c d : Nat) : Nat := ((c + d) * nsb a b + nsb c d * (a + b)) * ((c + d) * nsb a b + nsb c d * (a + b)) % 57896044618658097711785492504343953926634992332820282019728792003956564819949
def nD (x a b c d : Nat) : Nat := x * (nsb ((c + d) * nsb a b) (nsb c d * (a + b)) * nsb ((c + d) * nsb a b) (nsb c d * (a + b))) % 57896044618658097711785492504343953926634992332820282019728792003956564819949
def nlad (x : Nat) : List Bool → Nat → Nat → Nat → Nat → Nat × Nat
  | [], a, b, _, _ => (a, b)
  | f :: fs, a, b, c, d => bif f then nlad x fs (nC c d a b) (nD x c d a b) (nA c d) (nB c d) else nlad x fs (nA a b) (nB a b) (nC a b c d) (nD x a b c d)
def kfold (x : K) : List Bool → K4 → K4
  | [], s => s
  | f :: fs, s => kfold x fs (K4.sw f (K4.core x (K4.sw f s)))
theorem kfold_append (x : K) : ∀ (u v : List Bool) (s : K4), kfold x (u ++ v) s = kfold x v (kfold x u s)
  | [], _, _ => rfl
  | f :: u, v, s => kfold_append x u v (K4.sw f (K4.core x (K4.sw f s)))
theorem klad_fold (f : Nat → Bool) (x : K) : ∀ n, klad f x n = kfold x ((List.range n).map f) ⟨1, 0, x, 1⟩
  | 0 => rfl
  | n + 1 => by
    rw [List.range_succ, List.map_append, kfold_append, ← klad_fold f x n]
    rfl
theorem core_n (x a b c d : Nat) : K4.core (kof x) ⟨kof a, kof b, kof c, kof d⟩ = ⟨kof (nA a b), kof (nB a b), kof (nC a b c d), kof (nD x a b c d)⟩ := by
  unfold K4.core nA nB nC nD
  simp only [kof_mod, kof_mul, kof_add, nsb_k]
theorem nlad_k (x : Nat) : ∀ (fs : List Bool) (a b c d : Nat), kof (nlad x fs a b c d).1 = (kfold (kof x) fs ⟨kof a, kof b, kof c, kof d⟩).a ∧ kof (nlad x fs a b c d).2 = (kfold (kof x) fs ⟨kof a, kof b, kof c, kof d⟩).b
  | [], a, b, c, d => ⟨rfl, rfl⟩
  | false :: fs, a, b, c, d => by
    have e : kfold (kof x) (false :: fs) ⟨kof a, kof b, kof c, kof d⟩ = kfold (kof x) fs (K4.core (kof x) ⟨kof a, kof b, kof c, kof d⟩) := rfl
    rw [e, core_n]
    exact nlad_k x fs _ _ _ _
  | true :: fs, a, b, c, d => by
    have e : kfold (kof x) (true :: fs) ⟨kof a, kof b, kof c, kof d⟩ = kfold (kof x) fs (K4.sw true (K4.core (kof x) ⟨kof c, kof d, kof a, kof b⟩)) := rfl
    rw [e, core_n]
    exact nlad_k x fs _ _ _ _
theorem known_lad : nlad 34426434033919594451155107781188821651316167215306631574996226621102155684838 ((List.range 255).map (lbit (lsec (((((((((((((((((((((((((((((((((List.replicate 32 0).set 0 165).set 1 70).set 2 227).set 3 107).set 4 240).set 5 82).set 6 124).set 7 157).set 8 59).set 9 22).set 10 21).set 11 75).set 12 130).set 13 70).set 14 94).set 15 221).set 16 98).set 17 20).set 18 76).set 19 10).set 20 193).set 21 252).set 22 90).set 23 24).set 24 80).set 25 106).set 26 34).set 27 68).set 28 186).set 29 68).set 30 154).set 31 196)))) 1 0 34426434033919594451155107781188821651316167215306631574996226621102155684838 1 = (40720446656044610887007743526168351200949085573335588056034522313589005102685, 1913421194926468280838932077950181047858614286606652195677699455974229136423) := by unfold lbit lsec; decide +kernel
theorem known_x : ko (lpnt (((((((((((((((((((((((((((((((((List.replicate 32 0).set 0 230).set 1 219).set 2 104).set 3 103).set 4 88).set 5 48).set 6 48).set 7 219).set 8 53).set 9 148).set 10 193).set 11 164).set 12 36).set 13 177).set 14 95).set 15 124).set 16 114).set 17 102).set 18 36).set 19 236).set 20 38).set 21 179).set 22 53).set 23 59).set 24 16).set 25 169).set 26 3).set 27 166).set 28 208).set 29 171).set 30 28).set 31 76)) = kof 34426434033919594451155107781188821651316167215306631574996226621102155684838 := by unfold lpnt ko; decide +kernel
theorem known : kl (((((((((((((((((((((((((((((((((List.replicate 32 0).set 0 165).set 1 70).set 2 227).set 3 107).set 4 240).set 5 82).set 6 124).set 7 157).set 8 59).set 9 22).set 10 21).set 11 75).set 12 130).set 13 70).set 14 94).set 15 221).set 16 98).set 17 20).set 18 76).set 19 10).set 20 193).set 21 252).set 22 90).set 23 24).set 24 80).set 25 106).set 26 34).set 27 68).set 28 186).set 29 68).set 30 154).set 31 196) (((((((((((((((((((((((((((((((((List.replicate 32 0).set 0 230).set 1 219).set 2 104).set 3 103).set 4 88).set 5 48).set 6 48).set 7 219).set 8 53).set 9 148).set 10 193).set 11 164).set 12 36).set 13 177).set 14 95).set 15 124).set 16 114).set 17 102).set 18 36).set 19 236).set 20 38).set 21 179).set 22 53).set 23 59).set 24 16).set 25 169).set 26 3).set 27 166).set 28 208).set 29 171).set 30 28).set 31 76) = kof 37325765543539916631701301279660700968428932651319597985674090122993663859395 := by
  unfold kl kmul
  rw [known_x]
  obtain ⟨h1, h2⟩ := nlad_k 34426434033919594451155107781188821651316167215306631574996226621102155684838 ((List.range 255).map (lbit (lsec (((((((((((((((((((((((((((((((((List.replicate 32 0).set 0 165).set 1 70).set 2 227).set 3 107).set 4 240).set 5 82).set 6 124).set 7 157).set 8 59).set 9 22).set 10 21).set 11 75).set 12 130).set 13 70).set 14 94).set 15 221).set 16 98).set 17 20).set 18 76).set 19 10).set 20 193).set 21 252).set 22 90).set 23 24).set 24 80).set 25 106).set 26 34).set 27 68).set 28 186).set 29 68).set 30 154).set 31 196)))) 1 0 34426434033919594451155107781188821651316167215306631574996226621102155684838 1
  rw [known_lad, kof_one, kof_zero, ← klad_fold] at h1 h2
  dsimp only at h1 h2
  rw [← h1, ← h2]
  have h3 : ki (kof 1913421194926468280838932077950181047858614286606652195677699455974229136423) = kof 16182784553971376521665912991294993885613170096681619599039146940866607196333 := kp_pwm (by decide +kernel) (by decide +kernel)
  rw [h3, ← kof_mul]
  exact kof_eq.2 (by decide +kernel)
theorem known_b : lmul (((((((((((((((((((((((((((((((((List.replicate 32 0).set 0 165).set 1 70).set 2 227).set 3 107).set 4 240).set 5 82).set 6 124).set 7 157).set 8 59).set 9 22).set 10 21).set 11 75).set 12 130).set 13 70).set 14 94).set 15 221).set 16 98).set 17 20).set 18 76).set 19 10).set 20 193).set 21 252).set 22 90).set 23 24).set 24 80).set 25 106).set 26 34).set 27 68).set 28 186).set 29 68).set 30 154).set 31 196) (((((((((((((((((((((((((((((((((List.replicate 32 0).set 0 230).set 1 219).set 2 104).set 3 103).set 4 88).set 5 48).set 6 48).set 7 219).set 8 53).set 9 148).set 10 193).set 11 164).set 12 36).set 13 177).set 14 95).set 15 124).set 16 114).set 17 102).set 18 36).set 19 236).set 20 38).set 21 179).set 22 53).set 23 59).set 24 16).set 25 169).set 26 3).set 27 166).set 28 208).set 29 171).set 30 28).set 31 76) = digs 256 32 37325765543539916631701301279660700968428932651319597985674090122993663859395 := by
  rw [lmul_k rfl (Lt.of_mem (by decide) (by decide +kernel)), known, kof_val]
end Go.Proofs.Ytnfiiclmbiiokaa
