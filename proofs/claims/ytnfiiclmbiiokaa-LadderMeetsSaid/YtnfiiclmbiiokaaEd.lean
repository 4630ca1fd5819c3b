/-
  Plain: the order of the base point is a prime; what two share is the same, and of use.
-/
import Derived.Test.YtnfiiclmbiiokaaEc
import Derived.Test.YtnfiiclmbiiokaaZd
namespace Go.Proofs.Ytnfiiclmbiiokaa
open Go Go.Fx
set_option linter.unusedVariables false
set_option linter.unusedSimpArgs false
theorem pr2551 : Pr 2551 := .small (by decide) (by decide +kernel)
theorem pr1224481 : Pr 1224481 := .pockA (R := 480) (f := 21) (a := 2) pr2551 (by decide +kernel) (by decide +kernel) (by decide +kernel) (by decide +kernel) (by decide +kernel) (by decide +kernel)
theorem pr3797 : Pr 3797 := .small (by decide) (by decide +kernel)
theorem pr531581 : Pr 531581 := .pockA (R := 140) (f := 20) (a := 2) pr3797 (by decide +kernel) (by decide +kernel) (by decide +kernel) (by decide +kernel) (by decide +kernel) (by decide +kernel)
theorem pr1257559732178653 : Pr 1257559732178653 := .pockB (R := 1027014492) (f := 51) (a := 2) (R' := 2365697292) pr1224481 pr531581 (by decide +kernel) (by decide +kernel) (by decide +kernel) (by decide +kernel) (by decide +kernel) (by decide +kernel) (by decide +kernel) (by decide +kernel) (by decide +kernel)
theorem pr4434155615661930479 : Pr 4434155615661930479 := .pockA (R := 3526) (f := 62) (a := 2) pr1257559732178653 (by decide +kernel) (by decide +kernel) (by decide +kernel) (by decide +kernel) (by decide +kernel) (by decide +kernel)
theorem pr172054593956031949258510691 : Pr 172054593956031949258510691 := .pockA (R := 38802110) (f := 88) (a := 2) pr4434155615661930479 (by decide +kernel) (by decide +kernel) (by decide +kernel) (by decide +kernel) (by decide +kernel) (by decide +kernel)
theorem pr19757330305831588566944191468367130476339 : Pr 19757330305831588566944191468367130476339 := .pockA (R := 114831751082918) (f := 134) (a := 2) pr172054593956031949258510691 (by decide +kernel) (by decide +kernel) (by decide +kernel) (by decide +kernel) (by decide +kernel) (by decide +kernel)
theorem pr276602624281642239937218680557139826668747 : Pr 276602624281642239937218680557139826668747 := .pockA (R := 14) (f := 138) (a := 2) pr19757330305831588566944191468367130476339 (by decide +kernel) (by decide +kernel) (by decide +kernel) (by decide +kernel) (by decide +kernel) (by decide +kernel)
theorem pr7237005577332262213973186563042994240857116359379907606001950938285454250989 : Pr 7237005577332262213973186563042994240857116359379907606001950938285454250989 := .pockA (R := 26163907866482859529727157400808004) (f := 253) (a := 2) pr276602624281642239937218680557139826668747 (by decide +kernel) (by decide +kernel) (by decide +kernel) (by decide +kernel) (by decide +kernel) (by decide +kernel)
/-- The order's bits. -/
def fL (i : Nat) : Bool := Nat.testBit 7237005577332262213973186563042994240857116359379907606001950938285454250989 (254 - i)
theorem fL_nb : nb fL 255 = 7237005577332262213973186563042994240857116359379907606001950938285454250989 := by decide +kernel
def nZ (x : Nat) : Nat × Nat := nlad x ((List.range 255).map fL) 1 0 x 1
theorem fL_lad : (nZ 9).2 = 0 := by unfold nZ; decide +kernel
theorem fL_zero : (klad fL (kof 9) 255).b = 0 := by
  obtain ⟨_, h2⟩ := nlad_k 9 ((List.range 255).map fL) 1 0 9 1
  rw [kof_one, kof_zero, ← klad_fold] at h2
  rw [← h2, ← kof_zero]
  exact congrArg kof fL_lad
theorem nb_lt (f : Nat → Bool) : ∀ i, nb f i < 2 ^ i
  | 0 => show (0 : Nat) < 2 ^ 0 by decide
  | i + 1 => by
    have := nb_lt f i
    rw [nb_succ, Nat.pow_succ]
    cases f i <;> simp <;> omega
theorem nb_ge {f : Nat → Bool} (h : f 0 = true) : ∀ i, 2 ^ i ≤ nb f (i + 1)
  | 0 => by rw [nb_succ, h]; show (2 : Nat) ^ 0 ≤ 2 * 0 + true.toNat; decide
  | i + 1 => by
    have := nb_ge h i
    rw [nb_succ, Nat.pow_succ]
    omega
theorem not_dvd {f : Nat → Bool} (hf : Lw f) (h : f 0 = true) : ¬ 7237005577332262213973186563042994240857116359379907606001950938285454250989 ∣ nb f 255 := by
  intro hd
  have h1 := hf.mod
  have h2 := nb_lt f 255
  have h3 := nb_ge h 254
  have e255 : (2 : Nat) ^ 255 = 8 * 2 ^ 252 := by decide +kernel
  have e254 : (2 : Nat) ^ 254 = 4 * 2 ^ 252 := by decide +kernel
  have h7 : (2 : Nat) ^ 252 < 7237005577332262213973186563042994240857116359379907606001950938285454250989 := by decide +kernel
  have h8 : 0 < (2 : Nat) ^ 252 := Nat.two_pow_pos _
  rw [e255] at h2
  rw [e254] at h3
  replace h3 : 4 * 2 ^ 252 ≤ nb f 255 := h3
  generalize (2 : Nat) ^ 252 = A at *
  generalize nb f 255 = n at *
  obtain ⟨m, rfl⟩ : ∃ m, n = 8 * m := ⟨n / 8, by clear hd h7; omega⟩
  have h9 : m < A := by clear hd h7; omega
  have h10 : 0 < m := by clear hd h7; omega
  clear h1 h2 h3 e255 e254
  rcases pr7237005577332262213973186563042994240857116359379907606001950938285454250989.dvd_mul hd with k | k
  · exact absurd (Nat.le_of_dvd (by decide) k) (by decide +kernel)
  · exact Nat.lt_irrefl _ (Nat.lt_of_le_of_lt (Nat.le_of_dvd h10 k) (Nat.lt_trans h9 h7))
theorem order {d s : K} {P : K × K} (B : Base d s (kof 9) P) : mu d P 7237005577332262213973186563042994240857116359379907606001950938285454250989 = o0 := by
  obtain ⟨l, hl, _, hz⟩ := (lad_key B fL 255).1
  rw [fL_zero, fL_nb] at hz
  have hv : (mu d P 7237005577332262213973186563042994240857116359379907606001950938285454250989).2 = 1 := by
    generalize (mu d P 7237005577332262213973186563042994240857116359379907606001950938285454250989).2 = v at *
    rcases k_int (hz.symm) with e | e
    · exact absurd e hl
    · rcases k_int e with e | e
      · exact absurd e (s_ne B.sg.two)
      · grind -lia
  have hu : (mu d P 7237005577332262213973186563042994240857116359379907606001950938285454250989).1 = 0 := on_one B.ns (mu_on B.ns B.on _) (by rw [hv]; decide)
  exact Prod.ext hu hv
theorem bez_p {p m : Nat} (hp : Pr p) (h : ¬ p ∣ m) : ∃ k t, m * k = p * t + 1 := by
  have h1 := hp.fermat h
  have hp2 := hp.1
  refine ⟨m ^ (p - 1 - 1), m ^ (p - 1) / p, ?_⟩
  have h2 := Nat.div_add_mod (m ^ (p - 1)) p
  rw [h1] at h2
  obtain ⟨j, rfl⟩ : ∃ j, p = j + 2 := ⟨p - 2, by omega⟩
  rw [h2]
  show m * m ^ j = m ^ (j + 1)
  rw [Nat.pow_succ, Nat.mul_comm]
theorem bez {m : Nat} (h : ¬ 7237005577332262213973186563042994240857116359379907606001950938285454250989 ∣ m) : ∃ k t, m * k = 7237005577332262213973186563042994240857116359379907606001950938285454250989 * t + 1 := bez_p pr7237005577332262213973186563042994240857116359379907606001950938285454250989 h
theorem no_order {d s : K} {P : K × K} (B : Base d s (kof 9) P) {m : Nat} (h : ¬ 7237005577332262213973186563042994240857116359379907606001950938285454250989 ∣ m) : mu d P m ≠ o0 := by
  intro hm
  obtain ⟨k, t, hk⟩ := bez h
  have e1 : mu d P (m * k) = o0 := by rw [← mu_mul B.ns B.on, hm, mu_o0]
  rw [hk, mu_succ, ← mu_mul B.ns B.on, order B, mu_o0, pl_comm, pl_o0] at e1
  exact B.v1 (by rw [e1]; rfl)
theorem kx_ne {d s : K} (hs : s = 1 ∨ s = -1) (hd : NS d) {P : K × K} (h : On d P) (h2 : mu d P 2 ≠ o0) : kx s P.2 ≠ 0 := by
  intro e
  unfold kx at e
  rcases k_int e with e | e
  · exact h2 (mu_two hd h (by generalize P.2 = v at *; grind -lia))
  · have hz : s * (1 - P.2) = 0 := by
      by_cases hz : s * (1 - P.2) = 0
      · exact hz
      · have := ki_mul hz
        rw [e] at this
        exact absurd this (by generalize s * (1 - P.2) = z at *; intro q; exact k_one_ne (by grind -lia))
    have hv : P.2 = 1 := by
      rcases k_int hz with e | e
      · exact absurd e (s_ne hs)
      · generalize P.2 = v at *; grind -lia
    have hP : P = o0 := Prod.ext (on_one hd h (by rw [hv]; decide)) hv
    exact h2 (by rw [hP, mu_o0])
theorem kof9 : kof 9 ≠ 0 := by decide +kernel
theorem use9 {f g : Nat → Bool} (hf : Lw f) (hg : Lw g) (f0 : f 0 = true) (g0 : g 0 = true) : kmul f (kmul g (kof 9)) ≠ 0 := by
  obtain ⟨d, s, P, B⟩ := base_ex kof9
  have h1 := mu_on B.ns B.on (nb g 255)
  rw [B.kmul g, kmul_gen (q := 0) B.sg B.ns h1 hf]
  refine kx_ne B.sg.two B.ns (mu_on B.ns h1 _) ?_
  rw [mu_mul B.ns B.on, mu_mul B.ns B.on]
  refine no_order B (fun hd => ?_)
  rcases pr7237005577332262213973186563042994240857116359379907606001950938285454250989.dvd_mul hd with k | k
  · rcases pr7237005577332262213973186563042994240857116359379907606001950938285454250989.dvd_mul k with k | k
    · exact not_dvd hg g0 k
    · exact not_dvd hf f0 k
  · exact absurd (Nat.le_of_dvd (by decide) k) (by decide +kernel)
theorem bit6 : ∀ x < 256, (((x &&& 127) ||| 64) / 2 ^ 6) &&& 1 = 1 := by decide +kernel
theorem lsec_top {s : List Nat} (hl : s.length = 32) (hs : Lt 256 s) : lbit (lsec s) 0 = true := by
  unfold lbit
  apply decide_eq_true
  have e : (lsec s).getD 31 0 = ((s.getD 31 0 &&& 127) ||| 64) := by
    unfold lsec
    dsimp only
    rw [Fx.getD_set_eq (by rw [List.length_set, hl]; decide), Fx.getD_set_ne (by decide)]
  show ((lsec s).getD 31 0 / 2 ^ 6) &&& 1 = 1
  rw [e]
  exact bit6 _ (hs 31)
def nine : List Nat := (List.replicate 32 0).set 0 9
theorem nine_lt : Lt 256 nine := Lt.of_mem (by decide) (by decide +kernel)
theorem nine_k : ko (lpnt nine) = kof 9 := by unfold nine lpnt ko; decide +kernel
theorem meets {a b : List Nat} (ha : a.length = 32) (hb : b.length = 32) : (lshr a (lpub b)).1 = (lshr b (lpub a)).1 := by
  rw [lshr_eq, lshr_eq, lpub_eq, lpub_eq]
  exact chain ha hb rfl nine_lt
theorem meets_ok {a b : List Nat} (ha : a.length = 32) (hb : b.length = 32) (ba : Lt 256 a) (bb : Lt 256 b) : (lshr a (lpub b)).2 = true := by
  have h : lmul a (lpub b) ≠ List.replicate 32 0 := by
    rw [lpub_eq]
    show lmul a (lmul b nine) ≠ _
    rw [lmul_k (lml rfl nine_lt) (lmul_lt rfl nine_lt), kl_twice rfl nine_lt]
    have hn : kl b nine = kmul (lbit (lsec b)) (kof 9) := by unfold kl; rw [nine_k]
    rw [hn]
    intro e
    rw [← digs0] at e
    exact use9 (lsec_lw ha) (lsec_lw hb) (lsec_top ha ba) (lsec_top hb bb) (digs_kv.1 e)
  unfold lshr
  exact decide_eq_true h
end Go.Proofs.Ytnfiiclmbiiokaa
