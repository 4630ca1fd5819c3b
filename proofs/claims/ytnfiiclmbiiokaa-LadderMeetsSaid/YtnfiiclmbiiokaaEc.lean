/-
  Plain: the ladder tells a point's multiple, and the order of two secrets does not matter.
-/
import Derived.Test.YtnfiiclmbiiokaaEb
namespace Go.Proofs.Ytnfiiclmbiiokaa
open Go Go.Fx
set_option linter.unusedVariables false
set_option linter.unusedSimpArgs false
/-- The number that the first bits are. -/
def nb (f : Nat → Bool) : Nat → Nat
  | 0 => 0
  | i + 1 => 2 * nb f i + (f i).toNat
theorem nb_succ (f : Nat → Bool) (i : Nat) : nb f (i + 1) = 2 * nb f i + (f i).toNat := rfl
/-- A point that the ladder begins with. -/
structure Base (d s x : K) (P : K × K) : Prop where
  sg : Sg (kof 121665) d s
  ns : NS d
  on : On d P
  hx : x * (s * (1 - P.2)) = 1 + P.2
  x0 : x ≠ 0
  v1 : P.2 ≠ 1
theorem q_ne : kof 121665 ≠ 0 := by decide +kernel
theorem q1_ne : kof 121665 + 1 ≠ 0 := by decide +kernel
theorem core_eq (x a b c e : K) : K4.core x ⟨a, b, c, e⟩ = ⟨coreA a b, coreB (kof 121665) a b, coreC a b c e, coreD x a b c e⟩ := rfl
theorem Sg.two {q d s : K} (h : Sg q d s) : s = 1 ∨ s = -1 := h.elim (fun h => .inl h.1) (fun h => .inr h.1)
theorem Base.dbl {d s x a b : K} {P : K × K} (B : Base d s x P) {n : Nat} (h : Rl s a b (mu d P n).2) : Rl s (coreA a b) (coreB (kof 121665) a b) (mu d P (2 * n)).2 := by
  obtain ⟨l, hl, rfl, rfl⟩ := h
  rw [Nat.two_mul, mu_add B.ns B.on]
  exact dbl_core B.sg q_ne q1_ne B.ns (mu_on B.ns B.on n) hl
theorem Base.dif {d s x a b c e : K} {P : K × K} (B : Base d s x P) {n : Nat} (h : Rl s a b (mu d P n).2) (h' : Rl s c e (mu d P (n + 1)).2) : Rl s (coreC a b c e) (coreD x a b c e) (mu d P (2 * n + 1)).2 := by
  obtain ⟨l, hl, rfl, rfl⟩ := h
  obtain ⟨m, hm, rfl, rfl⟩ := h'
  have hS := mu_on B.ns B.on n
  have hT := mu_on B.ns B.on (n + 1)
  have e1 : mu d P (2 * n + 1) = pl d (mu d P n) (mu d P (n + 1)) := by
    rw [← mu_add B.ns B.on]
    congr 1
    omega
  have e2 : pl d (mu d P (n + 1)) (ng (mu d P n)) = P := by
    rw [mu_succ, pl_comm d (mu d P n) P, pl_assoc B.ns B.on hS (ng_on hS), pl_ng B.ns hS, pl_o0]
  rw [e1]
  exact add_core B.sg.two B.ns hS hT hl hm B.hx B.x0 B.v1 (by rw [e2])
theorem coreC_sw (a b c e : K) : coreC c e a b = coreC a b c e := by unfold coreC; grind -lia
theorem coreD_sw (x a b c e : K) : coreD x c e a b = coreD x a b c e := by unfold coreD; grind -lia
theorem lad_key {d s x : K} {P : K × K} (B : Base d s x P) (f : Nat → Bool) : ∀ i, Rl s (klad f x i).a (klad f x i).b (mu d P (nb f i)).2 ∧ Rl s (klad f x i).c (klad f x i).d (mu d P (nb f i + 1)).2
  | 0 => by
    refine ⟨?_, ?_⟩
    · show Rl s 1 0 (mu d P 0).2
      rw [mu_zero]
      refine Rl.mk B.sg.sq ?_ (fun h _ => k_one_ne h)
      show (1 : K) * (s * (1 - 1)) = 0 * (1 + 1)
      grind -lia
    · show Rl s x 1 (mu d P 1).2
      rw [mu_one]
      refine Rl.mk B.sg.sq ?_ (fun _ h => k_one_ne h)
      rw [B.hx]
      generalize P.2 = v
      grind -lia
  | i + 1 => by
    obtain ⟨h1, h2⟩ := lad_key B f i
    rw [klad_succ, nb_succ]
    generalize nb f i = n at *
    generalize klad f x i = st at *
    obtain ⟨a, b, c, e⟩ := st
    replace h1 : Rl s a b (mu d P n).2 := h1
    replace h2 : Rl s c e (mu d P (n + 1)).2 := h2
    cases hb : f i
    · show Rl s (K4.core x ⟨a, b, c, e⟩).a (K4.core x ⟨a, b, c, e⟩).b _ ∧ Rl s (K4.core x ⟨a, b, c, e⟩).c (K4.core x ⟨a, b, c, e⟩).d _
      rw [core_eq]
      exact ⟨B.dbl h1, B.dif h1 h2⟩
    · show Rl s (K4.core x ⟨c, e, a, b⟩).c (K4.core x ⟨c, e, a, b⟩).d _ ∧ Rl s (K4.core x ⟨c, e, a, b⟩).a (K4.core x ⟨c, e, a, b⟩).b _
      rw [core_eq]
      dsimp only
      rw [coreC_sw, coreD_sw]
      refine ⟨B.dif h1 h2, ?_⟩
      have := B.dbl h2
      rw [show 2 * (n + 1) = 2 * n + true.toNat + 1 from rfl] at this
      exact this
theorem ki_mulb (x y : K) : ki (x * y) = ki x * ki y := by unfold ki; exact kp_mulb x y _
/-- The number that a second coordinate is told by. -/
def kx (s v : K) : K := (1 + v) * ki (s * (1 - v))
theorem Rl.quo {s a b v : K} (h : Rl s a b v) : a * ki b = kx s v := by
  obtain ⟨l, hl, rfl, rfl⟩ := h
  have hi := ki_mul hl
  unfold kx
  rw [ki_mulb]
  generalize ki l = i at *
  generalize ki (s * (1 - v)) = j at *
  grind -lia
theorem Base.kmul {d s x : K} {P : K × K} (B : Base d s x P) (f : Nat → Bool) : kmul f x = kx s (mu d P (nb f 255)).2 := (lad_key B f 255).1.quo
theorem s_ne {s : K} (h : s = 1 ∨ s = -1) : s ≠ 0 := by rcases h with rfl | rfl <;> decide
theorem kx_one (s : K) : kx s 1 = 0 := by
  unfold kx
  rw [show s * ((1 : K) - 1) = 0 by grind -lia, ki_zero]
  grind -lia
theorem kx_neg (s : K) : kx s (-1) = 0 := by
  unfold kx
  generalize ki (s * (1 - -1)) = j
  grind -lia
/-- The three last bits are none. -/
def Lw (f : Nat → Bool) : Prop := f 252 = false ∧ f 253 = false ∧ f 254 = false
theorem kmul_zero {f : Nat → Bool} (h : Lw f) : kmul f 0 = 0 := by
  have := five_zero tab0 h.1 h.2.1 h.2.2
  exact this
theorem Lw.mod {f : Nat → Bool} (h : Lw f) : nb f 255 % 8 = 0 := by
  have a1 : nb f 255 = 2 * nb f 254 + (f 254).toNat := nb_succ f 254
  have a2 : nb f 254 = 2 * nb f 253 + (f 253).toNat := nb_succ f 253
  have a3 : nb f 253 = 2 * nb f 252 + (f 252).toNat := nb_succ f 252
  rw [h.2.2] at a1
  rw [h.2.1] at a2
  rw [h.1] at a3
  simp only [Bool.toNat_false] at a1 a2 a3
  omega
theorem mu_two {d : K} (hd : NS d) {P : K × K} (h : On d P) (hv : P.2 = -1) : mu d P 2 = o0 := by
  have hu : P.1 = 0 := on_one hd h (by rw [hv]; decide)
  have hP : P = ng P := by
    unfold ng
    refine Prod.ext ?_ rfl
    dsimp only
    rw [hu]
    decide
  rw [show (2 : Nat) = 1 + 1 from rfl, mu_add hd h, mu_one]
  conv => lhs; arg 3; rw [hP]
  exact pl_ng hd h
theorem kmul_gen {q d s : K} (hs : Sg (kof 121665) d s) (hd : NS d) {P : K × K} (h : On d P) {f : Nat → Bool} (hf : Lw f) : kmul f (kx s P.2) = kx s (mu d P (nb f 255)).2 := by
  by_cases h1 : P.2 = 1
  · have hu : P.1 = 0 := on_one hd h (by rw [h1]; decide)
    have hP : P = o0 := Prod.ext hu h1
    rw [h1, kx_one, kmul_zero hf, hP, mu_o0]
    exact (kx_one s).symm
  · by_cases h2 : P.2 = -1
    · have hm := hf.mod
      obtain ⟨k, hk⟩ : ∃ k, nb f 255 = 2 * k := ⟨nb f 255 / 2, by omega⟩
      rw [h2, kx_neg, kmul_zero hf, hk, ← mu_mul hd h, mu_two hd h h2, mu_o0]
      exact (kx_one s).symm
    · have n1 : s * (1 - P.2) ≠ 0 := k_mul_ne (s_ne hs.two) (fun e => h1 (by generalize P.2 = v at *; grind -lia))
      have hi := ki_mul n1
      have hx : kx s P.2 * (s * (1 - P.2)) = 1 + P.2 := by
        unfold kx
        generalize ki (s * (1 - P.2)) = i at *
        generalize s * (1 - P.2) = z at *
        grind -lia
      refine Base.kmul ⟨hs, hd, h, hx, ?_, h1⟩ f
      intro e
      rw [e] at hx
      exact h2 (by generalize P.2 = v at *; grind -lia)
/-! ### Squares -/
theorem sq_of {t : K} (h : kp t 14474011154664524427946373126085988481658748083205070504932198000989141204987 * kp t 14474011154664524427946373126085988481658748083205070504932198000989141204987 = 1) : ∃ z : K, z * z = t := by
  have e : kp t 7237005577332262213973186563042994240829374041602535252466099000494570602494 * kp t 7237005577332262213973186563042994240829374041602535252466099000494570602494 = kp t 14474011154664524427946373126085988481658748083205070504932198000989141204987 * t := by
    rw [← kp_add, show 7237005577332262213973186563042994240829374041602535252466099000494570602494 + 7237005577332262213973186563042994240829374041602535252466099000494570602494 = 14474011154664524427946373126085988481658748083205070504932198000989141204987 + 1 from by decide +kernel, kp_succ]
  have hI := kI_sq
  have h2 : (kp t 14474011154664524427946373126085988481658748083205070504932198000989141204987 - 1) * (kp t 14474011154664524427946373126085988481658748083205070504932198000989141204987 + 1) = 0 := by
    generalize kp t 14474011154664524427946373126085988481658748083205070504932198000989141204987 = c at *
    grind -lia
  generalize kp t 14474011154664524427946373126085988481658748083205070504932198000989141204987 = c at *
  generalize kp t 7237005577332262213973186563042994240829374041602535252466099000494570602494 = r at *
  rcases k_int h2 with h3 | h3
  · exact ⟨r, by grind -lia⟩
  · exact ⟨r * kI, by generalize kI = j at *; grind -lia⟩
theorem sq_or {t : K} (ht : t ≠ 0) : ∃ z : K, z * z = t ∨ z * z = 2 * t := by
  have h4 : kp t 14474011154664524427946373126085988481658748083205070504932198000989141204987 * kp t 14474011154664524427946373126085988481658748083205070504932198000989141204987 * (kp t 14474011154664524427946373126085988481658748083205070504932198000989141204987 * kp t 14474011154664524427946373126085988481658748083205070504932198000989141204987) = 1 := by
    rw [← kp_add, ← kp_add, show 14474011154664524427946373126085988481658748083205070504932198000989141204987 + 14474011154664524427946373126085988481658748083205070504932198000989141204987 + (14474011154664524427946373126085988481658748083205070504932198000989141204987 + 14474011154664524427946373126085988481658748083205070504932198000989141204987) = 57896044618658097711785492504343953926634992332820282019728792003956564819948 from by decide +kernel, kp_fermat ht]
  have e2 : kp (2 * t) 14474011154664524427946373126085988481658748083205070504932198000989141204987 = kI * kp t 14474011154664524427946373126085988481658748083205070504932198000989141204987 := by rw [kp_mulb]; rfl
  have hI := kI_sq
  by_cases h : kp t 14474011154664524427946373126085988481658748083205070504932198000989141204987 * kp t 14474011154664524427946373126085988481658748083205070504932198000989141204987 = 1
  · obtain ⟨z, hz⟩ := sq_of h
    exact ⟨z, .inl hz⟩
  · have h5 : (kp t 14474011154664524427946373126085988481658748083205070504932198000989141204987 * kp t 14474011154664524427946373126085988481658748083205070504932198000989141204987 - 1) * (kp t 14474011154664524427946373126085988481658748083205070504932198000989141204987 * kp t 14474011154664524427946373126085988481658748083205070504932198000989141204987 + 1) = 0 := by
      generalize kp t 14474011154664524427946373126085988481658748083205070504932198000989141204987 = c at *
      grind -lia
    have h6 : kp t 14474011154664524427946373126085988481658748083205070504932198000989141204987 * kp t 14474011154664524427946373126085988481658748083205070504932198000989141204987 = -1 := by
      generalize kp t 14474011154664524427946373126085988481658748083205070504932198000989141204987 * kp t 14474011154664524427946373126085988481658748083205070504932198000989141204987 = c at *
      rcases k_int h5 with k | k
      · exact absurd (by grind -lia) h
      · grind -lia
    obtain ⟨z, hz⟩ := sq_of (t := 2 * t) (by
      rw [e2]
      generalize kp t 14474011154664524427946373126085988481658748083205070504932198000989141204987 = c at *
      generalize kI = j at *
      grind -lia)
    exact ⟨z, .inr hz⟩
theorem two_half : kp (kof 2) 28948022309329048855892746252171976963317496166410141009864396001978282409974 = -1 := by
  have e : kp (kof 2) 28948022309329048855892746252171976963317496166410141009864396001978282409974 = kof 57896044618658097711785492504343953926634992332820282019728792003956564819948 := kp_pwm (by decide +kernel) (by decide +kernel)
  rw [e]
  decide +kernel
theorem two_ns : NS 2 := by
  intro z hz
  have h2 : kp (z * z) 28948022309329048855892746252171976963317496166410141009864396001978282409974 = -1 := by rw [hz]; exact two_half
  have z0 : z ≠ 0 := by rintro rfl; exact k_two_ne (by rw [← hz]; decide)
  rw [kp_mulb, ← kp_add, show 28948022309329048855892746252171976963317496166410141009864396001978282409974 + 28948022309329048855892746252171976963317496166410141009864396001978282409974 = 57896044618658097711785492504343953926634992332820282019728792003956564819948 from by decide +kernel, kp_fermat z0] at h2
  exact absurd h2 (by decide)
theorem no_two {a b : K} (hb : b ≠ 0) (h : a * a = 2 * (b * b)) : False := by
  have hi := ki_mul hb
  refine two_ns (a * ki b) ?_
  generalize ki b = i at *
  grind -lia
def cE : K := kof 53349024335595116287218880480235248380932224208407348260407321313250266849793
def cG : K := kof 3231395578068798723786297301791667760710788514184482256586454388342869372729
theorem cE_sq : cE * cE = kof 121665 + 1 := by unfold cE; decide +kernel
theorem cG_sq : 2 * (cG * cG) = kof 121665 := by unfold cG; decide +kernel
theorem v1_ne {x s v : K} (h : x * (s * (1 - v)) = 1 + v) : v ≠ 1 := by
  rintro rfl
  exact k_two_ne (by grind -lia)
theorem on_mk {d u v h w n m k : K} (hh : h ≠ 0) (hw : w ≠ 0) (hu : u * h = n) (hv : v * w = m) (hk : d * (n * n) = k) (H : n * n * (w * w) + m * m * (h * h) = h * h * (w * w) + k * (m * m)) : On d (u, v) := by
  subst hk hu hv
  unfold On
  dsimp only
  refine k_cancel (k_mul_ne (k_mul_ne hh hh) (k_mul_ne hw hw)) ?_
  grind -lia
theorem base_ex {x : K} (hx : x ≠ 0) : ∃ (d s : K) (P : K × K), Base d s x P := by
  have hE := cE_sq
  have hG := cG_sq
  have hq := q_ne
  have hq1 := q1_ne
  have e0 : cE ≠ 0 := by intro e; rw [e] at hE; exact hq1 (by rw [← hE]; decide)
  have g0 : cG ≠ 0 := by intro e; rw [e] at hG; exact hq (by rw [← hG]; decide)
  have sgv : ∀ d s : K, Sg (kof 121665) d s → (∃ P : K × K, NS d ∧ On d P ∧ x * (s * (1 - P.2)) = 1 + P.2) → ∃ (d s : K) (P : K × K), Base d s x P := by
    rintro d s hs ⟨P, h1, h2, h3⟩
    exact ⟨d, s, P, hs, h1, h2, h3, hx, v1_ne h3⟩
  generalize kof 121665 = q at *
  generalize cE = e at *
  generalize cG = g at *
  have f0 : x * (x * x + (4 * q + 2) * x + 1) ≠ 0 := by
    refine k_mul_ne hx (fun h => ?_)
    refine no_two (a := 2 * x + (4 * q + 2)) (b := 4 * (e * g)) (k_mul_ne k4_ne (k_mul_ne e0 g0)) ?_
    have t1 : (2 * x + (4 * q + 2)) * (2 * x + (4 * q + 2)) = 4 * (x * x + (4 * q + 2) * x + 1) + 16 * (q * (q + 1)) := by grind -lia
    rw [t1, h]
    grind -lia
  have hie := ki_mul e0
  have hig := ki_mul g0
  generalize ki e = ie at *
  generalize ki g = ig at *
  obtain ⟨h, hh⟩ := sq_or f0
  have h0 : h ≠ 0 := by
    rintro rfl
    rcases hh with k | k
    · exact f0 (by rw [← k]; decide)
    · exact f0 (k_half (by rw [← k]; decide))
  have hih := ki_mul h0
  generalize ki h = ih at *
  rcases hh with hh | hh
  · have w0 : x + 1 ≠ 0 := by
      intro w
      refine no_two (a := h) (b := 2 * g) (k_mul_ne k_two_ne g0) ?_
      have : x = -1 := by grind -lia
      subst this
      grind -lia
    have hiw := ki_mul w0
    generalize ki (x + 1) = iw at *
    refine sgv (2 * (g * ie) * (g * ie)) 1 (.inl ⟨rfl, by grind -lia⟩) ⟨(2 * e * x * ih, (x - 1) * iw), ?_, ?_, ?_⟩
    · intro z hz
      refine no_two (a := z) (b := g * ie) (k_mul_ne g0 (by rintro rfl; exact k_one_ne (by grind -lia))) (by rw [hz]; grind -lia)
    · refine on_mk (h := h) (w := x + 1) (n := 2 * e * x) (m := x - 1) (k := 4 * (2 * (g * g)) * (x * x)) h0 w0 ?_ ?_ ?_ ?_
      · clear sgv f0 hh hE hG hie hig hiw
        grind -lia
      · clear sgv f0 hh hE hG hie hig hih
        grind -lia
      · clear sgv f0 hh hE hG hih hig hiw
        grind -lia
      · rw [hh, hG]
        clear sgv f0 hh hie hih hig hiw hG
        grind -lia
    · dsimp only
      grind -lia
  · have w0 : 1 - x ≠ 0 := by
      intro w
      refine no_two (a := h) (b := 2 * e) (k_mul_ne k_two_ne e0) ?_
      have : x = 1 := by grind -lia
      subst this
      grind -lia
    have hiw := ki_mul w0
    have i2 := ki_mul k_two_ne
    generalize ki (1 - x) = iw at *
    generalize ki (2 : K) = hf at *
    refine sgv (hf * (e * ig) * (e * ig)) (-1) (.inr ⟨rfl, by grind -lia⟩) ⟨(4 * g * x * ih, (-x - 1) * iw), ?_, ?_, ?_⟩
    · intro z hz
      refine no_two (a := e * ig) (b := z) ?_ (by rw [hz]; grind -lia)
      rintro rfl
      have k1 : e * e * (ig * ig) * hf = 0 := by grind -lia
      have k2 : (e * e * (ig * ig) * hf) * (2 * ie * ie * (g * g)) = 1 := by grind -lia
      rw [k1] at k2
      exact k_one_ne (by grind -lia)
    · refine on_mk (h := h) (w := 1 - x) (n := 4 * g * x) (m := -x - 1) (k := 8 * (e * e) * (x * x)) h0 w0 ?_ ?_ ?_ ?_
      · clear sgv f0 hh hE hG hie hig hiw i2
        grind -lia
      · clear sgv f0 hh hE hG hie hig hih i2
        grind -lia
      · clear sgv f0 hh hE hG hih hie hiw
        grind -lia
      · rw [hh, hE]
        have hG2 : 16 * (g * g) = 8 * q := by rw [← hG]; clear sgv f0 hh hE hG hih hie hiw hig i2; grind -lia
        clear sgv f0 hh hie hih hig hiw hG hE i2
        grind -lia
    · dsimp only
      grind -lia
/-- The order of two secrets does not matter. -/
theorem kmul_comm {f g : Nat → Bool} (hf : Lw f) (hg : Lw g) (x : K) : kmul f (kmul g x) = kmul g (kmul f x) := by
  by_cases hx : x = 0
  · subst hx
    rw [kmul_zero hf, kmul_zero hg, kmul_zero hf]
  · obtain ⟨d, s, P, B⟩ := base_ex hx
    rw [B.kmul g, B.kmul f, kmul_gen (q := 0) B.sg B.ns (mu_on B.ns B.on _) hf, kmul_gen (q := 0) B.sg B.ns (mu_on B.ns B.on _) hg, mu_mul B.ns B.on, mu_mul B.ns B.on, Nat.mul_comm]
theorem lsec_lw {s : List Nat} (hl : s.length = 32) : Lw (lbit (lsec s)) := ⟨lsec_low hl (by decide) (by decide), lsec_low hl (by decide) (by decide), lsec_low hl (by decide) (by decide)⟩
theorem kl_twice {a b p : List Nat} (hp : p.length = 32) (hp' : Lt 256 p) : kl a (lmul b p) = kmul (lbit (lsec a)) (kl b p) := by
  rw [lmul_k hp hp']
  unfold kl
  rw [lpnt_k]
theorem lmul_lt {s p : List Nat} (hl : p.length = 32) (hp : Lt 256 p) : Lt 256 (lmul s p) := by rw [lmul_k hl hp]; exact digs_lt (by decide) _ _
theorem lml {s p : List Nat} (hl : p.length = 32) (hp : Lt 256 p) : (lmul s p).length = 32 := by rw [lmul_k hl hp]; exact digs_len _ _ _
theorem chain {a b p : List Nat} (ha : a.length = 32) (hb : b.length = 32) (hp : p.length = 32) (hp' : Lt 256 p) : lmul a (lmul b p) = lmul b (lmul a p) := by
  rw [lmul_k (lml hp hp') (lmul_lt hp hp'), lmul_k (s := b) (lml hp hp') (lmul_lt hp hp'), kl_twice hp hp', kl_twice hp hp']
  unfold kl
  rw [kmul_comm (lsec_lw ha) (lsec_lw hb)]
end Go.Proofs.Ytnfiiclmbiiokaa
