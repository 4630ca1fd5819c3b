/-
  Plain: the ladder over the field.
-/
import Derived.Test.YtnfiiclmbiiokaaZb
import Derived.Test.YtnfiiclmbiiokaaZc
import Derived.Test.YtnfiiclmbiiokaaPi
namespace Go.Proofs.Ytnfiiclmbiiokaa
open Go Go.Fx
set_option linter.unusedVariables false
set_option linter.unusedSimpArgs false
/-- Four numbers: two points by their quotients. -/
structure K4 where
  a : K
  b : K
  c : K
  d : K
def K4.sw (f : Bool) (s : K4) : K4 := if f = true then ⟨s.c, s.d, s.a, s.b⟩ else s
def K4.core (x : K) (s : K4) : K4 :=
  ⟨((s.a + s.b) * (s.a + s.b)) * ((s.a - s.b) * (s.a - s.b)),
   ((s.a + s.b) * (s.a + s.b) - (s.a - s.b) * (s.a - s.b)) * ((s.a + s.b) * (s.a + s.b) + kof 121665 * ((s.a + s.b) * (s.a + s.b) - (s.a - s.b) * (s.a - s.b))),
   ((s.c + s.d) * (s.a - s.b) + (s.c - s.d) * (s.a + s.b)) * ((s.c + s.d) * (s.a - s.b) + (s.c - s.d) * (s.a + s.b)),
   x * (((s.c + s.d) * (s.a - s.b) - (s.c - s.d) * (s.a + s.b)) * ((s.c + s.d) * (s.a - s.b) - (s.c - s.d) * (s.a + s.b)))⟩
theorem K4.sw_sw (f : Bool) (s : K4) : (s.sw f).sw f = s := by cases f <;> rfl
theorem K4.sw_sw2 (f g : Bool) (s : K4) : (s.sw g).sw (!(f == g)) = s.sw f := by cases f <;> cases g <;> rfl
/-- The bit that a turn of the ladder looks at. -/
def lbit (s : List Nat) (i : Nat) : Bool := decide (((s.getD ((254 - i) / 8) 0) / 2 ^ ((254 - i) % 8)) &&& 1 = 1)
def klad (f : Nat → Bool) (x : K) : Nat → K4
  | 0 => ⟨1, 0, x, 1⟩
  | i + 1 => K4.sw (f i) (K4.core x (K4.sw (f i) (klad f x i)))
theorem klad_succ (f : Nat → Bool) (x : K) (i : Nat) : klad f x (i + 1) = K4.sw (f i) (K4.core x (K4.sw (f i) (klad f x i))) := rfl
def klast (f : Nat → Bool) : Nat → Bool
  | 0 => false
  | i + 1 => f i
/-- The ladder's answer. -/
def kmul (f : Nat → Bool) (x : K) : K := (klad f x 255).a * ki (klad f x 255).b
theorem klad_ext {f g : Nat → Bool} (x : K) : ∀ i, (∀ j, j < i → f j = g j) → klad f x i = klad g x i
  | 0, _ => rfl
  | i + 1, h => by rw [klad_succ, klad_succ, klad_ext x i (fun j hj => h j (by omega)), h i (by omega)]
theorem kmul_ext {f g : Nat → Bool} (x : K) (h : ∀ j, j < 255 → f j = g j) : kmul f x = kmul g x := by
  unfold kmul
  rw [klad_ext x 255 h]
/-! ### The program's ladder -/
structure Fe4 (a b c d : List Nat) (s : K4) : Prop where
  a : Fe a ∧ kv a = s.a
  b : Fe b ∧ kv b = s.b
  c : Fe c ∧ kv c = s.c
  d : Fe d ∧ kv d = s.d
theorem Fe4.turn {a b c d : List Nat} {s : K4} (h : Fe4 a b c d s) (f : Bool) : Fe4 (turn f c a d b).2.1 (turn f c a d b).2.2.2 (turn f c a d b).1 (turn f c a d b).2.2.1 (s.sw f) := by
  obtain ⟨h1, h2, h3, h4⟩ := h
  have e : Go.Proofs.Ytnfiiclmbiiokaa.turn f c a d b = (pick a c f, pick c a f, pick b d f, pick d b f) := by unfold Go.Proofs.Ytnfiiclmbiiokaa.turn; rfl
  rw [e]
  dsimp only
  rw [pick_all h1.1 h3.1, pick_all h3.1 h1.1, pick_all h2.1 h4.1, pick_all h4.1 h2.1]
  cases f
  · exact ⟨h1, h2, h3, h4⟩
  · exact ⟨h3, h4, h1, h2⟩
theorem c121665 : Fe (load ((((List.replicate 32 0).set 0 65).set 1 219).set 2 1)) ∧ kv (load ((((List.replicate 32 0).set 0 65).set 1 219).set 2 1)) = kof 121665 := by
  obtain ⟨h1, h2⟩ := load_val (b := (((List.replicate 32 0).set 0 65).set 1 219).set 2 1) rfl (Lt.of_mem (by decide) (by decide))
  exact ⟨h1, h2.trans (congrArg kof (by decide))⟩
theorem cOne : Fe (load ((List.replicate 32 0).set 0 1)) ∧ kv (load ((List.replicate 32 0).set 0 1)) = 1 := by
  obtain ⟨h1, h2⟩ := load_val (b := (List.replicate 32 0).set 0 1) rfl (Lt.of_mem (by decide) (by decide))
  exact ⟨h1, (h2.trans (congrArg kof (by decide))).trans kof_one⟩
theorem lmul_key {secret point : List Nat} {x : K} (hx : Fe (load (lpnt point)) ∧ kv (load (lpnt point)) = x) : ∀ i, (lmul_it1 secret point i).1 = klast (lbit (lsec secret)) i ∧
    Fe4 (lmul_it1 secret point i).2.1 (lmul_it1 secret point i).2.2.1 (lmul_it1 secret point i).2.2.2.1 (lmul_it1 secret point i).2.2.2.2 ((klad (lbit (lsec secret)) x i).sw (klast (lbit (lsec secret)) i))
  | 0 => ⟨rfl, ⟨cOne, vzero, hx, cOne⟩⟩
  | i + 1 => by
    obtain ⟨h1, h2⟩ := lmul_key (secret := secret) hx i
    rw [lmul_it1_s]
    generalize lmul_it1 secret point i = m at *
    have ht := h2.turn (!(lbit (lsec secret) i == m.1))
    rw [h1, K4.sw_sw2] at ht
    have ea : lta secret i m = (turn (!(lbit (lsec secret) i == m.1)) m.2.2.2.1 m.2.1 m.2.2.2.2 m.2.2.1).2.1 := by unfold lta lbit; rfl
    have eb : ltb secret i m = (turn (!(lbit (lsec secret) i == m.1)) m.2.2.2.1 m.2.1 m.2.2.2.2 m.2.2.1).2.2.2 := by unfold ltb lbit; rfl
    have ec : ltc secret i m = (turn (!(lbit (lsec secret) i == m.1)) m.2.2.2.1 m.2.1 m.2.2.2.2 m.2.2.1).1 := by unfold ltc lbit; rfl
    have ed : ltd secret i m = (turn (!(lbit (lsec secret) i == m.1)) m.2.2.2.1 m.2.1 m.2.2.2.2 m.2.2.1).2.2.1 := by unfold ltd lbit; rfl
    rw [h1] at ea eb ec ed
    rw [← ea, ← eb, ← ec, ← ed] at ht
    have e : lmul_s1 secret point i m = (lbit (lsec secret) i, (mul (sqr (add (lta secret i m) (ltb secret i m))) (sqr (sub (lta secret i m) (ltb secret i m)))),
      (mul (sub (sqr (add (lta secret i m) (ltb secret i m))) (sqr (sub (lta secret i m) (ltb secret i m)))) (add (sqr (add (lta secret i m) (ltb secret i m))) (mul (load ((((List.replicate 32 0).set 0 65).set 1 219).set 2 1)) (sub (sqr (add (lta secret i m) (ltb secret i m))) (sqr (sub (lta secret i m) (ltb secret i m))))))),
      (sqr (add (mul (add (ltc secret i m) (ltd secret i m)) (sub (lta secret i m) (ltb secret i m))) (mul (sub (ltc secret i m) (ltd secret i m)) (add (lta secret i m) (ltb secret i m))))),
      (mul (load (lpnt point)) (sqr (sub (mul (add (ltc secret i m) (ltd secret i m)) (sub (lta secret i m) (ltb secret i m))) (mul (sub (ltc secret i m) (ltd secret i m)) (add (lta secret i m) (ltb secret i m))))))) := by unfold lmul_s1 lbit; rfl
    rw [e]
    dsimp only
    generalize lta secret i m = va at *
    generalize ltb secret i m = vb at *
    generalize ltc secret i m = vc at *
    generalize ltd secret i m = vd at *
    refine ⟨rfl, ?_⟩
    rw [show klast (lbit (lsec secret)) (i + 1) = lbit (lsec secret) i from rfl, klad_succ, K4.sw_sw]
    obtain ⟨ha, hb, hc, hd⟩ := ht
    have hs := vadd ha hb
    have hf := vsub ha hb
    have hu := vadd hc hd
    have hv := vsub hc hd
    exact ⟨vmul (vsqr hs) (vsqr hf), vmul (vsub (vsqr hs) (vsqr hf)) (vadd (vsqr hs) (vmul c121665 (vsub (vsqr hs) (vsqr hf)))), vsqr (vadd (vmul hu hf) (vmul hv hs)), vmul hx (vsqr (vsub (vmul hu hf) (vmul hv hs)))⟩
theorem lmul_val {secret point : List Nat} {x : K} (hx : Fe (load (lpnt point)) ∧ kv (load (lpnt point)) = x) : lmul secret point = digs 256 32 (kmul (lbit (lsec secret)) x).val := by
  obtain ⟨h1, h2⟩ := lmul_key (secret := secret) hx 255
  have e : lmul secret point = fbytes (mul (turn (lmul_it1 secret point 255).1 (lmul_it1 secret point 255).2.2.2.1 (lmul_it1 secret point 255).2.1 (lmul_it1 secret point 255).2.2.2.2 (lmul_it1 secret point 255).2.2.1).2.1 (inv (turn (lmul_it1 secret point 255).1 (lmul_it1 secret point 255).2.2.2.1 (lmul_it1 secret point 255).2.1 (lmul_it1 secret point 255).2.2.2.2 (lmul_it1 secret point 255).2.2.1).2.2.2)) := by
    generalize hM : lmul_it1 secret point 255 = M
    unfold lmul
    subst hM
    rfl
  rw [e]
  unfold kmul
  generalize lmul_it1 secret point 255 = m at *
  generalize klad (lbit (lsec secret)) x 255 = s at *
  have ht := h2.turn m.1
  rw [h1, K4.sw_sw] at ht
  rw [h1]
  generalize turn (klast (lbit (lsec secret)) 255) m.2.2.2.1 m.2.1 m.2.2.2.2 m.2.2.1 = w at *
  have hr := vmul ht.a (vinv ht.b)
  rw [fbytes_val hr.1, hr.2]
/-! ### The document's ladder -/
structure Nk4 (a b c d : List Nat) (s : K4) : Prop where
  a : a = nk s.a
  b : b = nk s.b
  c : c = nk s.c
  d : d = nk s.d
theorem rlmul_key {secret point : List Nat} {x : K} (hx : rload (rlpnt point) = nk x) : ∀ i, Nk4 (rlmul_it1 secret point i).1 (rlmul_it1 secret point i).2.1 (rlmul_it1 secret point i).2.2.1 (rlmul_it1 secret point i).2.2.2 (klad (lbit (rlsec secret)) x i)
  | 0 => ⟨(rof_val (by decide)).trans (congrArg nk kof_one), (rof_val (by decide)).trans (congrArg nk kof_zero), hx, (rof_val (by decide)).trans (congrArg nk kof_one)⟩
  | i + 1 => by
    have h2 := rlmul_key (secret := secret) hx i
    rw [rlmul_it1_s]
    generalize rlmul_it1 secret point i = m at *
    have eb : (((((rlsec secret).getD ((255 - 1 - i) / 8) 0) / 2 ^ (((255 - 1 - i) % 8) % 18446744073709551616)) &&& 1) = 1) ↔ lbit (rlsec secret) i = true := by
      rw [show ((255 - 1 - i) % 8) % 18446744073709551616 = (254 - i) % 8 by omega, show 255 - 1 - i = 254 - i by omega]
      unfold lbit
      exact decide_eq_true_iff.symm
    have ht : Nk4 (rwa secret i m) (rwb secret i m) (rwc secret i m) (rwd secret i m) ((klad (lbit (rlsec secret)) x i).sw (lbit (rlsec secret) i)) := by
      by_cases hb : lbit (rlsec secret) i = true
      · rw [hb, ← rwa_pos secret i m (eb.2 hb), ← rwb_pos secret i m (eb.2 hb), ← rwc_pos secret i m (eb.2 hb), ← rwd_pos secret i m (eb.2 hb)]
        exact ⟨h2.c, h2.d, h2.a, h2.b⟩
      · have hb' : lbit (rlsec secret) i = false := by simpa using hb
        rw [hb', ← rwa_neg secret i m (fun k => hb (eb.1 k)), ← rwb_neg secret i m (fun k => hb (eb.1 k)), ← rwc_neg secret i m (fun k => hb (eb.1 k)), ← rwd_neg secret i m (fun k => hb (eb.1 k))]
        exact ⟨h2.a, h2.b, h2.c, h2.d⟩
    unfold rlmul_s1
    dsimp only
    generalize rwa secret i m = va at *
    generalize rwb secret i m = vb at *
    generalize rwc secret i m = vc at *
    generalize rwd secret i m = vd at *
    obtain ⟨ha, hb, hc, hd⟩ := ht
    have h1 := rof_val (n := 121665) (by decide)
    rw [klad_succ]
    generalize K4.sw (lbit (rlsec secret) i) (klad (lbit (rlsec secret)) x i) = s at *
    subst ha hb hc hd
    simp only [h1, hx, radd_val, rsub_val, rmul_val]
    by_cases hb : lbit (rlsec secret) i = true
    · rw [if_pos (eb.2 hb), hb]
      exact ⟨rfl, rfl, rfl, rfl⟩
    · have hb' : lbit (rlsec secret) i = false := by simpa using hb
      rw [if_neg (fun k => hb (eb.1 k)), hb']
      exact ⟨rfl, rfl, rfl, rfl⟩
theorem rlmul_val {secret point : List Nat} {x : K} (hx : rload (rlpnt point) = nk x) : rlmul secret point = digs 256 32 (kmul (lbit (rlsec secret)) x).val := by
  have h2 := rlmul_key (secret := secret) hx 255
  have e : rlmul secret point = rbytes (rmul (rlmul_it1 secret point 255).1 (rinv (rlmul_it1 secret point 255).2.1)) := by
    generalize hM : rlmul_it1 secret point 255 = M
    unfold rlmul
    subst hM
    rfl
  rw [e]
  unfold kmul
  generalize rlmul_it1 secret point 255 = m at *
  generalize klad (lbit (rlsec secret)) x 255 = s at *
  rw [h2.a, h2.b, rinv_val, rmul_val, rbytes_val]
/-! ### Both are one -/
theorem lsec_eq (s : List Nat) : lsec s = rlsec s := by unfold lsec rlsec; rfl
theorem lpnt_eq (s : List Nat) : lpnt s = rlpnt s := by unfold lpnt rlpnt; rfl
theorem lpnt_lt {s : List Nat} (h : Lt 256 s) : Lt 256 (lpnt s) := by
  unfold lpnt
  exact h.set (Nat.lt_of_le_of_lt Nat.and_le_right (by decide))
/-- The ladder told by numbers. -/
def kl (s p : List Nat) : K := kmul (lbit (lsec s)) (ko (lpnt p))
theorem lmul_k {s p : List Nat} (hl : p.length = 32) (hp : Lt 256 p) : lmul s p = digs 256 32 (kl s p).val :=
  lmul_val (ld ((lpnt_len p).trans hl) (lpnt_lt hp))
theorem rlmul_k {s p : List Nat} (hl : p.length = 32) (hp : Lt 256 p) : rlmul s p = digs 256 32 (kl s p).val := by
  unfold kl
  rw [lsec_eq]
  exact rlmul_val (by rw [← lpnt_eq]; exact rd ((lpnt_len p).trans hl) (lpnt_lt hp))
theorem lmul_eq {s p : List Nat} (hl : p.length = 32) (hp : Lt 256 p) : lmul s p = rlmul s p := by
  rw [lmul_k hl hp, rlmul_k hl hp]
end Go.Proofs.Ytnfiiclmbiiokaa
