/-
  Plain: the laws of the field.
-/
import Derived.Test.YtnfiiclmbiiokaaXa
import Derived.Test.YtnfiiclmbiiokaaPe
import Derived.Test.YtnfiiclmbiiokaaPg
namespace Go.Proofs.Ytnfiiclmbiiokaa
open Go Go.Fx
set_option linter.unusedVariables false
set_option linter.unusedSimpArgs false
theorem bytes_load {b : List Nat} (hl : b.length = 32) (hb : Lt 256 b) : fbytes (load b) = digs 256 32 (val 256 b % 57896044618658097711785492504343953926634992332820282019728792003956564819949) := by
  obtain ⟨h1, h2⟩ := load_val hl hb
  rw [fbytes_val h1, h2, kof_val]
theorem fof_val {n : Nat} (h : n < 256) : Fe (fof n) ∧ kv (fof n) = kof n := by
  have e : fof n = load (n :: List.replicate 31 0) := by unfold fof; rfl
  have hb : Lt 256 (n :: List.replicate 31 0) := Lt.of_mem (by decide) (by
    intro x hx
    simp only [List.mem_cons, List.mem_replicate] at hx
    omega)
  obtain ⟨h1, h2⟩ := load_val (b := n :: List.replicate 31 0) rfl hb
  rw [e]
  refine ⟨h1, h2.trans ?_⟩
  rw [val_cons, val_replicate, Nat.mul_zero, Nat.add_zero]
theorem lb_eq {a : List Nat} (hl : a.length = 32) (ha : Lt 256 a) : fbytes (load a) = rbytes (rload a) := by
  rw [bytes_load hl ha, rload_val hl ha, rbytes_val, kof_val]
/-- The number that bytes are. -/
def ko (a : List Nat) : K := kof (val 256 a)
theorem ld {a : List Nat} (hl : a.length = 32) (ha : Lt 256 a) : Fe (load a) ∧ kv (load a) = ko a := load_val hl ha
theorem rd {a : List Nat} (hl : a.length = 32) (ha : Lt 256 a) : rload a = nk (ko a) := rload_val hl ha
theorem mod2 {x y : Nat} : (x % 2 = 1) ↔ (x % 256 % 2 = 1) := by omega
theorem loads_odd {a : List Nat} (hl : a.length = 32) (ha : Lt 256 a) : (odd (load a) == decide ((rbytes (rload a)).getD 0 0 % 2 = 1)) = true := by
  obtain ⟨h1, h2⟩ := ld hl ha
  rw [odd_val h1, h2, rd hl ha, rbytes_val, digs_getD (by decide), Nat.pow_zero, Nat.div_one]
  rw [decide_eq_decide.2 (show ((ko a).val % 2 = 1) ↔ ((ko a).val % 256 % 2 = 1) by omega)]
  exact beq_self_eq_true _
theorem loads_same {a b : List Nat} (hl : a.length = 32) (hl' : b.length = 32) (ha : Lt 256 a) (hb : Lt 256 b) : (same (load a) (load b) == decide (rbytes (rload a) = rbytes (rload b))) = true := by
  obtain ⟨h1, h2⟩ := ld hl ha
  obtain ⟨h3, h4⟩ := ld hl' hb
  rw [same_val h1 h3, h2, h4, rd hl ha, rd hl' hb, rbytes_val, rbytes_val, decide_eq_decide.2 digs_kv]
  exact beq_self_eq_true _
theorem loads_pick {a b : List Nat} (hl : a.length = 32) (hl' : b.length = 32) (ha : Lt 256 a) (hb : Lt 256 b) (f : Bool) : fbytes (pick (load a) (load b) f) = if f = true then rbytes (rload a) else rbytes (rload b) := by
  rw [pick_all (ld hl ha).1 (ld hl' hb).1]
  split
  · exact lb_eq hl ha
  · exact lb_eq hl' hb
theorem fb_len {x : List Nat} (h : Fe x) : (fbytes x).length = 32 := by rw [fbytes_val h]; exact digs_len _ _ _
theorem fb_lt {x : List Nat} (h : Fe x) : Lt 256 (fbytes x) := by rw [fbytes_val h]; exact digs_lt (by decide) _ _
theorem load_fb {x : List Nat} (h : Fe x) : Fe (load (fbytes x)) ∧ kv (load (fbytes x)) = kv x := by
  obtain ⟨h1, h2⟩ := load_val (fb_len h) (fb_lt h)
  refine ⟨h1, h2.trans ?_⟩
  rw [fbytes_val h, val_digs (by decide), Nat.mod_eq_of_lt (Nat.lt_trans (kv x).isLt (by decide)), kof_of]
theorem fb_load_fb {x : List Nat} (h : Fe x) : fbytes (load (fbytes x)) = fbytes x := by
  obtain ⟨h1, h2⟩ := load_fb h
  rw [fbytes_val h1, h2, ← fbytes_val h]
theorem loads_again {a : List Nat} (hl : a.length = 32) (ha : Lt 256 a) : fbytes (load (fbytes (load a))) = rbytes (rload a) := by
  rw [fb_load_fb (ld hl ha).1]
  exact lb_eq hl ha
/-- A number's bytes are the document's. -/
theorem fb_rb {x : List Nat} (h : Fe x) {y : K} (e : kv x = y) : fbytes x = rbytes (nk y) := by rw [fbytes_val h, rbytes_val, e]
theorem t_add {a b : List Nat} (hl : a.length = 32) (hl' : b.length = 32) (ha : Lt 256 a) (hb : Lt 256 b) : fbytes (add (load a) (load b)) = rbytes (radd (rload a) (rload b)) := by
  obtain ⟨h1, h2⟩ := ld hl ha
  obtain ⟨h3, h4⟩ := ld hl' hb
  obtain ⟨h5, h6⟩ := add_val h1 h3
  rw [rd hl ha, rd hl' hb, radd_val]
  exact fb_rb h5 (by rw [h6, h2, h4])
theorem t_sub {a b : List Nat} (hl : a.length = 32) (hl' : b.length = 32) (ha : Lt 256 a) (hb : Lt 256 b) : fbytes (sub (load a) (load b)) = rbytes (rsub (rload a) (rload b)) := by
  obtain ⟨h1, h2⟩ := ld hl ha
  obtain ⟨h3, h4⟩ := ld hl' hb
  obtain ⟨h5, h6⟩ := sub_val h1 h3
  rw [rd hl ha, rd hl' hb, rsub_val]
  exact fb_rb h5 (by rw [h6, h2, h4])
theorem t_mul {a b : List Nat} (hl : a.length = 32) (hl' : b.length = 32) (ha : Lt 256 a) (hb : Lt 256 b) : fbytes (mul (load a) (load b)) = rbytes (rmul (rload a) (rload b)) := by
  obtain ⟨h1, h2⟩ := ld hl ha
  obtain ⟨h3, h4⟩ := ld hl' hb
  obtain ⟨h5, h6⟩ := mul_val h1 h3
  rw [rd hl ha, rd hl' hb, rmul_val]
  exact fb_rb h5 (by rw [h6, h2, h4])
theorem t_sqr {a : List Nat} (hl : a.length = 32) (ha : Lt 256 a) : fbytes (sqr (load a)) = rbytes (rmul (rload a) (rload a)) := by
  obtain ⟨h1, h2⟩ := ld hl ha
  obtain ⟨h5, h6⟩ := sqr_val h1
  rw [rd hl ha, rmul_val]
  exact fb_rb h5 (by rw [h6, h2])
theorem t_neg {a : List Nat} (hl : a.length = 32) (ha : Lt 256 a) : fbytes (neg (load a)) = rbytes (rsub (List.replicate 16 0) (rload a)) := by
  obtain ⟨h1, h2⟩ := ld hl ha
  obtain ⟨h5, h6⟩ := neg_val h1
  rw [rd hl ha, nk_zero, rsub_val]
  refine fb_rb h5 ?_
  rw [h6, h2]
  grind
theorem t_inv {a : List Nat} (hl : a.length = 32) (ha : Lt 256 a) : fbytes (inv (load a)) = rbytes (rinv (rload a)) := by
  obtain ⟨h1, h2⟩ := ld hl ha
  obtain ⟨h5, h6⟩ := inv_val h1
  rw [rd hl ha, rinv_val]
  exact fb_rb h5 (by rw [h6, h2])
theorem t_ratio {a b : List Nat} (hl : a.length = 32) (hl' : b.length = 32) (ha : Lt 256 a) (hb : Lt 256 b) : fbytes (ratio (load a) (load b)).1 = rbytes (rratio (rload a) (rload b)).1 := by
  obtain ⟨h1, h2⟩ := ld hl ha
  obtain ⟨h3, h4⟩ := ld hl' hb
  obtain ⟨h5, h6, _⟩ := ratio_val h1 h3
  rw [rd hl ha, rd hl' hb, rratio_val]
  exact fb_rb h5 (by rw [h6, h2, h4, pratio_eq])
theorem t_ratio2 {a b : List Nat} (hl : a.length = 32) (hl' : b.length = 32) (ha : Lt 256 a) (hb : Lt 256 b) : ((ratio (load a) (load b)).2 == (rratio (rload a) (rload b)).2) = true := by
  obtain ⟨h1, h2⟩ := ld hl ha
  obtain ⟨h3, h4⟩ := ld hl' hb
  obtain ⟨_, _, h7⟩ := ratio_val h1 h3
  rw [rd hl ha, rd hl' hb, rratio_val, h7, h2, h4, pratio_eq]
  exact beq_self_eq_true _
end Go.Proofs.Ytnfiiclmbiiokaa
