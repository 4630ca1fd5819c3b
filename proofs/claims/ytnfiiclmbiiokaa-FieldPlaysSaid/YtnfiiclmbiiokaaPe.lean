/-
  Plain: powers, inverses, roots of the program's.
-/
import Derived.Test.YtnfiiclmbiiokaaPd
namespace Go.Proofs.Ytnfiiclmbiiokaa
open Go Go.Fx
set_option linter.unusedVariables false
set_option linter.unusedSimpArgs false
theorem sqr_val {x : List Nat} (hx : Fe x) : Fe (sqr x) ∧ kv (sqr x) = kv x * kv x := by
  unfold sqr
  exact mul_val hx hx
/-- A power of a number. -/
def Pw (x : K) (z : List Nat) (n : Nat) : Prop := Fe z ∧ kv z = kp x n
theorem Pw.one {z : List Nat} (h : Fe z) : Pw (kv z) z 1 := ⟨h, (kp_one _).symm⟩
theorem Pw.cast {x : K} {z : List Nat} {m n : Nat} (h : Pw x z m) (e : m = n) : Pw x z n := e ▸ h
theorem Pw.mul {x : K} {a b : List Nat} {m n : Nat} (ha : Pw x a m) (hb : Pw x b n) : Pw x (mul a b) (m + n) := by
  obtain ⟨h1, h2⟩ := mul_val ha.1 hb.1
  exact ⟨h1, by rw [h2, ha.2, hb.2, kp_add]⟩
theorem Pw.sqr {x : K} {a : List Nat} {m : Nat} (ha : Pw x a m) : Pw x (sqr a) (m + m) := by
  obtain ⟨h1, h2⟩ := sqr_val ha.1
  exact ⟨h1, by rw [h2, ha.2, kp_add]⟩
theorem Pw.sqs {x : K} {a : List Nat} {m : Nat} (ha : Pw x a m) (n : Nat) : Pw x (sqs a n) (m * 2 ^ n) := by
  have : ∀ i, Pw x (sqs_it1 a i) (m * 2 ^ i) := by
    intro i
    induction i with
    | zero => rw [sqs_it1_z, Nat.pow_zero, Nat.mul_one]; exact ha
    | succ i ih =>
      rw [sqs_it1_s]
      unfold sqs_s1
      exact ih.sqr.cast (by rw [Nat.pow_succ, ← Nat.mul_assoc]; omega)
  unfold Go.Proofs.Ytnfiiclmbiiokaa.sqs
  exact this n
theorem chn_val {x : List Nat} (hx : Fe x) : Pw (kv x) (chn x).1 1809251394333065553493296640760748560207343510400633813116524750123642650623 ∧ Pw (kv x) (chn x).2 11 := by
  have h1 := Pw.one hx
  have two : Pw (kv x) (sqr x) 2 := h1.sqr
  have nine : Pw (kv x) (mul (sqs (sqr x) 2) x) 9 := ((two.sqs 2).mul h1).cast (by decide)
  have el : Pw (kv x) (mul (mul (sqs (sqr x) 2) x) (sqr x)) 11 := nine.mul two
  unfold chn
  dsimp only
  refine ⟨?_, el⟩
  generalize mul (mul (sqs (sqr x) 2) x) (sqr x) = eleven at *
  generalize mul (sqs (sqr x) 2) x = ni at *
  have a := (el.sqr.mul nine).cast (n := 31) (by decide)
  generalize mul (sqr eleven) ni = A at *
  have b := ((a.sqs 5).mul a).cast (n := 1023) (by decide)
  generalize mul (sqs A 5) A = B at *
  have c := ((b.sqs 10).mul b).cast (n := 1048575) (by decide)
  generalize mul (sqs B 10) B = C at *
  have d := ((c.sqs 20).mul c).cast (n := 1099511627775) (by decide)
  generalize mul (sqs C 20) C = D at *
  have e := ((d.sqs 10).mul b).cast (n := 1125899906842623) (by decide)
  generalize mul (sqs D 10) B = E at *
  have f := ((e.sqs 50).mul e).cast (n := 1267650600228229401496703205375) (by decide)
  generalize mul (sqs E 50) E = F at *
  have g := ((f.sqs 100).mul f).cast (n := 1606938044258990275541962092341162602522202993782792835301375) (by decide)
  generalize mul (sqs F 100) F = G at *
  exact ((g.sqs 50).mul e).cast (by decide)
theorem inv_val {x : List Nat} (hx : Fe x) : Fe (inv x) ∧ kv (inv x) = ki (kv x) := by
  obtain ⟨h1, h2⟩ := chn_val hx
  unfold inv ki
  exact ((h1.sqs 5).mul h2).cast (by decide)
theorem sml_val {n : Nat} (h : n < 4503599627370496) : Fe (sml n) ∧ kv (sml n) = kof n := by
  have e : sml n = [n, 0, 0, 0, 0] := by unfold sml; rfl
  rw [e]
  refine ⟨⟨rfl, lt5_mk h (by decide) (by decide) (by decide) (by decide)⟩, ?_⟩
  unfold kv
  rw [val5]
  simp only [Nat.mul_zero, Nat.add_zero]
theorem rr_val {u v : List Nat} (hu : Fe u) (hv : Fe v) : Fe (rr u v) ∧ kv (rr u v) = pr1 (kv u) (kv v) := by
  have h1 := sqr_val hv
  have h3 := mul_val h1.1 hv
  have h6 := sqr_val h3.1
  have h7 := mul_val h6.1 hv
  have ht := mul_val hu h7.1
  have hl := chn_val ht.1
  have hq := ((hl.1.sqs 2).mul (Pw.one ht.1)).cast (n := 7237005577332262213973186563042994240829374041602535252466099000494570602493) (by decide)
  have hu3 := mul_val hu h3.1
  have hr := mul_val hu3.1 hq.1
  unfold rr rlong rv3
  dsimp only
  refine ⟨hr.1, ?_⟩
  rw [hr.2, hu3.2, hq.2, ht.2, h7.2, h6.2, h3.2, h1.2]
  rfl
theorem rchk_val {u v : List Nat} (hu : Fe u) (hv : Fe v) : Fe (rchk u v) ∧ kv (rchk u v) = kv v * (pr1 (kv u) (kv v) * pr1 (kv u) (kv v)) := by
  obtain ⟨h1, h2⟩ := rr_val hu hv
  have h3 := sqr_val h1
  have h4 := mul_val hv h3.1
  unfold rchk
  exact ⟨h4.1, by rw [h4.2, h3.2, h2]⟩
theorem ki_pw : Fe (mul (sqs (mul (sqs ((chn (sml 2)).1) 2) (sml 2)) 1) (sml 2)) ∧ kv (mul (sqs (mul (sqs ((chn (sml 2)).1) 2) (sml 2)) 1) (sml 2)) = kI := by
  obtain ⟨h1, h2⟩ := sml_val (n := 2) (by decide)
  have hl := (chn_val h1).1
  have p1 := Pw.one h1
  have := (((((hl.sqs 2).mul p1)).sqs 1).mul p1).cast (n := 14474011154664524427946373126085988481658748083205070504932198000989141204987) (by decide)
  refine ⟨this.1, this.2.trans ?_⟩
  rw [h2]
  rfl
theorem rr2_cond {u v : List Nat} (hu : Fe u) (hv : Fe v) : ((same (rchk u v) (neg u)) = true) ∧ ((!(same u (List.replicate 5 0))) = true) ↔ (kv v * (pr1 (kv u) (kv v) * pr1 (kv u) (kv v)) = -kv u ∧ kv u ≠ 0) := by
  obtain ⟨h1, h2⟩ := rchk_val hu hv
  obtain ⟨h3, h4⟩ := neg_val hu
  rw [same_val h1 h3, same_val hu fe_zero, h2, h4, kv_zero]
  simp
theorem rr2_val {u v : List Nat} (hu : Fe u) (hv : Fe v) : Fe (rr2 u v) ∧ kv (rr2 u v) = pr2 (kv u) (kv v) := by
  obtain ⟨h1, h2⟩ := rr_val hu hv
  obtain ⟨h3, h4⟩ := ki_pw
  have hm := mul_val h1 h3
  unfold rr2 pr2
  by_cases h : kv v * (pr1 (kv u) (kv v) * pr1 (kv u) (kv v)) = -kv u ∧ kv u ≠ 0
  · rw [if_pos ((rr2_cond hu hv).2 h), if_pos h]
    exact ⟨hm.1, by rw [hm.2, h2, h4]⟩
  · rw [if_neg (fun k => h ((rr2_cond hu hv).1 k)), if_neg h]
    exact ⟨h1, h2⟩
theorem rchk2_val {u v : List Nat} (hu : Fe u) (hv : Fe v) : Fe (rchk2 u v) ∧ kv (rchk2 u v) = kv v * (pr2 (kv u) (kv v) * pr2 (kv u) (kv v)) := by
  obtain ⟨h1, h2⟩ := rr_val hu hv
  obtain ⟨h3, h4⟩ := ki_pw
  have hm := mul_val h1 h3
  have hs := sqr_val hm.1
  have hv2 := mul_val hv hs.1
  unfold rchk2 pr2
  by_cases h : kv v * (pr1 (kv u) (kv v) * pr1 (kv u) (kv v)) = -kv u ∧ kv u ≠ 0
  · rw [if_pos ((rr2_cond hu hv).2 h), if_pos h]
    exact ⟨hv2.1, by rw [hv2.2, hs.2, hm.2, h2, h4]⟩
  · rw [if_neg (fun k => h ((rr2_cond hu hv).1 k)), if_neg h]
    exact rchk_val hu hv
theorem ratio_val {u v : List Nat} (hu : Fe u) (hv : Fe v) : Fe (ratio u v).1 ∧ kv (ratio u v).1 = (pratio (kv u) (kv v)).1 ∧ (ratio u v).2 = (pratio (kv u) (kv v)).2 := by
  obtain ⟨h1, h2⟩ := rr2_val hu hv
  obtain ⟨h3, h4⟩ := rchk2_val hu hv
  obtain ⟨h5, h6⟩ := neg_val h1
  unfold ratio pratio
  rw [same_val h3 hu, h4]
  by_cases h : kv v * (pr2 (kv u) (kv v) * pr2 (kv u) (kv v)) = kv u
  · rw [if_neg (by rw [decide_eq_true h]; simp), if_pos h]
    dsimp only
    rw [pick_all h5 h1, odd_val h1]
    by_cases q : (kv (rr2 u v)).val % 2 = 1
    · rw [if_pos (decide_eq_true q)]
      refine ⟨h5, ?_, rfl⟩
      rw [h6, h2]
      rw [h2] at q
      unfold kodd
      rw [if_pos q]
    · rw [if_neg (by rw [decide_eq_false q]; simp)]
      refine ⟨h1, ?_, rfl⟩
      rw [h2]
      rw [h2] at q
      unfold kodd
      rw [if_neg q]
  · rw [if_pos (by rw [decide_eq_false h]; rfl), if_neg h]
    exact ⟨fe_zero, kv_zero, rfl⟩
end Go.Proofs.Ytnfiiclmbiiokaa
