/-
  Plain: the roots of the primes are the constants.
-/
import Derived.Test.YtjgcmfedofmkpaaRb
import Derived.Test.YtjgcmfedofmkpaaRc
import Derived.Test.YtjgcmfedofmkpaaWd
namespace Go.Proofs.Ytjgcmfedofmkpaa
open Go Go.Fx
set_option linter.unusedVariables false
set_option linter.unusedSimpArgs false
/-- A bit more. -/
def tr (m : List Nat) (b : Nat) : List Nat := m.set (b / 16) ((m.getD (b / 16) 0 + (1 * 2 ^ (b % 16 % 18446744073709551616) % 18446744073709551616)) % 18446744073709551616)
theorem p16 (b : Nat) : 65536 ^ (b / 16) * 2 ^ (b % 16) = 2 ^ b := by
  rw [show (65536 : Nat) = 2 ^ 16 from rfl, ← Nat.pow_mul, ← Nat.pow_add]
  congr 1
  omega
theorem dig_low {R b : Nat} (h : R % 2 ^ (b + 1) = 0) : R / 65536 ^ (b / 16) % 65536 + 2 ^ (b % 16) < 65536 := by
  obtain ⟨t, ht⟩ : ∃ t, R = 2 ^ (b + 1) * t := ⟨R / 2 ^ (b + 1), by have := Nat.div_add_mod R (2 ^ (b + 1)); omega⟩
  have e1 : 2 ^ (b + 1) = 65536 ^ (b / 16) * 2 ^ (b % 16 + 1) := by rw [Nat.pow_succ, Nat.pow_succ, ← p16 b, Nat.mul_assoc]
  have e2 : R / 65536 ^ (b / 16) = 2 ^ (b % 16 + 1) * t := by
    rw [ht, e1, Nat.mul_assoc, Nat.mul_div_cancel_left _ (Nat.pow_pos (by decide))]
  have he : b % 16 < 16 := Nat.mod_lt _ (by decide)
  generalize b % 16 = e at *
  have e3 : (65536 : Nat) = 2 ^ (e + 1) * 2 ^ (15 - e) := by
    rw [← Nat.pow_add, show e + 1 + (15 - e) = 16 by omega]
  have e4 : 2 ^ (e + 1) * t % 65536 = 2 ^ (e + 1) * (t % 2 ^ (15 - e)) := by
    conv => lhs; rw [e3]
    exact Nat.mul_mod_mul_left _ _ _
  rw [e2, e4]
  have h5 : t % 2 ^ (15 - e) < 2 ^ (15 - e) := Nat.mod_lt _ (Nat.pow_pos (by decide))
  have h6 : 2 ^ (e + 1) * (t % 2 ^ (15 - e) + 1) ≤ 2 ^ (e + 1) * 2 ^ (15 - e) := Nat.mul_le_mul_left _ h5
  have h7 : 2 ^ (e + 1) = 2 ^ e + 2 ^ e := by rw [Nat.pow_succ]; omega
  have h8 : 0 < 2 ^ e := Nat.pow_pos (by decide)
  rw [← e3, Nat.mul_add, Nat.mul_one] at h6
  omega
theorem tr_digs {R b : Nat} (hb : b < 69) (h : R % 2 ^ (b + 1) = 0) (hR : R + 2 ^ b < 65536 ^ 20) : tr (digs 65536 20 R) b = digs 65536 20 (R + 2 ^ b) := by
  have hd := dig_low h
  have hi : b / 16 < 20 := by omega
  have he : b % 16 < 16 := Nat.mod_lt _ (by decide)
  have e1 : 1 * 2 ^ (b % 16 % 18446744073709551616) % 18446744073709551616 = 2 ^ (b % 16) := by
    rw [Nat.one_mul, Nat.mod_eq_of_lt (a := b % 16) (by omega), Nat.mod_eq_of_lt]
    exact Nat.lt_of_le_of_lt (Nat.pow_le_pow_right (by decide) (show b % 16 ≤ 16 by omega)) (by decide)
  unfold tr
  rw [e1, digs_getD hi, Nat.mod_eq_of_lt (a := R / 65536 ^ (b / 16) % 65536 + 2 ^ (b % 16)) (by omega)]
  have hl := digs_len 65536 20 R
  have e4 := val_set (B := 65536) (xs := digs 65536 20 R) (i := b / 16) (v := R / 65536 ^ (b / 16) % 65536 + 2 ^ (b % 16)) (by omega)
  rw [digs_getD hi, Nat.mul_add, p16, val_digs (by decide), Nat.mod_eq_of_lt (a := R) (by omega)] at e4
  refine val_inj (B := 65536) (by decide) ((digs_lt (by decide) 20 R).set hd).mem (digs_lt (by decide) 20 _).mem (by rw [List.length_set, hl, digs_len]) ?_
  rw [val_digs (by decide), Nat.mod_eq_of_lt hR]
  omega
theorem bits_root {it : Nat → List Nat} {g : List Nat} {F : List Nat → List Nat} {f : Nat → Nat} {G : Nat} (hz : it 0 = digs 65536 20 0) (hs : ∀ i, it (i + 1) = if (!(decide (val 65536 g < val 65536 (F (tr (it i) (69 - 1 - i)))))) = true then tr (it i) (69 - 1 - i) else it i)
    (hg : val 65536 g = G) (hF : ∀ T, T ≤ 2 ^ 69 → F (digs 65536 20 T) = digs 65536 20 (f T) ∧ f T < 65536 ^ 20) (h0 : f 0 ≤ G) (h1 : G < f (2 ^ 69)) :
    ∀ i, i ≤ 69 → ∃ R, it i = digs 65536 20 R ∧ R % 2 ^ (69 - i) = 0 ∧ R + 2 ^ (69 - i) ≤ 2 ^ 69 ∧ f R ≤ G ∧ G < f (R + 2 ^ (69 - i))
  | 0, _ => ⟨0, hz, Nat.zero_mod _, by rw [Nat.zero_add, Nat.sub_zero]; exact Nat.le_refl _, h0, by rw [Nat.zero_add, Nat.sub_zero]; exact h1⟩
  | i + 1, hi => by
    obtain ⟨R, k1, k2, k3, k4, k5⟩ := bits_root hz hs hg hF h0 h1 i (by omega)
    have eb : 69 - (i + 1) = 69 - 1 - i := by omega
    have eb2 : 69 - i = (69 - 1 - i) + 1 := by omega
    rw [eb]
    rw [eb2] at k2 k3 k5
    have hb : 69 - 1 - i < 69 := by omega
    have hbig : (2 : Nat) ^ 69 < 65536 ^ 20 := by decide
    generalize 69 - 1 - i = b at *
    have e2 : 2 ^ (b + 1) = 2 ^ b + 2 ^ b := by rw [Nat.pow_succ]; omega
    have htr := tr_digs hb k2 (by omega)
    obtain ⟨f1, f2⟩ := hF (R + 2 ^ b) (by omega)
    have hp : 0 < 2 ^ b := Nat.pow_pos (by decide)
    have hm : R % 2 ^ b = 0 := by
      have : 2 ^ b ∣ 2 ^ (b + 1) := ⟨2, by rw [Nat.pow_succ]⟩
      exact Nat.mod_eq_zero_of_dvd (Nat.dvd_trans this (Nat.dvd_of_mod_eq_zero k2))
    have hv : val 65536 (F (tr (it i) b)) = f (R + 2 ^ b) := by rw [k1, htr, f1, val_digs (by decide), Nat.mod_eq_of_lt f2]
    have e : it (i + 1) = if (!(decide (val 65536 g < val 65536 (F (tr (it i) b))))) = true then tr (it i) b else it i := by
      have := hs i
      rwa [show 69 - 1 - i = b by omega] at this
    rw [e, hv, hg]
    by_cases hc : G < f (R + 2 ^ b)
    · refine ⟨R, ?_, hm, by omega, k4, hc⟩
      rw [if_neg (by rw [decide_eq_true hc]; decide), k1]
    · refine ⟨R + 2 ^ b, ?_, by rw [Nat.add_mod, hm, Nat.mod_self]; simp, by omega, by omega, ?_⟩
      · rw [if_pos (by rw [decide_eq_false hc]; decide), k1, htr]
      · rw [show R + 2 ^ b + 2 ^ b = R + 2 ^ (b + 1) by omega]; exact k5
theorem root_out (R : Nat) : ((((((digs 65536 20 R).getD 0 0 + (digs 65536 20 R).getD 1 0 * 2 ^ 16 % 18446744073709551616) % 18446744073709551616) + (digs 65536 20 R).getD 2 0 * 2 ^ 32 % 18446744073709551616) % 18446744073709551616) + (digs 65536 20 R).getD 3 0 * 2 ^ 48 % 18446744073709551616) % 18446744073709551616 = R % 18446744073709551616 := by
  rw [digs_getD (by decide), digs_getD (by decide), digs_getD (by decide), digs_getD (by decide)]
  simp only [Nat.reducePow, Nat.div_one]
  omega
theorem root_one {f : Nat → Nat} (hm : ∀ x y, x ≤ y → f x ≤ f y) {R N G : Nat} (h1 : f R ≤ G) (h2 : G < f (R + 1)) (h3 : f N ≤ G) (h4 : G < f (N + 1)) : R = N := by
  rcases Nat.lt_trichotomy R N with h | h | h
  · have := hm (R + 1) N h; omega
  · exact h
  · have := hm (N + 1) R h; omega
theorem goal_val (at_ n : Nat) (h : at_ < 20) : val 65536 ((List.replicate 20 0).set at_ n) = 65536 ^ at_ * n := by
  have e := val_set (B := 65536) (xs := List.replicate 20 0) (i := at_) (v := n) (by simpa using h)
  rw [getD_replicate0, val_replicate] at e
  omega
theorem zero_digs : List.replicate 20 0 = digs 65536 20 0 := by decide
def f2 (x : Nat) : Nat := x * x
def f3 (x : Nat) : Nat := x * x * x
theorem f2_mono (x y : Nat) (h : x ≤ y) : f2 x ≤ f2 y := Nat.mul_le_mul h h
theorem f3_mono (x y : Nat) (h : x ≤ y) : f3 x ≤ f3 y := Nat.mul_le_mul (Nat.mul_le_mul h h) h
theorem F2_ok (T : Nat) (h : T ≤ 2 ^ 69) : rtim (digs 65536 20 T) (digs 65536 20 T) = digs 65536 20 (f2 T) ∧ f2 T < 65536 ^ 20 := by
  have h1 : f2 T < 65536 ^ 20 := Nat.lt_of_le_of_lt (f2_mono _ _ h) (by decide)
  have h2 : T < 65536 ^ 20 := Nat.lt_of_le_of_lt h (by decide)
  exact ⟨rtim_digs h1 h2 h2, h1⟩
theorem F3_ok (T : Nat) (h : T ≤ 2 ^ 69) : rtim (rtim (digs 65536 20 T) (digs 65536 20 T)) (digs 65536 20 T) = digs 65536 20 (f3 T) ∧ f3 T < 65536 ^ 20 := by
  obtain ⟨e, h1⟩ := F2_ok T h
  have h2 : T < 65536 ^ 20 := Nat.lt_of_le_of_lt h (by decide)
  have h3 : f3 T < 65536 ^ 20 := Nat.lt_of_le_of_lt (f3_mono _ _ h) (by decide)
  rw [e]
  exact ⟨rtim_digs h3 h1 h2, h3⟩
theorem root2_eq {n N : Nat} (hn : n < 512) (h1 : f2 N ≤ 65536 ^ 8 * n) (h2 : 65536 ^ 8 * n < f2 (N + 1)) : root2 n = N % 18446744073709551616 := by
  obtain ⟨R, k1, _, _, k4, k5⟩ := bits_root (it := root2_it1 n) (g := (List.replicate 20 0).set 8 n) (F := fun x => rtim x x) (f := f2) (G := 65536 ^ 8 * n) ((root2_it1_z n).trans zero_digs) (fun i => root2_it1_s n i) (goal_val 8 n (by decide)) F2_ok (Nat.zero_le _)
    (Nat.lt_of_lt_of_le (Nat.mul_lt_mul_of_pos_left hn (by decide)) (by decide)) 69 (Nat.le_refl _)
  have e : R = N := root_one f2_mono k4 k5 h1 h2
  subst e
  unfold root2
  rw [k1]
  exact root_out R
theorem root3_eq {n N : Nat} (hn : n < 512) (h1 : f3 N ≤ 65536 ^ 12 * n) (h2 : 65536 ^ 12 * n < f3 (N + 1)) : root3 n = N % 18446744073709551616 := by
  obtain ⟨R, k1, _, _, k4, k5⟩ := bits_root (it := root3_it1 n) (g := (List.replicate 20 0).set 12 n) (F := fun x => rtim (rtim x x) x) (f := f3) (G := 65536 ^ 12 * n) ((root3_it1_z n).trans zero_digs) (fun i => root3_it1_s n i) (goal_val 12 n (by decide)) F3_ok (Nat.zero_le _)
    (Nat.lt_of_lt_of_le (Nat.mul_lt_mul_of_pos_left hn (by decide)) (by decide)) 69 (Nat.le_refl _)
  have e : R = N := root_one f3_mono k4 k5 h1 h2
  subst e
  unfold root3
  rw [k1]
  exact root_out R
theorem rprime_eq {n : Nat} (h : n < 80) : rprime n = prL.getD n 0 := by
  obtain ⟨h1, h2, _, _⟩ := prF_at n h
  unfold rprime
  rw [rprime_it _ h1]
  dsimp only
  omega
theorem prL_lt : ∀ n, n < 80 → prL.getD n 0 < 512 := by decide +kernel
theorem rprime_lt {n : Nat} (h : n < 80) : rprime n < 65536 := by rw [rprime_eq h]; have := prL_lt n h; omega
def tab3 : List Nat := [23241441160490167842, 26604808713878332877, 31543488660544240431, 35287351959220771772, 41025191555757552952, 43374469216020582425, 47431773444313272219, 49223322299838333208, 52460086356995146306, 56674242196778545086, 57948244932766773900, 61468643694135456994, 63608380943893236079, 64626287408284341937, 66571091106846937653, 69291241975837173396, 71813108563482594002, 72615556083564357091, 74922338351982630325, 76384605279477341285, 77095200552867529333, 79152035218479047811, 80466001307761769428, 82360010132597855157, 84757271453788200875, 85906662539289440784, 86470001012957192511, 87575168524888248036, 88117443448470540226, 89182409882623190821, 92723033081372705391, 93686458245878541936, 95095488024300105724, 95556006044611561766, 97794660939065469677, 98230277650290947039, 99514478923103560670, 100766364611844223656, 101583977345534766822, 102786266195516601659, 103961068102722061156, 104346826991781163009, 106234157551817627537, 106603670640207904304, 107335108066752287256, 107697117917222381840, 109819772810290077738, 111863398698143437240, 112528278492720320712, 112857792170093030227, 113511107980111571865, 114477206417490790568, 114795642568024087139, 116361942610802215627, 117281838038729876339, 118187525164200278179, 119079540232616391420, 119373928427484032864, 120248493880617511794, 120824543361758411244, 121110519679094562344, 122520547622920568297, 124441674862916172053, 124979807718728684331, 125247145020423037340, 125778422408467759623, 127603441353585912606, 128369846764518166904, 129627222056361226170, 129875788766833580198, 130370087684295691694, 131104582549941012251, 132071287192121802116, 132787134709014930579, 133495346155087314620, 133963344184962190668, 134659270149180113590, 135576127461610847786, 136029942151059536620, 136928597060811708439]
def tab2 : List Nat := [26087635650665564424, 31950697969885030203, 41248173712355948587, 48805497317890012913, 61180928696206656209, 66510681623121259551, 76057874264641092971, 80407493254657745273]
theorem tab3_ok : ∀ i, i < 80 → f3 (tab3.getD i 0) ≤ 65536 ^ 12 * prL.getD i 0 ∧ 65536 ^ 12 * prL.getD i 0 < f3 (tab3.getD i 0 + 1) ∧ tab3.getD i 0 % 18446744073709551616 = rK.getD i 0 := by decide +kernel
def heads : List Nat := [7640891576956012808, 13503953896175478587, 4354685564936845355, 11912009170470909681, 5840696475078001361, 11170449401992604703, 2270897969802886507, 6620516959819538809]
theorem tab2_ok : ∀ i, i < 8 → f2 (tab2.getD i 0) ≤ 65536 ^ 8 * prL.getD i 0 ∧ 65536 ^ 8 * prL.getD i 0 < f2 (tab2.getD i 0 + 1) ∧ tab2.getD i 0 % 18446744073709551616 = heads.getD i 0 := by decide +kernel
theorem root_K {i : Nat} (h : i < 80) : rK.getD i 0 = root3 (rprime i) := by
  obtain ⟨h1, h2, h3⟩ := tab3_ok i h
  rw [rprime_eq h, root3_eq (prL_lt i h) h1 h2, h3]
theorem root_H {i : Nat} (h : i < 8) : root2 (rprime i) = heads.getD i 0 := by
  obtain ⟨h1, h2, h3⟩ := tab2_ok i h
  rw [rprime_eq (by omega), root2_eq (prL_lt i (by omega)) h1 h2, h3]
end Go.Proofs.Ytjgcmfedofmkpaa
