/-
  Walks: the other Poly1305: the tag.
-/
import Derived.Test.YtkpelchcpiafaaaQc
import Derived.Test.YtkpelchcpiafaaaFc
namespace Go.Proofs.Ytkpelchcpiafaaa
open Go Go.Fx
set_option linter.unusedVariables false
set_option linter.unusedSimpArgs false
def rtag_s1 (key : List Nat) (i1_ : Nat) (m1_ : List Nat) : List Nat :=
  m1_.set i1_ (key.getD i1_ 0)
def rtag_it1 (key : List Nat) (i1_ : Nat) : List Nat := iter (rtag_s1 key) i1_ (List.replicate 40 0)
theorem rtag_it1_z (key : List Nat) : rtag_it1 key 0 = List.replicate 40 0 := rfl
theorem rtag_it1_s (key : List Nat) (i1_ : Nat) : rtag_it1 key (i1_ + 1) = rtag_s1 key i1_ (rtag_it1 key i1_) := by unfold rtag_it1; exact iterS _ _ _
theorem rtag_it1_l (key : List Nat) (i1_ : Nat) : ((rtag_it1 key i1_)).length = (List.replicate 40 0 : List Nat).length := iter_inv (fun (s : List Nat) => (s).length = (List.replicate 40 0 : List Nat).length) (by simp) (fun i s h => by
  unfold rtag_s1
  first | (simp [h]; done) | (dsimp only; (repeat' split) <;> simp [h])) i1_
theorem rtag_b1 {key : List Nat} (h : Lt 256 key) (i : Nat) : Lt 256 (rtag_it1 key i) :=
  iter_inv (fun (s : List Nat) => Lt 256 s) (Lt.replicate (by decide)) (fun i s hs => hs.set (h i)) i
def rtag_s2 (key : List Nat) (i2_ : Nat) (m2_ : List Nat) : List Nat :=
  let v4_ : List Nat := m2_.set (3 + 4 * i2_) ((m2_.getD (3 + 4 * i2_) 0) % 16)
  v4_
def rtag_it2 (key : List Nat) (i2_ : Nat) : List Nat := iter (rtag_s2 key) i2_ (rtag_it1 key 16)
theorem rtag_it2_z (key : List Nat) : rtag_it2 key 0 = (rtag_it1 key 16) := rfl
theorem rtag_it2_s (key : List Nat) (i2_ : Nat) : rtag_it2 key (i2_ + 1) = rtag_s2 key i2_ (rtag_it2 key i2_) := by unfold rtag_it2; exact iterS _ _ _
theorem rtag_it2_l (key : List Nat) (i2_ : Nat) : ((rtag_it2 key i2_)).length = ((rtag_it1 key 16) : List Nat).length := iter_inv (fun (s : List Nat) => (s).length = ((rtag_it1 key 16) : List Nat).length) (by simp) (fun i s h => by
  unfold rtag_s2
  first | (simp [rtag_it1_l, h]; done) | (dsimp only; (repeat' split) <;> simp [rtag_it1_l, h])) i2_
theorem rtag_b2 {key : List Nat} (h : Lt 256 key) (i : Nat) : Lt 256 (rtag_it2 key i) :=
  iter_inv (fun (s : List Nat) => Lt 256 s) (rtag_b1 h 16) (fun i s hs => hs.set (by omega)) i
def rtag_s3 (key : List Nat) (i3_ : Nat) (m3_ : List Nat) : List Nat :=
  let v8_ : Nat := (m3_.getD (4 + 4 * i3_) 0) - ((m3_.getD (4 + 4 * i3_) 0) % 4)
  m3_.set (4 + 4 * i3_) v8_
def rtag_it3 (key : List Nat) (i3_ : Nat) : List Nat := iter (rtag_s3 key) i3_ (rtag_it2 key 4)
theorem rtag_it3_z (key : List Nat) : rtag_it3 key 0 = (rtag_it2 key 4) := rfl
theorem rtag_it3_s (key : List Nat) (i3_ : Nat) : rtag_it3 key (i3_ + 1) = rtag_s3 key i3_ (rtag_it3 key i3_) := by unfold rtag_it3; exact iterS _ _ _
theorem rtag_it3_l (key : List Nat) (i3_ : Nat) : ((rtag_it3 key i3_)).length = ((rtag_it2 key 4) : List Nat).length := iter_inv (fun (s : List Nat) => (s).length = ((rtag_it2 key 4) : List Nat).length) (by simp) (fun i s h => by
  unfold rtag_s3
  first | (simp [rtag_it1_l, rtag_it2_l, h]; done) | (dsimp only; (repeat' split) <;> simp [rtag_it1_l, rtag_it2_l, h])) i3_
theorem rtag_b3 {key : List Nat} (h : Lt 256 key) (i : Nat) : Lt 256 (rtag_it3 key i) :=
  iter_inv (fun (s : List Nat) => Lt 256 s) (rtag_b2 h 4) (fun i s hs => hs.set (by have := hs (4 + 4 * i); omega)) i
def rtag_s5 (m4_ : (List Nat) × (List Nat)) (i5_ : Nat) (m5_ : List Nat) : List Nat :=
  let v37_ : List Nat := m5_.set i5_ ((m5_.getD i5_ 0) + (m4_.1.getD i5_ 0))
  v37_
def rtag_it5 (m4_ : (List Nat) × (List Nat)) (i5_ : Nat) : List Nat := iter (rtag_s5 m4_) i5_ m4_.2
theorem rtag_it5_z (m4_ : (List Nat) × (List Nat)) : rtag_it5 m4_ 0 = m4_.2 := rfl
theorem rtag_it5_s (m4_ : (List Nat) × (List Nat)) (i5_ : Nat) : rtag_it5 m4_ (i5_ + 1) = rtag_s5 m4_ i5_ (rtag_it5 m4_ i5_) := by unfold rtag_it5; exact iterS _ _ _
theorem rtag_it5_l (m4_ : (List Nat) × (List Nat)) (i5_ : Nat) : ((rtag_it5 m4_ i5_)).length = (m4_.2 : List Nat).length := iter_inv (fun (s : List Nat) => (s).length = (m4_.2 : List Nat).length) (by simp) (fun i s h => by
  unfold rtag_s5
  first | (simp [rtag_it1_l, rtag_it2_l, rtag_it3_l, rmodulo_len, rtimes_len, h]; done) | (dsimp only; (repeat' split) <;> simp [rtag_it1_l, rtag_it2_l, rtag_it3_l, rmodulo_len, rtimes_len, h])) i5_
def rtag_s4 (key : List Nat) (text : List Nat) (i4_ : Nat) (m4_ : (List Nat) × (List Nat)) : (List Nat) × (List Nat) :=
  let v26_ : Nat := if 16 < m4_.1.length then 16 else m4_.1.length
  let v31_ : Nat := (rtag_it5 m4_ (if 16 < m4_.1.length then 16 else m4_.1.length)).getD v26_ 0
  let v32_ : List Nat := (rtag_it5 m4_ (if 16 < m4_.1.length then 16 else m4_.1.length)).set v26_ (v31_ + 1)
  let v33_ : List Nat := (m4_.1.drop v26_).take (m4_.1.length - v26_)
  (v33_, (rtimes (rmodulo v32_) (rtag_it3 key 3)))
def rtag_it4 (key : List Nat) (text : List Nat) (i4_ : Nat) : (List Nat) × (List Nat) := iter (rtag_s4 key text) i4_ (text, List.replicate 40 0)
theorem rtag_it4_z (key : List Nat) (text : List Nat) : rtag_it4 key text 0 = (text, List.replicate 40 0) := rfl
theorem rtag_it4_s (key : List Nat) (text : List Nat) (i4_ : Nat) : rtag_it4 key text (i4_ + 1) = rtag_s4 key text i4_ (rtag_it4 key text i4_) := by unfold rtag_it4; exact iterS _ _ _
theorem rtag_it4_l1 (key : List Nat) (text : List Nat) (i4_ : Nat) : ((rtag_it4 key text i4_).2).length = (List.replicate 40 0 : List Nat).length := iter_inv (fun (s : (List Nat) × (List Nat)) => (s.2).length = (List.replicate 40 0 : List Nat).length) (by simp) (fun i s h => by
  unfold rtag_s4
  first | (simp [rtag_it1_l, rtag_it2_l, rtag_it3_l, rmodulo_len, rtimes_len, rtag_it5_l, h]; done) | (dsimp only; (repeat' split) <;> simp [rtag_it1_l, rtag_it2_l, rtag_it3_l, rmodulo_len, rtimes_len, rtag_it5_l, h])) i4_
theorem rtag_t (key text : List Nat) (i : Nat) : (rtag_it4 key text i).1 = text.drop (16 * i) := by
  induction i with
  | zero => rfl
  | succ i ih =>
    rw [rtag_it4_s]
    simp only [rtag_s4, ih]
    split
    · rename_i h
      rw [List.take_of_length_le (by simp; omega), List.drop_drop]
      rfl
    · rename_i h
      simp at h
      rw [List.take_of_length_le (by simp; omega), List.drop_drop, List.length_drop, List.drop_eq_nil_of_le (by omega), List.drop_eq_nil_of_le (by omega)]
theorem rtag_iff (key text : List Nat) (i : Nat) : 0 < (rtag_it4 key text i).1.length ↔ i < (text.length + 15) / 16 := by
  rw [rtag_t, List.length_drop]; omega
theorem rmodulo_lt {n : List Nat} (hn : n.length = 40) (h : Lt 1099511627776 n) : Lt 256 (rmodulo n) := by
  have hb := rmodulo_b hn h 4
  unfold rmodulo
  dsimp only
  split
  · refine Lt.set (rcarried_lt (by simp [rmodulo_it1_l, rcarried_len, hn])) ?_
    have := rcarried_lt (n := (rmodulo_it1 n 4).set 0 ((rmodulo_it1 n 4).getD 0 0 + 5)) (by simp [rmodulo_it1_l, rcarried_len, hn]) 16
    omega
  · exact hb
theorem rtag_b5 {m : List Nat × List Nat} (h1 : Lt 256 m.1) (h2 : Lt 256 m.2) (i : Nat) : Lt 511 (rtag_it5 m i) ∧ ∀ j, i ≤ j → (rtag_it5 m i).getD j 0 < 256 := by
  induction i with
  | zero => exact ⟨h2.mono (by decide), fun j _ => h2 j⟩
  | succ i ih =>
    have h3 := ih.2 i (Nat.le_refl i)
    have h4 := h1 i
    rw [rtag_it5_s]
    simp only [rtag_s5]
    refine ⟨ih.1.set (by omega), fun j hj => ?_⟩
    rw [Fx.getD_set_ne (by omega)]
    exact ih.2 j (by omega)
theorem rtag_b4 {key text : List Nat} (hk : Lt 256 key) (ht : Lt 256 text) (i : Nat) : Lt 256 (rtag_it4 key text i).2 ∧ Lt 256 (rtag_it4 key text i).1 := by
  refine ⟨?_, by rw [rtag_t]; exact ht.drop _⟩
  induction i with
  | zero => exact Lt.replicate (by decide)
  | succ i ih =>
    rw [rtag_it4_s]
    simp only [rtag_s4]
    have h1 : Lt 256 (rtag_it4 key text i).1 := by rw [rtag_t]; exact ht.drop _
    refine rmodulo_lt (by simp [rtimes_it1_l]) ?_
    have h5 := rtag_b5 h1 ih
    refine (rtimes_b1 (rmodulo_lt (by simp [rtag_it5_l, rtag_it4_l1]) ?_) (rtag_b3 hk 3) 20).mono (by decide)
    exact ((h5 _).1.mono (by decide)).set (by have := (h5 (if 16 < (rtag_it4 key text i).1.length then 16 else (rtag_it4 key text i).1.length)).1 (if 16 < (rtag_it4 key text i).1.length then 16 else (rtag_it4 key text i).1.length); omega)
theorem rtag_in {text : List Nat} (ht : Lt 256 text) {m : List Nat × List Nat} (h2 : Lt 256 m.2) {v : Nat} (_ : v ≤ 16) (h1 : Lt 256 m.1 := by assumption) : Lt 1099511627776 ((rtag_it5 m v).set v ((rtag_it5 m v).getD v 0 + 1)) :=
  ((rtag_b5 h1 h2 v).1.mono (by decide)).set (by have := (rtag_b5 h1 h2 v).1 v; omega)
def rtag_s6 (key : List Nat) (text : List Nat) (i6_ : Nat) (m6_ : List Nat) : List Nat :=
  let v45_ : Nat := (m6_.getD i6_ 0) + (key.getD (16 + i6_) 0)
  m6_.set i6_ v45_
def rtag_it6 (key : List Nat) (text : List Nat) (i6_ : Nat) : List Nat := iter (rtag_s6 key text) i6_ ((rtag_it4 key text ((text.length + 15) / 16)).2)
theorem rtag_it6_z (key : List Nat) (text : List Nat) : rtag_it6 key text 0 = (rtag_it4 key text ((text.length + 15) / 16)).2 := rfl
theorem rtag_it6_s (key : List Nat) (text : List Nat) (i6_ : Nat) : rtag_it6 key text (i6_ + 1) = rtag_s6 key text i6_ (rtag_it6 key text i6_) := by unfold rtag_it6; exact iterS _ _ _
theorem rtag_it6_l (key : List Nat) (text : List Nat) (i6_ : Nat) : ((rtag_it6 key text i6_)).length = ((rtag_it4 key text ((text.length + 15) / 16)).2 : List Nat).length := iter_inv (fun (s : List Nat) => (s).length = ((rtag_it4 key text ((text.length + 15) / 16)).2 : List Nat).length) (by simp) (fun i s h => by
  unfold rtag_s6
  first | (simp [rtag_it1_l, rtag_it2_l, rtag_it3_l, rmodulo_len, rtimes_len, rtag_it5_l, rtag_it4_l1, h]; done) | (dsimp only; (repeat' split) <;> simp [rtag_it1_l, rtag_it2_l, rtag_it3_l, rmodulo_len, rtimes_len, rtag_it5_l, rtag_it4_l1, h])) i6_
theorem rtag_b6 {key text : List Nat} (hk : Lt 256 key) (ht : Lt 256 text) (i : Nat) : Lt 511 (rtag_it6 key text i) ∧ ∀ j, i ≤ j → (rtag_it6 key text i).getD j 0 < 256 := by
  induction i with
  | zero => exact ⟨(rtag_b4 hk ht _).1.mono (by decide), fun j _ => (rtag_b4 hk ht _).1 j⟩
  | succ i ih =>
    have h3 := ih.2 i (Nat.le_refl i)
    have h4 := hk (16 + i)
    rw [rtag_it6_s]
    simp only [rtag_s6]
    refine ⟨ih.1.set (by omega), fun j hj => ?_⟩
    rw [Fx.getD_set_ne (by omega)]
    exact ih.2 j (by omega)
def rtag_s7 (key : List Nat) (text : List Nat) (i7_ : Nat) (m7_ : List Nat) : List Nat :=
  let v49_ : Nat := (rcarried (rtag_it6 key text 16)).getD i7_ 0
  m7_.set i7_ (v49_ % 256)
def rtag_it7 (key : List Nat) (text : List Nat) (i7_ : Nat) : List Nat := iter (rtag_s7 key text) i7_ (List.replicate 16 0)
theorem rtag_it7_z (key : List Nat) (text : List Nat) : rtag_it7 key text 0 = List.replicate 16 0 := rfl
theorem rtag_it7_s (key : List Nat) (text : List Nat) (i7_ : Nat) : rtag_it7 key text (i7_ + 1) = rtag_s7 key text i7_ (rtag_it7 key text i7_) := by unfold rtag_it7; exact iterS _ _ _
theorem rtag_it7_l (key : List Nat) (text : List Nat) (i7_ : Nat) : ((rtag_it7 key text i7_)).length = (List.replicate 16 0 : List Nat).length := iter_inv (fun (s : List Nat) => (s).length = (List.replicate 16 0 : List Nat).length) (by simp) (fun i s h => by
  unfold rtag_s7
  first | (simp [rtag_it1_l, rtag_it2_l, rtag_it3_l, rmodulo_len, rtimes_len, rtag_it5_l, rtag_it4_l1, rtag_it6_l, rcarried_len, h]; done) | (dsimp only; (repeat' split) <;> simp [rtag_it1_l, rtag_it2_l, rtag_it3_l, rmodulo_len, rtimes_len, rtag_it5_l, rtag_it4_l1, rtag_it6_l, rcarried_len, h])) i7_
def rtag (key : List Nat) (text : List Nat) : List Nat :=
  (rtag_it7 key text 16)
theorem rtag_len (key : List Nat) (text : List Nat)  : ((rtag key text)).length = 16 := by
  unfold rtag
  first | (simp [rtag_it1_l, rtag_it2_l, rtag_it3_l, rmodulo_len, rtimes_len, rtag_it5_l, rtag_it4_l1, rtag_it6_l, rcarried_len, rtag_it7_l]; done) | (simp [*, rtag_it1_l, rtag_it2_l, rtag_it3_l, rmodulo_len, rtimes_len, rtag_it5_l, rtag_it4_l1, rtag_it6_l, rcarried_len, rtag_it7_l]; done) | (dsimp only; (repeat' split) <;> simp [*, rtag_it1_l, rtag_it2_l, rtag_it3_l, rmodulo_len, rtimes_len, rtag_it5_l, rtag_it4_l1, rtag_it6_l, rcarried_len, rtag_it7_l])
theorem w_rtag (key : List Nat) (text : List Nat) (l_key : key.length = 32) (l_t : text.length < 4294967296) : VC Try.prog 33 [.row (.ints .u8 key), .one (.bs false .u8 text)] (.row (.ints .u8 (rtag key text))) := by
  refine VC.go Try.func33 rfl Try.ntmps33 rfl rfl fun O w => ?_
  refine Holds.ltRow 0 rfl u8s u8m (fun b_key => ?_)
  refine Holds.ltBs 1 rfl u8s u8m (fun b_text => ?_)
  refine Holds.seq ?_
  refine Holds.reg ?_
  refine OpsFrom.u (Y.boxR (d := 2) (up0 rfl rfl rfl) rfl rfl rfl) rfl rfl rfl ?_
  refine OpsFrom.u (Y.alloc (d := 4) ty35 rfl rfl (up0 rfl rfl rfl) rfl) rfl rfl rfl ?_
  refine OpsFrom.nil ?_
  refine Holds.seq ?_
  refine Holds.reg ?_
  refine OpsFrom.v (Y.buildA ty78 ty3 rfl (up0 rfl rfl rfl) rfl (.nil _)) rfl ?_
  refine OpsFrom.u (Y.alloc (d := 5) ty78 rfl rfl (up0 rfl rfl rfl) rfl) rfl rfl rfl ?_
  refine OpsFrom.n (Y.stR ty78 (upN rfl rfl) rfl rfl rfl rfl rfl (by first | (with_reducible assumption) | omega | (simp only [lens, *]; first | done | omega) | decide | (split <;> simp only [lens, *]) | (with_reducible exact Lt.mono (by assumption) (by decide))) (by first | (with_reducible assumption) | omega | (simp only [lens, *]; first | done | omega) | decide | (split <;> simp only [lens, *]) | (with_reducible exact Lt.mono (by assumption) (by decide))) (by decide)) rfl rfl ?_
  refine OpsFrom.nil ?_
  refine Holds.seq ?_
  refine Holds.seq ?_
  refine Holds.reg ?_
  refine OpsFrom.v (Y.assign (v := (.one (.n .i64 0))) (up0 rfl rfl rfl) rfl rfl) rfl ?_
  refine OpsFrom.nil ?_
  refine Holds.block ?_
  refine Holds.loop (fun (i1_ : Nat) => ⟨[(1, .one (.bs false .u8 text)), (2, .one (.p 2 0)), (4, .one (.p 4 0)), (5, .one (.p 5 0)), (6, .one (.n .i64 i1_))], [(2, .own (.ints .u8 key)), (4, .own (.ints .u8 (List.replicate 16 0))), (5, .own (.ints .i64 (rtag_it1 key i1_)))]⟩) (fun (i1_ : Nat) => i1_ ≤ 16) (fun (i1_ : Nat) => 16 - i1_) 0 (by first | (with_reducible assumption) | omega | (simp only [lens, rtag_it1_l, *]; first | done | omega) | decide | (split <;> simp only [lens, rtag_it1_l, *]) | (with_reducible exact Lt.mono (by assumption) (by decide))) [] ⟨⟨rfl, rfl, rfl, rfl, rfl, trivial⟩, ⟨rfl, rfl, (hEq (congrArg (fun (s : List Nat) => s) (rtag_it1_z key)).symm), trivial⟩, rfl, rfl⟩ ?_
  intro i1_ k1_
  refine Holds.seq ?_
  refine Holds.seq ?_
  refine Holds.reg ?_
  refine OpsFrom.v (Y.move (up0 rfl rfl rfl) rfl rfl) rfl ?_
  refine OpsFrom.v (Y.lss (b := 16) (up0 rfl rfl rfl) rfl rfl rfl) rfl ?_
  refine OpsFrom.nil ?_
  refine Holds.condD rfl (fun h17 => ?_) (fun h17 => ?_)
  · refine Holds.skip ?_
    refine Holds.seq ?_
    refine Holds.block ?_
    refine Holds.reg ?_
    refine OpsFrom.v (Y.move (up0 rfl rfl rfl) rfl rfl) rfl ?_
    refine OpsFrom.v (Y.move (up0 rfl rfl rfl) rfl rfl) rfl ?_
    refine OpsFrom.v (Y.ia0 ty23 ty5 (up0 rfl rfl rfl) rfl rfl rfl (by first | (with_reducible assumption) | omega | (simp only [lens, rtag_it1_l, *]; first | done | omega) | decide | (split <;> simp only [lens, rtag_it1_l, *]) | (with_reducible exact Lt.mono (by assumption) (by decide)))) rfl ?_
    refine OpsFrom.v (Y.ldI ty5 rfl (up0 rfl rfl rfl) rfl rfl rfl (by first | (with_reducible assumption) | omega | (simp only [lens, rtag_it1_l, *]; first | done | omega) | decide | (split <;> simp only [lens, rtag_it1_l, *]) | (with_reducible exact Lt.mono (by assumption) (by decide)))) rfl ?_
    refine OpsFrom.v (Y.convUpI ty5.u ty3.u rfl (by decide) (up0 rfl rfl rfl) rfl rfl) rfl ?_
    refine OpsFrom.v (Y.ia0 ty78 ty3 (up0 rfl rfl rfl) rfl rfl rfl (by first | (with_reducible assumption) | omega | (simp only [lens, rtag_it1_l, *]; first | done | omega) | decide | (split <;> simp only [lens, rtag_it1_l, *]) | (with_reducible exact Lt.mono (by assumption) (by decide)))) rfl ?_
    refine OpsFrom.n (Y.stI ty3 (upN rfl rfl) rfl rfl rfl rfl (by first | (with_reducible assumption) | omega | (simp only [lens, rtag_it1_l, *]; first | done | omega) | decide | (split <;> simp only [lens, rtag_it1_l, *]) | (with_reducible exact Lt.mono (by assumption) (by decide)))) rfl rfl ?_
    refine OpsFrom.nil ?_
    refine Holds.reg ?_
    refine OpsFrom.v (Y.move (up0 rfl rfl rfl) rfl rfl) rfl ?_
    refine OpsFrom.v (Y.addI (b := 1) (up0 rfl rfl rfl) rfl rfl rfl (by first | (with_reducible assumption) | omega | (simp only [lens, rtag_it1_l, *]; first | done | omega) | decide | (split <;> simp only [lens, rtag_it1_l, *]) | (with_reducible exact Lt.mono (by assumption) (by decide)))) rfl ?_
    refine OpsFrom.v (Y.assign (up0 rfl rfl rfl) rfl rfl) rfl ?_
    refine OpsFrom.nil ?_
    exact Holds.again (i1_ + 1) (by omega) (by omega) [] ⟨⟨rfl, rfl, rfl, rfl, (nEq (by omega)), trivial⟩, ⟨rfl, rfl, (hEq (by rw [rtag_it1_s]; unfold rtag_s1; first | (dsimp only; done) | rfl)), trivial⟩, rfl, rfl⟩
  · obtain rfl : i1_ = 16 := by omega
    refine Holds.exit ?_
    refine Holds.seq ?_
    refine Holds.seq ?_
    refine Holds.reg ?_
    refine OpsFrom.v (Y.assign (v := (.one (.n .i64 3))) (up0 rfl rfl rfl) rfl rfl) rfl ?_
    refine OpsFrom.nil ?_
    refine Holds.block ?_
    refine Holds.loop (fun (i2_ : Nat) => ⟨[(1, .one (.bs false .u8 text)), (2, .one (.p 2 0)), (4, .one (.p 4 0)), (5, .one (.p 5 0)), (7, .one (.n .i64 (3 + 4 * i2_)))], [(2, .own (.ints .u8 key)), (4, .own (.ints .u8 (List.replicate 16 0))), (5, .own (.ints .i64 (rtag_it2 key i2_)))]⟩) (fun (i2_ : Nat) => i2_ ≤ 4) (fun (i2_ : Nat) => 4 - i2_) 0 (by first | (with_reducible assumption) | omega | (simp only [lens, rtag_it1_l, rtag_it2_l, *]; first | done | omega) | decide | (split <;> simp only [lens, rtag_it1_l, rtag_it2_l, *]) | (with_reducible exact Lt.mono (by assumption) (by decide))) [] ⟨⟨rfl, rfl, rfl, rfl, rfl, trivial⟩, ⟨rfl, rfl, (hEq (congrArg (fun (s : List Nat) => s) (rtag_it2_z key)).symm), trivial⟩, rfl, rfl⟩ ?_
    intro i2_ k2_
    refine Holds.seq ?_
    refine Holds.seq ?_
    refine Holds.reg ?_
    refine OpsFrom.v (Y.move (up0 rfl rfl rfl) rfl rfl) rfl ?_
    refine OpsFrom.v (Y.lss (b := 16) (up0 rfl rfl rfl) rfl rfl rfl) rfl ?_
    refine OpsFrom.nil ?_
    refine Holds.condD rfl (fun h27 => ?_) (fun h27 => ?_)
    · refine Holds.skip ?_
      refine Holds.seq ?_
      refine Holds.block ?_
      refine Holds.reg ?_
      refine OpsFrom.v (Y.move (up0 rfl rfl rfl) rfl rfl) rfl ?_
      refine OpsFrom.v (Y.move (up0 rfl rfl rfl) rfl rfl) rfl ?_
      refine OpsFrom.v (Y.ia0 ty78 ty3 (up0 rfl rfl rfl) rfl rfl rfl (by first | (with_reducible assumption) | omega | (simp only [lens, rtag_it1_l, rtag_it2_l, *]; first | done | omega) | decide | (split <;> simp only [lens, rtag_it1_l, rtag_it2_l, *]) | (with_reducible exact Lt.mono (by assumption) (by decide)))) rfl ?_
      refine OpsFrom.v (Y.ldI ty3 rfl (up0 rfl rfl rfl) rfl rfl rfl (by first | (with_reducible assumption) | omega | (simp only [lens, rtag_it1_l, rtag_it2_l, *]; first | done | omega) | decide | (split <;> simp only [lens, rtag_it1_l, rtag_it2_l, *]) | (with_reducible exact Lt.mono (by assumption) (by decide)))) rfl ?_
      refine OpsFrom.v (Y.rem (b := 16) (up0 rfl rfl rfl) rfl rfl rfl (by decide)) rfl ?_
      refine OpsFrom.v (Y.ia0 ty78 ty3 (up0 rfl rfl rfl) rfl rfl rfl (by first | (with_reducible assumption) | omega | (simp only [lens, rtag_it1_l, rtag_it2_l, *]; first | done | omega) | decide | (split <;> simp only [lens, rtag_it1_l, rtag_it2_l, *]) | (with_reducible exact Lt.mono (by assumption) (by decide)))) rfl ?_
      refine OpsFrom.n (Y.stI ty3 (upN rfl rfl) rfl rfl rfl rfl (by first | (with_reducible assumption) | omega | (simp only [lens, rtag_it1_l, rtag_it2_l, *]; first | done | omega) | decide | (split <;> simp only [lens, rtag_it1_l, rtag_it2_l, *]) | (with_reducible exact Lt.mono (by assumption) (by decide)))) rfl rfl ?_
      refine OpsFrom.nil ?_
      refine Holds.reg ?_
      refine OpsFrom.v (Y.move (up0 rfl rfl rfl) rfl rfl) rfl ?_
      refine OpsFrom.v (Y.addI (b := 4) (up0 rfl rfl rfl) rfl rfl rfl (by first | (with_reducible assumption) | omega | (simp only [lens, rtag_it1_l, rtag_it2_l, *]; first | done | omega) | decide | (split <;> simp only [lens, rtag_it1_l, rtag_it2_l, *]) | (with_reducible exact Lt.mono (by assumption) (by decide)))) rfl ?_
      refine OpsFrom.v (Y.assign (up0 rfl rfl rfl) rfl rfl) rfl ?_
      refine OpsFrom.nil ?_
      exact Holds.again (i2_ + 1) (by omega) (by omega) [] ⟨⟨rfl, rfl, rfl, rfl, (nEq (by omega)), trivial⟩, ⟨rfl, rfl, (hEq (by rw [rtag_it2_s]; unfold rtag_s2; first | (dsimp only; done) | rfl)), trivial⟩, rfl, rfl⟩
    · obtain rfl : i2_ = 4 := by omega
      refine Holds.exit ?_
      refine Holds.seq ?_
      refine Holds.seq ?_
      refine Holds.reg ?_
      refine OpsFrom.v (Y.assign (v := (.one (.n .i64 4))) (up0 rfl rfl rfl) rfl rfl) rfl ?_
      refine OpsFrom.nil ?_
      refine Holds.block ?_
      refine Holds.loop (fun (i3_ : Nat) => ⟨[(1, .one (.bs false .u8 text)), (2, .one (.p 2 0)), (4, .one (.p 4 0)), (5, .one (.p 5 0)), (8, .one (.n .i64 (4 + 4 * i3_)))], [(2, .own (.ints .u8 key)), (4, .own (.ints .u8 (List.replicate 16 0))), (5, .own (.ints .i64 (rtag_it3 key i3_)))]⟩) (fun (i3_ : Nat) => i3_ ≤ 3) (fun (i3_ : Nat) => 3 - i3_) 0 (by first | (with_reducible assumption) | omega | (simp only [lens, rtag_it1_l, rtag_it2_l, rtag_it3_l, *]; first | done | omega) | decide | (split <;> simp only [lens, rtag_it1_l, rtag_it2_l, rtag_it3_l, *]) | (with_reducible exact Lt.mono (by assumption) (by decide))) [] ⟨⟨rfl, rfl, rfl, rfl, rfl, trivial⟩, ⟨rfl, rfl, (hEq (congrArg (fun (s : List Nat) => s) (rtag_it3_z key)).symm), trivial⟩, rfl, rfl⟩ ?_
      intro i3_ k3_
      have hb3 := rtag_b3 b_key i3_ (4 + 4 * i3_)
      refine Holds.seq ?_
      refine Holds.seq ?_
      refine Holds.reg ?_
      refine OpsFrom.v (Y.move (up0 rfl rfl rfl) rfl rfl) rfl ?_
      refine OpsFrom.v (Y.lss (b := 16) (up0 rfl rfl rfl) rfl rfl rfl) rfl ?_
      refine OpsFrom.nil ?_
      refine Holds.condD rfl (fun h37 => ?_) (fun h37 => ?_)
      · refine Holds.skip ?_
        refine Holds.seq ?_
        refine Holds.block ?_
        refine Holds.dr mx [([40], [41, 42, 43, 44, 45, 46, 47, 48]), ([41], [40, 44, 45, 46, 47]), ([42], [40, 44, 45, 46, 47]), ([43], [40, 44, 45, 46, 47]), ([44], [40, 41, 42, 43]), ([45], [40, 41, 42, 43]), ([46], [40, 41, 42, 43]), ([47], [40, 41, 42, 43]), ([48], [40]), ([49], []), ([5], [])] (by kernel_rfl) ?_
        refine CertK.vd (Y.move (up0 rfl rfl rfl) rfl rfl) rfl rfl ?_
        refine CertK.vd (Y.move (up0 rfl rfl rfl) rfl rfl) rfl rfl ?_
        refine CertK.vd (Y.ia0 ty78 ty3 (up0 rfl rfl rfl) rfl rfl rfl (by first | (with_reducible assumption) | omega | (simp only [lens, rtag_it1_l, rtag_it2_l, rtag_it3_l, *]; first | done | omega) | decide | (split <;> simp only [lens, rtag_it1_l, rtag_it2_l, rtag_it3_l, *]) | (with_reducible exact Lt.mono (by assumption) (by decide)))) rfl rfl ?_
        refine CertK.vd (Y.ldI ty3 rfl (up0 rfl rfl rfl) rfl rfl rfl (by first | (with_reducible assumption) | omega | (simp only [lens, rtag_it1_l, rtag_it2_l, rtag_it3_l, *]; first | done | omega) | decide | (split <;> simp only [lens, rtag_it1_l, rtag_it2_l, rtag_it3_l, *]) | (with_reducible exact Lt.mono (by assumption) (by decide)))) rfl rfl ?_
        refine CertK.vd (Y.move (up0 rfl rfl rfl) rfl rfl) rfl rfl ?_
        refine CertK.vd (Y.ia0 ty78 ty3 (up0 rfl rfl rfl) rfl rfl rfl (by first | (with_reducible assumption) | omega | (simp only [lens, rtag_it1_l, rtag_it2_l, rtag_it3_l, *]; first | done | omega) | decide | (split <;> simp only [lens, rtag_it1_l, rtag_it2_l, rtag_it3_l, *]) | (with_reducible exact Lt.mono (by assumption) (by decide)))) rfl rfl ?_
        refine CertK.vd (Y.ldI ty3 rfl (up0 rfl rfl rfl) rfl rfl rfl (by first | (with_reducible assumption) | omega | (simp only [lens, rtag_it1_l, rtag_it2_l, rtag_it3_l, *]; first | done | omega) | decide | (split <;> simp only [lens, rtag_it1_l, rtag_it2_l, rtag_it3_l, *]) | (with_reducible exact Lt.mono (by assumption) (by decide)))) rfl rfl ?_
        refine CertK.vd (Y.rem (b := 4) (up0 rfl rfl rfl) rfl rfl rfl (by decide)) rfl rfl ?_
        refine CertK.vd (Y.subI (up0 rfl rfl rfl) rfl rfl rfl (by first | (with_reducible assumption) | omega | (simp only [lens, rtag_it1_l, rtag_it2_l, rtag_it3_l, *]; first | done | omega) | decide | (split <;> simp only [lens, rtag_it1_l, rtag_it2_l, rtag_it3_l, *]) | (with_reducible exact Lt.mono (by assumption) (by decide))) (by first | (with_reducible assumption) | omega | (simp only [lens, rtag_it1_l, rtag_it2_l, rtag_it3_l, *]; first | done | omega) | decide | (split <;> simp only [lens, rtag_it1_l, rtag_it2_l, rtag_it3_l, *]) | (with_reducible exact Lt.mono (by assumption) (by decide)))) rfl rfl ?_
        refine CertK.v (Y.ia0 ty78 ty3 (up0 rfl rfl rfl) rfl rfl rfl (by first | (with_reducible assumption) | omega | (simp only [lens, rtag_it1_l, rtag_it2_l, rtag_it3_l, *]; first | done | omega) | decide | (split <;> simp only [lens, rtag_it1_l, rtag_it2_l, rtag_it3_l, *]) | (with_reducible exact Lt.mono (by assumption) (by decide)))) rfl ?_
        refine CertK.n (Y.stI ty3 (upN rfl rfl) rfl rfl rfl rfl (by first | (with_reducible assumption) | omega | (simp only [lens, rtag_it1_l, rtag_it2_l, rtag_it3_l, *]; first | done | omega) | decide | (split <;> simp only [lens, rtag_it1_l, rtag_it2_l, rtag_it3_l, *]) | (with_reducible exact Lt.mono (by assumption) (by decide)))) rfl rfl rfl rfl ?_
        refine CertK.nil ?_
        refine Holds.reg ?_
        refine OpsFrom.v (Y.move (up0 rfl rfl rfl) rfl rfl) rfl ?_
        refine OpsFrom.v (Y.addI (b := 4) (up0 rfl rfl rfl) rfl rfl rfl (by first | (with_reducible assumption) | omega | (simp only [lens, rtag_it1_l, rtag_it2_l, rtag_it3_l, *]; first | done | omega) | decide | (split <;> simp only [lens, rtag_it1_l, rtag_it2_l, rtag_it3_l, *]) | (with_reducible exact Lt.mono (by assumption) (by decide)))) rfl ?_
        refine OpsFrom.v (Y.assign (up0 rfl rfl rfl) rfl rfl) rfl ?_
        refine OpsFrom.nil ?_
        exact Holds.again (i3_ + 1) (by omega) (by omega) [] ⟨⟨rfl, rfl, rfl, rfl, (nEq (by omega)), trivial⟩, ⟨rfl, rfl, (hEq (by rw [rtag_it3_s]; unfold rtag_s3; first | (dsimp only; done) | rfl)), trivial⟩, rfl, rfl⟩
      · obtain rfl : i3_ = 3 := by omega
        refine Holds.exit ?_
        refine Holds.seq ?_
        refine Holds.reg ?_
        refine OpsFrom.v (Y.buildA ty78 ty3 rfl (up0 rfl rfl rfl) rfl (.nil _)) rfl ?_
        refine OpsFrom.u (Y.alloc (d := 9) ty78 rfl rfl (up0 rfl rfl rfl) rfl) rfl rfl rfl ?_
        refine OpsFrom.n (Y.stR ty78 (upN rfl rfl) rfl rfl rfl rfl rfl (by first | (with_reducible assumption) | omega | (simp only [lens, rtag_it1_l, rtag_it2_l, rtag_it3_l, *]; first | done | omega) | decide | (split <;> simp only [lens, rtag_it1_l, rtag_it2_l, rtag_it3_l, *]) | (with_reducible exact Lt.mono (by assumption) (by decide))) (by first | (with_reducible assumption) | omega | (simp only [lens, rtag_it1_l, rtag_it2_l, rtag_it3_l, *]; first | done | omega) | decide | (split <;> simp only [lens, rtag_it1_l, rtag_it2_l, rtag_it3_l, *]) | (with_reducible exact Lt.mono (by assumption) (by decide))) (by decide)) rfl rfl ?_
        refine OpsFrom.nil ?_
        refine Holds.seq ?_
        refine Holds.block ?_
        refine Holds.loop (fun (i4_ : Nat) => ⟨[(1, .one (.bs false .u8 ((rtag_it4 key text i4_).1))), (2, .one (.p 2 0)), (4, .one (.p 4 0)), (5, .one (.p 5 0)), (9, .one (.p 9 0))], [(2, .own (.ints .u8 key)), (4, .own (.ints .u8 (List.replicate 16 0))), (5, .own (.ints .i64 (rtag_it3 key 3))), (9, .own (.ints .i64 ((rtag_it4 key text i4_).2)))]⟩) (fun (i4_ : Nat) => i4_ ≤ ((text.length + 15) / 16)) (fun (i4_ : Nat) => ((text.length + 15) / 16) - i4_) 0 (by first | (with_reducible assumption) | omega | (simp only [lens, rtag_it1_l, rtag_it2_l, rtag_it3_l, rtag_it4_l1, *]; first | done | omega) | decide | (split <;> simp only [lens, rtag_it1_l, rtag_it2_l, rtag_it3_l, rtag_it4_l1, *]) | (with_reducible exact Lt.mono (by assumption) (by decide))) [] ⟨⟨(bsEq (congrArg (fun (s : (List Nat) × (List Nat)) => s.1) (rtag_it4_z key text)).symm), rfl, rfl, rfl, rfl, trivial⟩, ⟨rfl, rfl, rfl, (hEq (congrArg (fun (s : (List Nat) × (List Nat)) => s.2) (rtag_it4_z key text)).symm), trivial⟩, rfl, rfl⟩ ?_
        intro i4_ k4_
        have hb4 := (rtag_b4 b_key b_text i4_).1
        have hl4 := rtag_t key text i4_
        have hl4b : (rtag_it4 key text i4_).1.length = text.length - 16 * i4_ := by rw [hl4, List.length_drop]
        refine Holds.seq ?_
        refine Holds.seq ?_
        refine Holds.reg ?_
        refine OpsFrom.v (Y.move (up0 rfl rfl rfl) rfl rfl) rfl ?_
        refine OpsFrom.v (Y.len ty26 (up0 rfl rfl rfl) rfl rfl rfl rfl) rfl ?_
        refine OpsFrom.v (Y.gtr (b := 0) (up0 rfl rfl rfl) rfl rfl rfl) rfl ?_
        refine OpsFrom.nil ?_
        refine Holds.condD rfl (fun h53 => ?_) (fun h53 => ?_)
        · have h4c := (rtag_iff key text i4_).1 h53
          have hv3 : (if 16 < text.length - 16 * i4_ then 16 else text.length - 16 * i4_) ≤ 16 := by split <;> omega
          have hv4 : (if 16 < text.length - 16 * i4_ then 16 else text.length - 16 * i4_) ≤ text.length - 16 * i4_ := by split <;> omega
          have hv : (if 16 < (rtag_it4 key text i4_).1.length then 16 else (rtag_it4 key text i4_).1.length) ≤ 16 := by split <;> omega
          have hv2 : (if 16 < (rtag_it4 key text i4_).1.length then 16 else (rtag_it4 key text i4_).1.length) ≤ (rtag_it4 key text i4_).1.length := by split <;> omega
          refine Holds.skip ?_
          refine Holds.block ?_
          refine Holds.seq ?_
          refine Holds.reg ?_
          refine OpsFrom.v (Y.move (up0 rfl rfl rfl) rfl rfl) rfl ?_
          refine OpsFrom.v (Y.len ty26 (up0 rfl rfl rfl) rfl rfl rfl rfl) rfl ?_
          refine OpsFrom.v (Y.assign (up0 rfl rfl rfl) rfl rfl) rfl ?_
          refine OpsFrom.nil ?_
          refine Holds.seqJoin ⟨[(1, .one (.bs false .u8 ((rtag_it4 key text i4_).1))), (2, .one (.p 2 0)), (4, .one (.p 4 0)), (5, .one (.p 5 0)), (9, .one (.p 9 0)), (51, .one (.bs false .u8 ((rtag_it4 key text i4_).1))), (52, .one (.n .i64 ((rtag_it4 key text i4_).1.length))), (53, .one (.b (decide (0 < (rtag_it4 key text i4_).1.length)))), (54, .one (.bs false .u8 ((rtag_it4 key text i4_).1))), (55, .one (.n .i64 ((rtag_it4 key text i4_).1.length))), (10, .one (.n .i64 (if 16 < (rtag_it4 key text i4_).1.length then 16 else (rtag_it4 key text i4_).1.length))), (56, .one (.n .i64 ((rtag_it4 key text i4_).1.length))), (57, .one (.b (decide (16 < (rtag_it4 key text i4_).1.length))))], [(2, .own (.ints .u8 key)), (4, .own (.ints .u8 (List.replicate 16 0))), (5, .own (.ints .i64 (rtag_it3 key 3))), (9, .own (.ints .i64 ((rtag_it4 key text i4_).2)))]⟩ ?_ (fun join => ?_)
          · refine Holds.seq ?_
            refine Holds.seq ?_
            refine Holds.reg ?_
            refine OpsFrom.v (Y.assign (v := (.one (.n .i64 0))) (up0 rfl rfl rfl) rfl rfl) rfl ?_
            refine OpsFrom.nil ?_
            refine Holds.block ?_
            refine Holds.loop (fun (i5_ : Nat) => ⟨[(1, .one (.bs false .u8 ((rtag_it4 key text i4_).1))), (2, .one (.p 2 0)), (4, .one (.p 4 0)), (5, .one (.p 5 0)), (9, .one (.p 9 0)), (51, .one (.bs false .u8 ((rtag_it4 key text i4_).1))), (52, .one (.n .i64 ((rtag_it4 key text i4_).1.length))), (53, .one (.b (decide (0 < (rtag_it4 key text i4_).1.length)))), (54, .one (.bs false .u8 ((rtag_it4 key text i4_).1))), (55, .one (.n .i64 ((rtag_it4 key text i4_).1.length))), (10, .one (.n .i64 (if 16 < (rtag_it4 key text i4_).1.length then 16 else (rtag_it4 key text i4_).1.length))), (56, .one (.n .i64 ((rtag_it4 key text i4_).1.length))), (57, .one (.b (decide (16 < (rtag_it4 key text i4_).1.length)))), (11, .one (.n .i64 i5_))], [(2, .own (.ints .u8 key)), (4, .own (.ints .u8 (List.replicate 16 0))), (5, .own (.ints .i64 (rtag_it3 key 3))), (9, .own (.ints .i64 (rtag_it5 (rtag_it4 key text i4_) i5_)))]⟩) (fun (i5_ : Nat) => i5_ ≤ (if 16 < (rtag_it4 key text i4_).1.length then 16 else (rtag_it4 key text i4_).1.length)) (fun (i5_ : Nat) => (if 16 < (rtag_it4 key text i4_).1.length then 16 else (rtag_it4 key text i4_).1.length) - i5_) 0 (by first | (with_reducible assumption) | omega | (simp only [lens, rtag_it1_l, rtag_it2_l, rtag_it3_l, rtag_it4_l1, rtag_it5_l, *]; first | done | omega) | decide | (split <;> simp only [lens, rtag_it1_l, rtag_it2_l, rtag_it3_l, rtag_it4_l1, rtag_it5_l, *]) | (with_reducible exact Lt.mono (by assumption) (by decide))) [] ⟨⟨rfl, rfl, rfl, rfl, rfl, rfl, rfl, rfl, rfl, rfl, rfl, rfl, rfl, rfl, trivial⟩, ⟨rfl, rfl, rfl, (hEq (congrArg (fun (s : List Nat) => s) (rtag_it5_z (rtag_it4 key text i4_))).symm), trivial⟩, rfl, rfl⟩ ?_
            intro i5_ k5_
            have h1t : Lt 256 (rtag_it4 key text i4_).1 := (rtag_b4 b_key b_text i4_).2
            have hb5 := (rtag_b5 h1t hb4 i5_).2 i5_ (Nat.le_refl _)
            have h1i := h1t i5_
            refine Holds.seq ?_
            refine Holds.seq ?_
            refine Holds.reg ?_
            refine OpsFrom.v (Y.move (up0 rfl rfl rfl) rfl rfl) rfl ?_
            refine OpsFrom.v (Y.move (up0 rfl rfl rfl) rfl rfl) rfl ?_
            refine OpsFrom.v (Y.lss (up0 rfl rfl rfl) rfl rfl rfl) rfl ?_
            refine OpsFrom.nil ?_
            refine Holds.condD rfl (fun h60 => ?_) (fun h60 => ?_)
            · refine Holds.skip ?_
              refine Holds.seq ?_
              refine Holds.block ?_
              refine Holds.dr mx [([63], [64, 65, 66, 67, 68, 69, 70, 71, 72]), ([64], [63, 67, 68, 69, 70, 71]), ([65], [63, 67, 68, 69, 70, 71]), ([66], [63, 67, 68, 69, 70, 71]), ([67], [63, 64, 65, 66, 68]), ([68], [63, 64, 65, 66, 67]), ([69], [63, 64, 65, 66]), ([70], [63, 64, 65, 66]), ([71], [63, 64, 65, 66]), ([72], [63]), ([73], []), ([9], [])] (by kernel_rfl) ?_
              refine CertK.vd (Y.move (up0 rfl rfl rfl) rfl rfl) rfl rfl ?_
              refine CertK.vd (Y.move (up0 rfl rfl rfl) rfl rfl) rfl rfl ?_
              refine CertK.vd (Y.ia0 ty78 ty3 (up0 rfl rfl rfl) rfl rfl rfl (by first | (with_reducible assumption) | omega | (simp only [lens, rtag_it1_l, rtag_it2_l, rtag_it3_l, rtag_it4_l1, rtag_it5_l, *]; first | done | omega) | decide | (split <;> simp only [lens, rtag_it1_l, rtag_it2_l, rtag_it3_l, rtag_it4_l1, rtag_it5_l, *]) | (with_reducible exact Lt.mono (by assumption) (by decide)))) rfl rfl ?_
              refine CertK.vd (Y.ldI ty3 rfl (up0 rfl rfl rfl) rfl rfl rfl (by first | (with_reducible assumption) | omega | (simp only [lens, rtag_it1_l, rtag_it2_l, rtag_it3_l, rtag_it4_l1, rtag_it5_l, *]; first | done | omega) | decide | (split <;> simp only [lens, rtag_it1_l, rtag_it2_l, rtag_it3_l, rtag_it4_l1, rtag_it5_l, *]) | (with_reducible exact Lt.mono (by assumption) (by decide)))) rfl rfl ?_
              refine CertK.vd (Y.move (up0 rfl rfl rfl) rfl rfl) rfl rfl ?_
              refine CertK.vd (Y.move (up0 rfl rfl rfl) rfl rfl) rfl rfl ?_
              refine CertK.vd (Y.iaBs ty26 ty5 (up0 rfl rfl rfl) rfl rfl rfl (by first | (with_reducible assumption) | omega | (simp only [lens, rtag_it1_l, rtag_it2_l, rtag_it3_l, rtag_it4_l1, rtag_it5_l, *]; first | done | omega) | decide | (split <;> simp only [lens, rtag_it1_l, rtag_it2_l, rtag_it3_l, rtag_it4_l1, rtag_it5_l, *]) | (with_reducible exact Lt.mono (by assumption) (by decide)))) rfl rfl ?_
              refine CertK.vd (Y.ldPc ty5 rfl (up0 rfl rfl rfl) rfl rfl) rfl rfl ?_
              refine CertK.vd (Y.convUpI ty5.u ty3.u rfl (by decide) (up0 rfl rfl rfl) rfl rfl) rfl rfl ?_
              refine CertK.vd (Y.addI (up0 rfl rfl rfl) rfl rfl rfl (by first | (with_reducible assumption) | omega | (simp only [lens, rtag_it1_l, rtag_it2_l, rtag_it3_l, rtag_it4_l1, rtag_it5_l, *]; first | done | omega) | decide | (split <;> simp only [lens, rtag_it1_l, rtag_it2_l, rtag_it3_l, rtag_it4_l1, rtag_it5_l, *]) | (with_reducible exact Lt.mono (by assumption) (by decide)))) rfl rfl ?_
              refine CertK.v (Y.ia0 ty78 ty3 (up0 rfl rfl rfl) rfl rfl rfl (by first | (with_reducible assumption) | omega | (simp only [lens, rtag_it1_l, rtag_it2_l, rtag_it3_l, rtag_it4_l1, rtag_it5_l, *]; first | done | omega) | decide | (split <;> simp only [lens, rtag_it1_l, rtag_it2_l, rtag_it3_l, rtag_it4_l1, rtag_it5_l, *]) | (with_reducible exact Lt.mono (by assumption) (by decide)))) rfl ?_
              refine CertK.n (Y.stI ty3 (upN rfl rfl) rfl rfl rfl rfl (by first | (with_reducible assumption) | omega | (simp only [lens, rtag_it1_l, rtag_it2_l, rtag_it3_l, rtag_it4_l1, rtag_it5_l, *]; first | done | omega) | decide | (split <;> simp only [lens, rtag_it1_l, rtag_it2_l, rtag_it3_l, rtag_it4_l1, rtag_it5_l, *]) | (with_reducible exact Lt.mono (by assumption) (by decide)))) rfl rfl rfl rfl ?_
              refine CertK.nil ?_
              refine Holds.reg ?_
              refine OpsFrom.v (Y.move (up0 rfl rfl rfl) rfl rfl) rfl ?_
              refine OpsFrom.v (Y.addI (b := 1) (up0 rfl rfl rfl) rfl rfl rfl (by first | (with_reducible assumption) | omega | (simp only [lens, rtag_it1_l, rtag_it2_l, rtag_it3_l, rtag_it4_l1, rtag_it5_l, *]; first | done | omega) | decide | (split <;> simp only [lens, rtag_it1_l, rtag_it2_l, rtag_it3_l, rtag_it4_l1, rtag_it5_l, *]) | (with_reducible exact Lt.mono (by assumption) (by decide)))) rfl ?_
              refine OpsFrom.v (Y.assign (up0 rfl rfl rfl) rfl rfl) rfl ?_
              refine OpsFrom.nil ?_
              exact Holds.again (i5_ + 1) (by omega) (by omega) [] ⟨⟨rfl, rfl, rfl, rfl, rfl, rfl, rfl, rfl, rfl, rfl, rfl, rfl, rfl, (nEq (by omega)), trivial⟩, ⟨rfl, rfl, rfl, (hEq (by rw [rtag_it5_s]; unfold rtag_s5; first | (dsimp only; done) | rfl)), trivial⟩, rfl, rfl⟩
            · obtain rfl : i5_ = if 16 < (rtag_it4 key text i4_).1.length then 16 else (rtag_it4 key text i4_).1.length := by omega
              have h1t : Lt 256 (rtag_it4 key text i4_).1 := (rtag_b4 b_key b_text i4_).2
              have hb5 := (rtag_b5 h1t hb4 (if 16 < (rtag_it4 key text i4_).1.length then 16 else (rtag_it4 key text i4_).1.length)).1 (if 16 < (rtag_it4 key text i4_).1.length then 16 else (rtag_it4 key text i4_).1.length)
              have hb5v := (rtag_b5 h1t hb4 (if 16 < (rtag_it4 key text i4_).1.length then 16 else (rtag_it4 key text i4_).1.length)).1
              refine Holds.exit ?_
              refine Holds.seq ?_
              refine Holds.reg ?_
              refine OpsFrom.v (Y.move (up0 rfl rfl rfl) rfl rfl) rfl ?_
              refine OpsFrom.v (Y.move (up0 rfl rfl rfl) rfl rfl) rfl ?_
              refine OpsFrom.v (Y.ia0 ty78 ty3 (up0 rfl rfl rfl) rfl rfl rfl (by first | (with_reducible assumption) | omega | (simp only [lens, rtag_it1_l, rtag_it2_l, rtag_it3_l, rtag_it4_l1, rtag_it5_l, *]; first | done | omega) | decide | (split <;> simp only [lens, rtag_it1_l, rtag_it2_l, rtag_it3_l, rtag_it4_l1, rtag_it5_l, *]) | (with_reducible exact Lt.mono (by assumption) (by decide)))) rfl ?_
              refine OpsFrom.v (Y.ldI ty3 rfl (up0 rfl rfl rfl) rfl rfl rfl (by first | (with_reducible assumption) | omega | (simp only [lens, rtag_it1_l, rtag_it2_l, rtag_it3_l, rtag_it4_l1, rtag_it5_l, *]; first | done | omega) | decide | (split <;> simp only [lens, rtag_it1_l, rtag_it2_l, rtag_it3_l, rtag_it4_l1, rtag_it5_l, *]) | (with_reducible exact Lt.mono (by assumption) (by decide)))) rfl ?_
              refine OpsFrom.v (Y.addI (b := 1) (up0 rfl rfl rfl) rfl rfl rfl (by first | (with_reducible assumption) | omega | (simp only [lens, rtag_it1_l, rtag_it2_l, rtag_it3_l, rtag_it4_l1, rtag_it5_l, *]; first | done | omega) | decide | (split <;> simp only [lens, rtag_it1_l, rtag_it2_l, rtag_it3_l, rtag_it4_l1, rtag_it5_l, *]) | (with_reducible exact Lt.mono (by assumption) (by decide)))) rfl ?_
              refine OpsFrom.v (Y.ia0 ty78 ty3 (up0 rfl rfl rfl) rfl rfl rfl (by first | (with_reducible assumption) | omega | (simp only [lens, rtag_it1_l, rtag_it2_l, rtag_it3_l, rtag_it4_l1, rtag_it5_l, *]; first | done | omega) | decide | (split <;> simp only [lens, rtag_it1_l, rtag_it2_l, rtag_it3_l, rtag_it4_l1, rtag_it5_l, *]) | (with_reducible exact Lt.mono (by assumption) (by decide)))) rfl ?_
              refine OpsFrom.n (Y.stI ty3 (upN rfl rfl) rfl rfl rfl rfl (by first | (with_reducible assumption) | omega | (simp only [lens, rtag_it1_l, rtag_it2_l, rtag_it3_l, rtag_it4_l1, rtag_it5_l, *]; first | done | omega) | decide | (split <;> simp only [lens, rtag_it1_l, rtag_it2_l, rtag_it3_l, rtag_it4_l1, rtag_it5_l, *]) | (with_reducible exact Lt.mono (by assumption) (by decide)))) rfl rfl ?_
              refine OpsFrom.nil ?_
              refine Holds.seq ?_
              refine Holds.dr mx [([80], [82]), ([81], [82]), ([82], [80, 81]), ([83], []), ([9], [])] (by kernel_rfl) ?_
              refine CertK.vd (Y.ldAll ty78 rfl (up0 rfl rfl rfl) rfl rfl rfl (by first | (with_reducible assumption) | omega | (simp only [lens, rtag_it1_l, rtag_it2_l, rtag_it3_l, rtag_it4_l1, rtag_it5_l, rmodulo_len, rtimes_len, *]; first | done | omega) | decide | (split <;> simp only [lens, rtag_it1_l, rtag_it2_l, rtag_it3_l, rtag_it4_l1, rtag_it5_l, rmodulo_len, rtimes_len, *]) | (with_reducible exact Lt.mono (by assumption) (by decide))) (by decide)) rfl rfl ?_
              refine CertK.vd (Y.callV (w_rmodulo _ (by first | (with_reducible assumption) | omega | (simp only [lens, rtag_it1_l, rtag_it2_l, rtag_it3_l, rtag_it4_l1, rtag_it5_l, rmodulo_len, rtimes_len, *]; first | done | omega) | decide | (split <;> simp only [lens, rtag_it1_l, rtag_it2_l, rtag_it3_l, rtag_it4_l1, rtag_it5_l, rmodulo_len, rtimes_len, *]) | (with_reducible exact Lt.mono (by assumption) (by decide))) (rtag_in b_text hb4 hv)) fnok59 (up0 rfl rfl rfl) rfl rfl (.cons _ _ _ _ rfl .nil) (.cons _ _ _ _ (.same _) .nil) rfl rfl) rfl rfl ?_
              refine CertK.vd (Y.ldAll ty78 rfl (up0 rfl rfl rfl) rfl rfl rfl (by first | (with_reducible assumption) | omega | (simp only [lens, rtag_it1_l, rtag_it2_l, rtag_it3_l, rtag_it4_l1, rtag_it5_l, rmodulo_len, rtimes_len, *]; first | done | omega) | decide | (split <;> simp only [lens, rtag_it1_l, rtag_it2_l, rtag_it3_l, rtag_it4_l1, rtag_it5_l, rmodulo_len, rtimes_len, *]) | (with_reducible exact Lt.mono (by assumption) (by decide))) (by decide)) rfl rfl ?_
              refine CertK.v (Y.callV (w_rtimes _ _ (by first | (with_reducible assumption) | omega | (simp only [lens, rtag_it1_l, rtag_it2_l, rtag_it3_l, rtag_it4_l1, rtag_it5_l, rmodulo_len, rtimes_len, *]; first | done | omega) | decide | (split <;> simp only [lens, rtag_it1_l, rtag_it2_l, rtag_it3_l, rtag_it4_l1, rtag_it5_l, rmodulo_len, rtimes_len, *]) | (with_reducible exact Lt.mono (by assumption) (by decide))) (by first | (with_reducible assumption) | omega | (simp only [lens, rtag_it1_l, rtag_it2_l, rtag_it3_l, rtag_it4_l1, rtag_it5_l, rmodulo_len, rtimes_len, *]; first | done | omega) | decide | (split <;> simp only [lens, rtag_it1_l, rtag_it2_l, rtag_it3_l, rtag_it4_l1, rtag_it5_l, rmodulo_len, rtimes_len, *]) | (with_reducible exact Lt.mono (by assumption) (by decide))) (rmodulo_lt (by simp [rtag_it5_l, rtag_it4_l1]) (rtag_in b_text hb4 hv)) (rtag_b3 b_key 3)) fnok58 (up0 rfl rfl rfl) rfl rfl (.cons _ _ _ _ rfl (.cons _ _ _ _ rfl .nil)) (.cons _ _ _ _ (.same _) (.cons _ _ _ _ (.same _) .nil)) rfl rfl) rfl ?_
              refine CertK.n (Y.stR ty78 (upN rfl rfl) rfl rfl rfl rfl rfl (by first | (with_reducible assumption) | omega | (simp only [lens, rtag_it1_l, rtag_it2_l, rtag_it3_l, rtag_it4_l1, rtag_it5_l, rmodulo_len, rtimes_len, *]; first | done | omega) | decide | (split <;> simp only [lens, rtag_it1_l, rtag_it2_l, rtag_it3_l, rtag_it4_l1, rtag_it5_l, rmodulo_len, rtimes_len, *]) | (with_reducible exact Lt.mono (by assumption) (by decide))) (by first | (with_reducible assumption) | omega | (simp only [lens, rtag_it1_l, rtag_it2_l, rtag_it3_l, rtag_it4_l1, rtag_it5_l, rmodulo_len, rtimes_len, *]; first | done | omega) | decide | (split <;> simp only [lens, rtag_it1_l, rtag_it2_l, rtag_it3_l, rtag_it4_l1, rtag_it5_l, rmodulo_len, rtimes_len, *]) | (with_reducible exact Lt.mono (by assumption) (by decide))) (by decide)) rfl rfl rfl rfl ?_
              refine CertK.nil ?_
              refine Holds.reg ?_
              refine OpsFrom.v (Y.move (up0 rfl rfl rfl) rfl rfl) rfl ?_
              refine OpsFrom.v (Y.move (up0 rfl rfl rfl) rfl rfl) rfl ?_
              refine OpsFrom.v (Y.slBs ty26 ty5 (up0 rfl rfl rfl) rfl rfl (bnd1 rfl) bnd0 (by first | (with_reducible assumption) | omega | (simp only [lens, rtag_it1_l, rtag_it2_l, rtag_it3_l, rtag_it4_l1, rtag_it5_l, rmodulo_len, rtimes_len, *]; first | done | omega) | decide | (split <;> simp only [lens, rtag_it1_l, rtag_it2_l, rtag_it3_l, rtag_it4_l1, rtag_it5_l, rmodulo_len, rtimes_len, *]) | (with_reducible exact Lt.mono (by assumption) (by decide))) (by first | (with_reducible assumption) | omega | (simp only [lens, rtag_it1_l, rtag_it2_l, rtag_it3_l, rtag_it4_l1, rtag_it5_l, rmodulo_len, rtimes_len, *]; first | done | omega) | decide | (split <;> simp only [lens, rtag_it1_l, rtag_it2_l, rtag_it3_l, rtag_it4_l1, rtag_it5_l, rmodulo_len, rtimes_len, *]) | (with_reducible exact Lt.mono (by assumption) (by decide)))) rfl ?_
              refine OpsFrom.v (Y.assign (up0 rfl rfl rfl) rfl rfl) rfl ?_
              refine OpsFrom.nil ?_
              exact Holds.again (i4_ + 1) (by omega) (by omega) [] ⟨⟨(bsEq (by rw [rtag_it4_s]; unfold rtag_s4; first | (dsimp only; done) | rfl)), rfl, rfl, rfl, rfl, trivial⟩, ⟨rfl, rfl, rfl, (hEq (by rw [rtag_it4_s]; unfold rtag_s4; first | (dsimp only; done) | rfl)), trivial⟩, rfl, rfl⟩
          · refine Holds.seq ?_
            refine Holds.reg ?_
            refine OpsFrom.v (Y.move (up0 rfl rfl rfl) rfl rfl) rfl ?_
            refine OpsFrom.v (Y.gtr (b := 16) (up0 rfl rfl rfl) rfl rfl rfl) rfl ?_
            refine OpsFrom.nil ?_
            refine Holds.condD rfl (fun h57 => ?_) (fun h57 => ?_)
            · refine Holds.reg ?_
              refine OpsFrom.v (Y.assign (v := (.one (.n .i64 16))) (up0 rfl rfl rfl) rfl rfl) rfl ?_
              refine OpsFrom.nil ?_
              exact join _ [] ⟨⟨rfl, rfl, rfl, rfl, rfl, rfl, rfl, rfl, rfl, rfl, (nEq (if_pos h57).symm), rfl, rfl, trivial⟩, ⟨rfl, rfl, rfl, rfl, trivial⟩, rfl, rfl⟩
            · refine Holds.skip ?_
              exact join _ [] ⟨⟨rfl, rfl, rfl, rfl, rfl, rfl, rfl, rfl, rfl, rfl, (nEq (if_neg h57).symm), rfl, rfl, trivial⟩, ⟨rfl, rfl, rfl, rfl, trivial⟩, rfl, rfl⟩
        · have h4c : ¬ (i4_ < ((text.length + 15) / 16)) := fun q => h53 ((rtag_iff key text i4_).2 q)
          obtain rfl : i4_ = (text.length + 15) / 16 := by omega
          have hb4 := (rtag_b4 b_key b_text ((text.length + 15) / 16)).1
          refine Holds.exit ?_
          refine Holds.seq ?_
          refine Holds.seq ?_
          refine Holds.reg ?_
          refine OpsFrom.v (Y.assign (v := (.one (.n .i64 0))) (up0 rfl rfl rfl) rfl rfl) rfl ?_
          refine OpsFrom.nil ?_
          refine Holds.block ?_
          refine Holds.loop (fun (i6_ : Nat) => ⟨[(2, .one (.p 2 0)), (4, .one (.p 4 0)), (9, .one (.p 9 0)), (12, .one (.n .i64 i6_))], [(2, .own (.ints .u8 key)), (4, .own (.ints .u8 (List.replicate 16 0))), (9, .own (.ints .i64 (rtag_it6 key text i6_)))]⟩) (fun (i6_ : Nat) => i6_ ≤ 16) (fun (i6_ : Nat) => 16 - i6_) 0 (by first | (with_reducible assumption) | omega | (simp only [lens, rtag_it1_l, rtag_it2_l, rtag_it3_l, rtag_it4_l1, rtag_it6_l, *]; first | done | omega) | decide | (split <;> simp only [lens, rtag_it1_l, rtag_it2_l, rtag_it3_l, rtag_it4_l1, rtag_it6_l, *]) | (with_reducible exact Lt.mono (by assumption) (by decide))) [] ⟨⟨rfl, rfl, rfl, rfl, trivial⟩, ⟨rfl, rfl, (hEq (congrArg (fun (s : List Nat) => s) (rtag_it6_z key text)).symm), trivial⟩, rfl, rfl⟩ ?_
          intro i6_ k6_
          have hb6 := (rtag_b6 b_key b_text i6_).2 i6_ (Nat.le_refl _)
          have hk6 := b_key (16 + i6_)
          refine Holds.seq ?_
          refine Holds.seq ?_
          refine Holds.reg ?_
          refine OpsFrom.v (Y.move (up0 rfl rfl rfl) rfl rfl) rfl ?_
          refine OpsFrom.v (Y.lss (b := 16) (up0 rfl rfl rfl) rfl rfl rfl) rfl ?_
          refine OpsFrom.nil ?_
          refine Holds.condD rfl (fun h88 => ?_) (fun h88 => ?_)
          · refine Holds.skip ?_
            refine Holds.seq ?_
            refine Holds.block ?_
            refine Holds.dr mx [([91], [92, 93, 94, 95, 96, 97, 98, 99, 100]), ([92], [91, 95, 96, 97, 98, 99]), ([93], [91, 95, 96, 97, 98, 99]), ([94], [91, 95, 96, 97, 98, 99]), ([95], [91, 92, 93, 94]), ([96], [91, 92, 93, 94]), ([97], [91, 92, 93, 94]), ([98], [91, 92, 93, 94]), ([99], [91, 92, 93, 94]), ([100], [91]), ([101], []), ([9], [])] (by kernel_rfl) ?_
            refine CertK.vd (Y.move (up0 rfl rfl rfl) rfl rfl) rfl rfl ?_
            refine CertK.vd (Y.move (up0 rfl rfl rfl) rfl rfl) rfl rfl ?_
            refine CertK.vd (Y.ia0 ty78 ty3 (up0 rfl rfl rfl) rfl rfl rfl (by first | (with_reducible assumption) | omega | (simp only [lens, rtag_it1_l, rtag_it2_l, rtag_it3_l, rtag_it4_l1, rtag_it6_l, *]; first | done | omega) | decide | (split <;> simp only [lens, rtag_it1_l, rtag_it2_l, rtag_it3_l, rtag_it4_l1, rtag_it6_l, *]) | (with_reducible exact Lt.mono (by assumption) (by decide)))) rfl rfl ?_
            refine CertK.vd (Y.ldI ty3 rfl (up0 rfl rfl rfl) rfl rfl rfl (by first | (with_reducible assumption) | omega | (simp only [lens, rtag_it1_l, rtag_it2_l, rtag_it3_l, rtag_it4_l1, rtag_it6_l, *]; first | done | omega) | decide | (split <;> simp only [lens, rtag_it1_l, rtag_it2_l, rtag_it3_l, rtag_it4_l1, rtag_it6_l, *]) | (with_reducible exact Lt.mono (by assumption) (by decide)))) rfl rfl ?_
            refine CertK.vd (Y.move (up0 rfl rfl rfl) rfl rfl) rfl rfl ?_
            refine CertK.vd (Y.addI (a := 16) (up0 rfl rfl rfl) rfl rfl rfl (by first | (with_reducible assumption) | omega | (simp only [lens, rtag_it1_l, rtag_it2_l, rtag_it3_l, rtag_it4_l1, rtag_it6_l, *]; first | done | omega) | decide | (split <;> simp only [lens, rtag_it1_l, rtag_it2_l, rtag_it3_l, rtag_it4_l1, rtag_it6_l, *]) | (with_reducible exact Lt.mono (by assumption) (by decide)))) rfl rfl ?_
            refine CertK.vd (Y.ia0 ty23 ty5 (up0 rfl rfl rfl) rfl rfl rfl (by first | (with_reducible assumption) | omega | (simp only [lens, rtag_it1_l, rtag_it2_l, rtag_it3_l, rtag_it4_l1, rtag_it6_l, *]; first | done | omega) | decide | (split <;> simp only [lens, rtag_it1_l, rtag_it2_l, rtag_it3_l, rtag_it4_l1, rtag_it6_l, *]) | (with_reducible exact Lt.mono (by assumption) (by decide)))) rfl rfl ?_
            refine CertK.vd (Y.ldI ty5 rfl (up0 rfl rfl rfl) rfl rfl rfl (by first | (with_reducible assumption) | omega | (simp only [lens, rtag_it1_l, rtag_it2_l, rtag_it3_l, rtag_it4_l1, rtag_it6_l, *]; first | done | omega) | decide | (split <;> simp only [lens, rtag_it1_l, rtag_it2_l, rtag_it3_l, rtag_it4_l1, rtag_it6_l, *]) | (with_reducible exact Lt.mono (by assumption) (by decide)))) rfl rfl ?_
            refine CertK.vd (Y.convUpI ty5.u ty3.u rfl (by decide) (up0 rfl rfl rfl) rfl rfl) rfl rfl ?_
            refine CertK.vd (Y.addI (up0 rfl rfl rfl) rfl rfl rfl (by first | (with_reducible assumption) | omega | (simp only [lens, rtag_it1_l, rtag_it2_l, rtag_it3_l, rtag_it4_l1, rtag_it6_l, *]; first | done | omega) | decide | (split <;> simp only [lens, rtag_it1_l, rtag_it2_l, rtag_it3_l, rtag_it4_l1, rtag_it6_l, *]) | (with_reducible exact Lt.mono (by assumption) (by decide)))) rfl rfl ?_
            refine CertK.v (Y.ia0 ty78 ty3 (up0 rfl rfl rfl) rfl rfl rfl (by first | (with_reducible assumption) | omega | (simp only [lens, rtag_it1_l, rtag_it2_l, rtag_it3_l, rtag_it4_l1, rtag_it6_l, *]; first | done | omega) | decide | (split <;> simp only [lens, rtag_it1_l, rtag_it2_l, rtag_it3_l, rtag_it4_l1, rtag_it6_l, *]) | (with_reducible exact Lt.mono (by assumption) (by decide)))) rfl ?_
            refine CertK.n (Y.stI ty3 (upN rfl rfl) rfl rfl rfl rfl (by first | (with_reducible assumption) | omega | (simp only [lens, rtag_it1_l, rtag_it2_l, rtag_it3_l, rtag_it4_l1, rtag_it6_l, *]; first | done | omega) | decide | (split <;> simp only [lens, rtag_it1_l, rtag_it2_l, rtag_it3_l, rtag_it4_l1, rtag_it6_l, *]) | (with_reducible exact Lt.mono (by assumption) (by decide)))) rfl rfl rfl rfl ?_
            refine CertK.nil ?_
            refine Holds.reg ?_
            refine OpsFrom.v (Y.move (up0 rfl rfl rfl) rfl rfl) rfl ?_
            refine OpsFrom.v (Y.addI (b := 1) (up0 rfl rfl rfl) rfl rfl rfl (by first | (with_reducible assumption) | omega | (simp only [lens, rtag_it1_l, rtag_it2_l, rtag_it3_l, rtag_it4_l1, rtag_it6_l, *]; first | done | omega) | decide | (split <;> simp only [lens, rtag_it1_l, rtag_it2_l, rtag_it3_l, rtag_it4_l1, rtag_it6_l, *]) | (with_reducible exact Lt.mono (by assumption) (by decide)))) rfl ?_
            refine OpsFrom.v (Y.assign (up0 rfl rfl rfl) rfl rfl) rfl ?_
            refine OpsFrom.nil ?_
            exact Holds.again (i6_ + 1) (by omega) (by omega) [] ⟨⟨rfl, rfl, rfl, (nEq (by omega)), trivial⟩, ⟨rfl, rfl, (hEq (by rw [rtag_it6_s]; unfold rtag_s6; first | (dsimp only; done) | rfl)), trivial⟩, rfl, rfl⟩
          · obtain rfl : i6_ = 16 := by omega
            have hb6 := (rtag_b6 b_key b_text 16).1
            refine Holds.exit ?_
            refine Holds.seq ?_
            refine Holds.reg ?_
            refine OpsFrom.v (Y.ldAll ty78 rfl (up0 rfl rfl rfl) rfl rfl rfl (by first | (with_reducible assumption) | omega | (simp only [lens, rtag_it1_l, rtag_it2_l, rtag_it3_l, rtag_it4_l1, rtag_it6_l, *]; first | done | omega) | decide | (split <;> simp only [lens, rtag_it1_l, rtag_it2_l, rtag_it3_l, rtag_it4_l1, rtag_it6_l, *]) | (with_reducible exact Lt.mono (by assumption) (by decide))) (by decide)) rfl ?_
            refine OpsFrom.v (Y.callV (w_rcarried _ (by first | (with_reducible assumption) | omega | (simp only [lens, rtag_it1_l, rtag_it2_l, rtag_it3_l, rtag_it4_l1, rtag_it6_l, rcarried_len, *]; first | done | omega) | decide | (split <;> simp only [lens, rtag_it1_l, rtag_it2_l, rtag_it3_l, rtag_it4_l1, rtag_it6_l, rcarried_len, *]) | (with_reducible exact Lt.mono (by assumption) (by decide))) (hb6.mono (by decide))) fnok60 (up0 rfl rfl rfl) rfl rfl (.cons _ _ _ _ rfl .nil) (.cons _ _ _ _ (.same _) .nil) rfl rfl) rfl ?_
            refine OpsFrom.n (Y.stR ty78 (upN rfl rfl) rfl rfl rfl rfl rfl (by first | (with_reducible assumption) | omega | (simp only [lens, rtag_it1_l, rtag_it2_l, rtag_it3_l, rtag_it4_l1, rtag_it6_l, rcarried_len, *]; first | done | omega) | decide | (split <;> simp only [lens, rtag_it1_l, rtag_it2_l, rtag_it3_l, rtag_it4_l1, rtag_it6_l, rcarried_len, *]) | (with_reducible exact Lt.mono (by assumption) (by decide))) (by first | (with_reducible assumption) | omega | (simp only [lens, rtag_it1_l, rtag_it2_l, rtag_it3_l, rtag_it4_l1, rtag_it6_l, rcarried_len, *]; first | done | omega) | decide | (split <;> simp only [lens, rtag_it1_l, rtag_it2_l, rtag_it3_l, rtag_it4_l1, rtag_it6_l, rcarried_len, *]) | (with_reducible exact Lt.mono (by assumption) (by decide))) (by decide)) rfl rfl ?_
            refine OpsFrom.nil ?_
            refine Holds.seq ?_
            refine Holds.reg ?_
            refine OpsFrom.v (Y.buildA ty35 ty5 rfl (up0 rfl rfl rfl) rfl (.nil _)) rfl ?_
            refine OpsFrom.u (Y.alloc (d := 13) ty35 rfl rfl (up0 rfl rfl rfl) rfl) rfl rfl rfl ?_
            refine OpsFrom.n (Y.stR ty35 (upN rfl rfl) rfl rfl rfl rfl rfl (by first | (with_reducible assumption) | omega | (simp only [lens, rtag_it1_l, rtag_it2_l, rtag_it3_l, rtag_it4_l1, rtag_it6_l, rcarried_len, *]; first | done | omega) | decide | (split <;> simp only [lens, rtag_it1_l, rtag_it2_l, rtag_it3_l, rtag_it4_l1, rtag_it6_l, rcarried_len, *]) | (with_reducible exact Lt.mono (by assumption) (by decide))) (by first | (with_reducible assumption) | omega | (simp only [lens, rtag_it1_l, rtag_it2_l, rtag_it3_l, rtag_it4_l1, rtag_it6_l, rcarried_len, *]; first | done | omega) | decide | (split <;> simp only [lens, rtag_it1_l, rtag_it2_l, rtag_it3_l, rtag_it4_l1, rtag_it6_l, rcarried_len, *]) | (with_reducible exact Lt.mono (by assumption) (by decide))) (by decide)) rfl rfl ?_
            refine OpsFrom.nil ?_
            refine Holds.seq ?_
            refine Holds.seq ?_
            refine Holds.reg ?_
            refine OpsFrom.v (Y.assign (v := (.one (.n .i64 0))) (up0 rfl rfl rfl) rfl rfl) rfl ?_
            refine OpsFrom.nil ?_
            refine Holds.block ?_
            refine Holds.loop (fun (i7_ : Nat) => ⟨[(4, .one (.p 4 0)), (9, .one (.p 9 0)), (13, .one (.p 13 0)), (14, .one (.n .i64 i7_))], [(4, .own (.ints .u8 (List.replicate 16 0))), (9, .own (.ints .i64 (rcarried (rtag_it6 key text 16)))), (13, .own (.ints .u8 (rtag_it7 key text i7_)))]⟩) (fun (i7_ : Nat) => i7_ ≤ 16) (fun (i7_ : Nat) => 16 - i7_) 0 (by first | (with_reducible assumption) | omega | (simp only [lens, rtag_it1_l, rtag_it2_l, rtag_it3_l, rtag_it4_l1, rtag_it6_l, rcarried_len, rtag_it7_l, *]; first | done | omega) | decide | (split <;> simp only [lens, rtag_it1_l, rtag_it2_l, rtag_it3_l, rtag_it4_l1, rtag_it6_l, rcarried_len, rtag_it7_l, *]) | (with_reducible exact Lt.mono (by assumption) (by decide))) [] ⟨⟨rfl, rfl, rfl, rfl, trivial⟩, ⟨rfl, rfl, (hEq (congrArg (fun (s : List Nat) => s) (rtag_it7_z key text)).symm), trivial⟩, rfl, rfl⟩ ?_
            intro i7_ k7_
            refine Holds.seq ?_
            refine Holds.seq ?_
            refine Holds.reg ?_
            refine OpsFrom.v (Y.move (up0 rfl rfl rfl) rfl rfl) rfl ?_
            refine OpsFrom.v (Y.lss (b := 16) (up0 rfl rfl rfl) rfl rfl rfl) rfl ?_
            refine OpsFrom.nil ?_
            refine Holds.condD rfl (fun h106 => ?_) (fun h106 => ?_)
            · refine Holds.skip ?_
              refine Holds.seq ?_
              refine Holds.block ?_
              refine Holds.reg ?_
              refine OpsFrom.v (Y.move (up0 rfl rfl rfl) rfl rfl) rfl ?_
              refine OpsFrom.v (Y.move (up0 rfl rfl rfl) rfl rfl) rfl ?_
              refine OpsFrom.v (Y.ia0 ty78 ty3 (up0 rfl rfl rfl) rfl rfl rfl (by first | (with_reducible assumption) | omega | (simp only [lens, rtag_it1_l, rtag_it2_l, rtag_it3_l, rtag_it4_l1, rtag_it6_l, rcarried_len, rtag_it7_l, *]; first | done | omega) | decide | (split <;> simp only [lens, rtag_it1_l, rtag_it2_l, rtag_it3_l, rtag_it4_l1, rtag_it6_l, rcarried_len, rtag_it7_l, *]) | (with_reducible exact Lt.mono (by assumption) (by decide)))) rfl ?_
              refine OpsFrom.v (Y.ldI ty3 rfl (up0 rfl rfl rfl) rfl rfl rfl (by first | (with_reducible assumption) | omega | (simp only [lens, rtag_it1_l, rtag_it2_l, rtag_it3_l, rtag_it4_l1, rtag_it6_l, rcarried_len, rtag_it7_l, *]; first | done | omega) | decide | (split <;> simp only [lens, rtag_it1_l, rtag_it2_l, rtag_it3_l, rtag_it4_l1, rtag_it6_l, rcarried_len, rtag_it7_l, *]) | (with_reducible exact Lt.mono (by assumption) (by decide)))) rfl ?_
              refine OpsFrom.v (Y.conv ty3.u ty5.u u8s u8m (up0 rfl rfl rfl) rfl rfl) rfl ?_
              refine OpsFrom.v (Y.ia0 ty35 ty5 (up0 rfl rfl rfl) rfl rfl rfl (by first | (with_reducible assumption) | omega | (simp only [lens, rtag_it1_l, rtag_it2_l, rtag_it3_l, rtag_it4_l1, rtag_it6_l, rcarried_len, rtag_it7_l, *]; first | done | omega) | decide | (split <;> simp only [lens, rtag_it1_l, rtag_it2_l, rtag_it3_l, rtag_it4_l1, rtag_it6_l, rcarried_len, rtag_it7_l, *]) | (with_reducible exact Lt.mono (by assumption) (by decide)))) rfl ?_
              refine OpsFrom.n (Y.stI ty5 (upN rfl rfl) rfl rfl rfl rfl (by first | (with_reducible assumption) | omega | (simp only [lens, rtag_it1_l, rtag_it2_l, rtag_it3_l, rtag_it4_l1, rtag_it6_l, rcarried_len, rtag_it7_l, *]; first | done | omega) | decide | (split <;> simp only [lens, rtag_it1_l, rtag_it2_l, rtag_it3_l, rtag_it4_l1, rtag_it6_l, rcarried_len, rtag_it7_l, *]) | (with_reducible exact Lt.mono (by assumption) (by decide)))) rfl rfl ?_
              refine OpsFrom.nil ?_
              refine Holds.reg ?_
              refine OpsFrom.v (Y.move (up0 rfl rfl rfl) rfl rfl) rfl ?_
              refine OpsFrom.v (Y.addI (b := 1) (up0 rfl rfl rfl) rfl rfl rfl (by first | (with_reducible assumption) | omega | (simp only [lens, rtag_it1_l, rtag_it2_l, rtag_it3_l, rtag_it4_l1, rtag_it6_l, rcarried_len, rtag_it7_l, *]; first | done | omega) | decide | (split <;> simp only [lens, rtag_it1_l, rtag_it2_l, rtag_it3_l, rtag_it4_l1, rtag_it6_l, rcarried_len, rtag_it7_l, *]) | (with_reducible exact Lt.mono (by assumption) (by decide)))) rfl ?_
              refine OpsFrom.v (Y.assign (up0 rfl rfl rfl) rfl rfl) rfl ?_
              refine OpsFrom.nil ?_
              exact Holds.again (i7_ + 1) (by omega) (by omega) [] ⟨⟨rfl, rfl, rfl, (nEq (by omega)), trivial⟩, ⟨rfl, rfl, (hEq (by rw [rtag_it7_s]; unfold rtag_s7; first | (dsimp only; done) | rfl)), trivial⟩, rfl, rfl⟩
            · obtain rfl : i7_ = 16 := by omega
              refine Holds.exit ?_
              refine Holds.seq ?_
              refine Holds.reg ?_
              refine OpsFrom.v (Y.ldAll ty35 rfl (up0 rfl rfl rfl) rfl rfl rfl (by first | (with_reducible assumption) | omega | (simp only [lens, rtag_it1_l, rtag_it2_l, rtag_it3_l, rtag_it4_l1, rtag_it6_l, rcarried_len, rtag_it7_l, *]; first | done | omega) | decide | (split <;> simp only [lens, rtag_it1_l, rtag_it2_l, rtag_it3_l, rtag_it4_l1, rtag_it6_l, rcarried_len, rtag_it7_l, *]) | (with_reducible exact Lt.mono (by assumption) (by decide))) (by decide)) rfl ?_
              refine OpsFrom.n (Y.stR ty35 (upN rfl rfl) rfl rfl rfl rfl rfl (by first | (with_reducible assumption) | omega | (simp only [lens, rtag_it1_l, rtag_it2_l, rtag_it3_l, rtag_it4_l1, rtag_it6_l, rcarried_len, rtag_it7_l, *]; first | done | omega) | decide | (split <;> simp only [lens, rtag_it1_l, rtag_it2_l, rtag_it3_l, rtag_it4_l1, rtag_it6_l, rcarried_len, rtag_it7_l, *]) | (with_reducible exact Lt.mono (by assumption) (by decide))) (by first | (with_reducible assumption) | omega | (simp only [lens, rtag_it1_l, rtag_it2_l, rtag_it3_l, rtag_it4_l1, rtag_it6_l, rcarried_len, rtag_it7_l, *]; first | done | omega) | decide | (split <;> simp only [lens, rtag_it1_l, rtag_it2_l, rtag_it3_l, rtag_it4_l1, rtag_it6_l, rcarried_len, rtag_it7_l, *]) | (with_reducible exact Lt.mono (by assumption) (by decide))) (by decide)) rfl rfl ?_
              refine OpsFrom.nil ?_
              refine Holds.ret ?_
              exact Holds.ret1 (.inl rfl) rfl (.rowN rfl rfl ty35 rfl (by first | (with_reducible assumption) | omega | (simp only [lens, rtag_it1_l, rtag_it2_l, rtag_it3_l, rtag_it4_l1, rtag_it6_l, rcarried_len, rtag_it7_l, *]; first | done | omega) | decide | (split <;> simp only [lens, rtag_it1_l, rtag_it2_l, rtag_it3_l, rtag_it4_l1, rtag_it6_l, rcarried_len, rtag_it7_l, *]) | (with_reducible exact Lt.mono (by assumption) (by decide))) (by decide)) (.same _) rfl


end Go.Proofs.Ytkpelchcpiafaaa
