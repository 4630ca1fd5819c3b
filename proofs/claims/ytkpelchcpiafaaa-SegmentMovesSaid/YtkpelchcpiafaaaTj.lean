/-
  Walks: SegmentMoves.
-/
import Derived.Test.YtkpelchcpiafaaaPl
namespace Go.Proofs.Ytkpelchcpiafaaa
open Go Go.Fx
set_option linter.unusedVariables false
set_option linter.unusedSimpArgs false
def smoves_s1 (key : List Nat) (beside : List Nat) (b : List Nat) (how : Nat) (i : Nat) (k : Nat) (i1_ : Nat) (m1_ : List Nat) : List Nat :=
  let v22_ : List Nat := (segs ((sseal key beside b).1)).getD i1_ []
  if ((how % 4) = 0) ∧ (i1_ = (i % ((segs ((sseal key beside b).1)).length))) then
    m1_
  else
    let v23_ : List Nat := if ((how % 4) = 1) ∧ (i1_ = (i % ((segs ((sseal key beside b).1)).length))) then v22_ ++ v22_ else v22_
    let v25_ : List Nat := if ((how % 4) = 2) ∧ (i1_ = (i % ((segs ((sseal key beside b).1)).length))) then ((segs ((sseal key beside b).1)).getD (k % ((segs ((sseal key beside b).1)).length)) []) else v23_
    let v27_ : List Nat := if ((how % 4) = 2) ∧ (i1_ = (k % ((segs ((sseal key beside b).1)).length))) then ((segs ((sseal key beside b).1)).getD (i % ((segs ((sseal key beside b).1)).length)) []) else v25_
    m1_ ++ v27_
def smoves_it1 (key : List Nat) (beside : List Nat) (b : List Nat) (how : Nat) (i : Nat) (k : Nat) (i1_ : Nat) : List Nat := iter (smoves_s1 key beside b how i k) i1_ []
theorem smoves_it1_z (key : List Nat) (beside : List Nat) (b : List Nat) (how : Nat) (i : Nat) (k : Nat) : smoves_it1 key beside b how i k 0 = [] := rfl
theorem smoves_it1_s (key : List Nat) (beside : List Nat) (b : List Nat) (how : Nat) (i : Nat) (k : Nat) (i1_ : Nat) : smoves_it1 key beside b how i k (i1_ + 1) = smoves_s1 key beside b how i k i1_ (smoves_it1 key beside b how i k i1_) := by unfold smoves_it1; exact iterS _ _ _
theorem xl2 {x y : Nat} (h : x < 256) (h2 : y < 256) : x ^^^ y < 256 := Nat.xor_lt_two_pow (n := 8) h h2
theorem segs_lt {s : List Nat} (h : Lt 256 s) (j : Nat) : Lt 256 ((segs s).getD j []) := by
  by_cases q : j ≤ (s.length - 1) / 528
  · rw [segs_get s q]; exact (h.drop _).take _
  · rw [List.getD_eq_getElem?_getD, List.getElem?_eq_none (by rw [segs_len]; omega)]
    exact Lt.of_mem (by decide) (by simp)
theorem sseal_lt {key beside b : List Nat} (lk : key.length = 32) (hk : Lt 256 key) (hs : Lt 256 beside) (lb : Lt 256 b) (hb : b.length ≤ 4194304) : Lt 256 (sseal key beside b).1 := by
  have : ∀ i, 512 * i ≤ b.length → Lt 256 (sseal_it1 key beside b i).2.2 := by
    intro i
    induction i with
    | zero => intro _; exact Lt.of_mem (by decide) (by rw [sseal_it1_z]; simp)
    | succ i ih =>
      intro h
      rw [sseal_out beside hb i (by omega)]
      exact (ih (by omega)).append (segm_lt lk hk hs lb i)
  rw [sseal_all beside hb]
  exact (this _ (by omega)).append (segm_lt lk hk hs lb _)
theorem smoves_n (key beside b : List Nat) (how i k : Nat) : ∀ j, (smoves_it1 key beside b how i k j).length ≤ 1056 * j
  | 0 => Nat.le_refl _
  | j + 1 => by
    have ih := smoves_n key beside b how i k j
    have h1 := segs_le (sseal key beside b).1 j
    have h2 := segs_le (sseal key beside b).1 (k % (segs (sseal key beside b).1).length)
    have h3 := segs_le (sseal key beside b).1 (i % (segs (sseal key beside b).1).length)
    rw [smoves_it1_s]
    unfold smoves_s1
    dsimp only
    (repeat' split) <;> first | omega | (simp only [List.length_append]; omega)
theorem smoves_lt {key beside b : List Nat} (how i k : Nat) (h : ∀ j, Lt 256 ((segs (sseal key beside b).1).getD j [])) : ∀ j, Lt 256 (smoves_it1 key beside b how i k j)
  | 0 => Lt.of_mem (by decide) (by rw [smoves_it1_z]; simp)
  | j + 1 => by
    have ih := smoves_lt how i k h j
    rw [smoves_it1_s]
    unfold smoves_s1
    dsimp only
    split
    · exact ih
    · refine ih.append ?_
      (repeat' split) <;> first | exact h _ | exact (h _).append (h _)
theorem smoves_id (key beside b : List Nat) {how : Nat} (i k : Nat) (hw : how % 4 = 3) : ∀ j, j ≤ ((sseal key beside b).1.length - 1) / 528 + 1 → smoves_it1 key beside b how i k j = (sseal key beside b).1.take (528 * j)
  | 0, _ => rfl
  | j + 1, h => by
    rw [smoves_it1_s, smoves_id key beside b i k hw j (by omega)]
    unfold smoves_s1
    dsimp only
    rw [if_neg (fun q => by have := q.1; omega), if_neg (fun q => by have := q.1; omega), if_neg (fun q => by have := q.1; omega), if_neg (fun q => by have := q.1; omega), segs_get _ (by omega), ← List.take_add]
    rfl
theorem smoves_all (key beside b : List Nat) {how : Nat} (i k : Nat) (hw : how % 4 = 3) : smoves_it1 key beside b how i k (segs (sseal key beside b).1).length = (sseal key beside b).1 := by
  rw [smoves_id key beside b i k hw _ (by rw [segs_len]; omega), segs_len]
  exact List.take_of_length_le (by omega)
theorem smoves_same {key : List Nat} (lk : key.length = 32) (beside : List Nat) {b o : List Nat} (hb : b.length ≤ 4000000) (h : ¬ (!decide (o = (sseal key beside b).1)) = true) : (sopen key beside o).2 = 0 := by
  have : o = (sseal key beside b).1 := by simpa using h
  rw [this, sopen_sealed lk beside hb]
theorem w_smoves (key : List Nat) (beside : List Nat) (b : List Nat) (how : Nat) (i : Nat) (k : Nat) (by_ : Nat) (l_key : key.length = 32) : VC Try.prog 24 [.row (.ints .u8 key), .one (.bs false .u8 beside), .one (.bs false .u8 b), .one (.n .u8 how), .one (.n .u8 i), .one (.n .u8 k), .one (.n .u8 by_)] (.one (.b true)) := by
  refine VC.go Try.func24 rfl Try.ntmps24 rfl rfl fun O w => ?_
  refine Holds.ltRow 0 rfl u8s u8m (fun b_key => ?_)
  refine Holds.ltBs 1 rfl u8s u8m (fun b_beside => ?_)
  refine Holds.ltBs 2 rfl u8s u8m (fun b_b => ?_)
  refine Holds.ltN 6 rfl u8s u8m (fun b_by => ?_)
  refine Holds.ltN 4 rfl u8s u8m (fun b_i => ?_)
  refine Holds.ltN 5 rfl u8s u8m (fun b_k => ?_)
  have hik : i * k < 256 * 256 := Nat.mul_lt_mul_of_lt_of_lt b_i b_k
  refine Holds.seq ?_
  refine Holds.reg ?_
  refine OpsFrom.u (Y.boxR (d := 7) (up0 rfl rfl rfl) rfl rfl rfl) rfl rfl rfl ?_
  refine OpsFrom.v (Y.assign (up0 rfl rfl rfl) rfl rfl) rfl ?_
  refine OpsFrom.nil ?_
  refine Holds.seq ?_
  refine Holds.reg ?_
  refine OpsFrom.v (Y.callV w_sawake fnok34 (up0 rfl rfl rfl) rfl rfl .nil .nil rfl rfl) rfl ?_
  refine OpsFrom.v (Y.assign (up0 rfl rfl rfl) rfl rfl) rfl ?_
  refine OpsFrom.nil ?_
  refine Holds.seq ?_
  refine Holds.seqJoin ⟨[(1, .one (.bs false .u8 beside)), (2, .one (.bs false .u8 b)), (3, .one (.n .u8 how)), (4, .one (.n .u8 i)), (5, .one (.n .u8 k)), (6, .one (.n .u8 by_)), (7, .one (.p 7 0)), (14, .one (.b false)), (15, .one (.b true)), (37, .one (.b (decide ((500 < beside.length) ∨ (3000 < b.length)))))], [(7, .own (.ints .u8 key))]⟩ ?_ (fun join => ?_)
  · refine Holds.condD rfl (fun h37 => ?_) (fun h37 => ?_)
    · refine Holds.seq ?_
      refine Holds.reg ?_
      refine OpsFrom.v (Y.move (up0 rfl rfl rfl) rfl rfl) rfl ?_
      refine OpsFrom.v (Y.assign (up0 rfl rfl rfl) rfl rfl) rfl ?_
      refine OpsFrom.nil ?_
      refine Holds.ret ?_
      exact Holds.ret1 (.inl rfl) rfl (.tmp _ _ rfl) (.same _) rfl
    · refine Holds.skip ?_
      refine Holds.seq ?_
      refine Holds.reg ?_
      refine OpsFrom.v (Y.ldAll ty23 rfl (up0 rfl rfl rfl) rfl rfl rfl (by first | (with_reducible assumption) | omega | (simp only [lens, List.flatten_cons, List.flatten_nil, List.append_nil, List.length_cons, List.length_nil, Cs.len, List.length_map, List.length_set, List.length_replicate, *]; first | done | omega) | decide | (split <;> simp only [lens, List.flatten_cons, List.flatten_nil, List.append_nil, List.length_cons, List.length_nil, Cs.len, List.length_map, List.length_set, List.length_replicate, *]) | (with_reducible exact Lt.mono (by assumption) (by decide)) | (simp only [Cs.len]; done) | rfl) (by decide)) rfl ?_
      refine OpsFrom.v (Y.move (up0 rfl rfl rfl) rfl rfl) rfl ?_
      refine OpsFrom.v (Y.move (up0 rfl rfl rfl) rfl rfl) rfl ?_
      refine OpsFrom.u (Y.callF (d := 43) (w_sseal _ _ _ (by first | (with_reducible assumption) | omega | (simp only [lens, List.flatten_cons, List.flatten_nil, List.append_nil, List.length_cons, List.length_nil, Cs.len, List.length_map, List.length_set, List.length_replicate, *]; first | done | omega) | decide | (split <;> simp only [lens, List.flatten_cons, List.flatten_nil, List.append_nil, List.length_cons, List.length_nil, Cs.len, List.length_map, List.length_set, List.length_replicate, *]) | (with_reducible exact Lt.mono (by assumption) (by decide)) | (simp only [Cs.len]; done) | rfl) (by first | (with_reducible assumption) | omega | (simp only [lens, List.flatten_cons, List.flatten_nil, List.append_nil, List.length_cons, List.length_nil, Cs.len, List.length_map, List.length_set, List.length_replicate, *]; first | done | omega) | decide | (split <;> simp only [lens, List.flatten_cons, List.flatten_nil, List.append_nil, List.length_cons, List.length_nil, Cs.len, List.length_map, List.length_set, List.length_replicate, *]) | (with_reducible exact Lt.mono (by assumption) (by decide)) | (simp only [Cs.len]; done) | rfl) (by first | (with_reducible assumption) | omega | (simp only [lens, List.flatten_cons, List.flatten_nil, List.append_nil, List.length_cons, List.length_nil, Cs.len, List.length_map, List.length_set, List.length_replicate, *]; first | done | omega) | decide | (split <;> simp only [lens, List.flatten_cons, List.flatten_nil, List.append_nil, List.length_cons, List.length_nil, Cs.len, List.length_map, List.length_set, List.length_replicate, *]) | (with_reducible exact Lt.mono (by assumption) (by decide)) | (simp only [Cs.len]; done) | rfl)) fnok37 (up0 rfl rfl rfl) rfl rfl (.cons _ _ _ _ rfl (.cons _ _ _ _ rfl (.cons _ _ _ _ rfl .nil))) (.cons _ _ _ _ (.same _) (.cons _ _ _ _ (.same _) (.cons _ _ _ _ (.same _) .nil))) rfl rfl rfl) rfl rfl rfl ?_
      refine OpsFrom.v (Y.move (up0 rfl rfl rfl) rfl rfl) rfl ?_
      refine OpsFrom.v (Y.ext0 (up0 rfl rfl rfl) rfl rfl) rfl ?_
      refine OpsFrom.v (Y.ext1 (up0 rfl rfl rfl) rfl rfl) rfl ?_
      refine OpsFrom.v (Y.assign (up0 rfl rfl rfl) rfl rfl) rfl ?_
      refine OpsFrom.v (Y.assign (up0 rfl rfl rfl) rfl rfl) rfl ?_
      refine OpsFrom.nil ?_
      refine Holds.seq ?_
      refine Holds.seq ?_
      have hsl := sseal_len l_key beside (b := b) (by omega)
      refine Holds.reg ?_
      refine OpsFrom.v (Y.move (up0 rfl rfl rfl) rfl rfl) rfl ?_
      refine OpsFrom.v (Y.len ty26 (up0 rfl rfl rfl) rfl rfl rfl rfl) rfl ?_
      refine OpsFrom.v (Doing.isB (c := false) (decide_eq_false (by first | (with_reducible assumption) | omega | (simp only [lens, List.flatten_cons, List.flatten_nil, List.append_nil, List.length_cons, List.length_nil, Cs.len, List.length_map, List.length_set, List.length_replicate, *]; first | done | omega) | decide | (split <;> simp only [lens, List.flatten_cons, List.flatten_nil, List.append_nil, List.length_cons, List.length_nil, Cs.len, List.length_map, List.length_set, List.length_replicate, *]) | (with_reducible exact Lt.mono (by assumption) (by decide)) | (simp only [Cs.len]; done) | rfl)) (Y.eql (b := 0) (up0 rfl rfl rfl) rfl rfl rfl)) rfl ?_
      refine OpsFrom.nil ?_
      refine Holds.condF rfl ?_
      refine Holds.skip ?_
      refine Holds.seq ?_
      refine Holds.reg ?_
      refine OpsFrom.v (Y.bldS0 ty26 ty5 (up0 rfl rfl rfl) rfl) rfl ?_
      refine OpsFrom.v (Y.move (up0 rfl rfl rfl) rfl rfl) rfl ?_
      refine OpsFrom.u (Y.app (d := 51) ty26 ty5 rfl ty26 (by decide) (up0 rfl rfl rfl) rfl rfl rfl (.nilI _) rfl (.all rfl (by first | (with_reducible assumption) | omega | (simp only [lens, List.flatten_cons, List.flatten_nil, List.append_nil, List.length_cons, List.length_nil, Cs.len, List.length_map, List.length_set, List.length_replicate, *]; first | done | omega) | decide | (split <;> simp only [lens, List.flatten_cons, List.flatten_nil, List.append_nil, List.length_cons, List.length_nil, Cs.len, List.length_map, List.length_set, List.length_replicate, *]) | (with_reducible exact Lt.mono (by assumption) (by decide)) | (simp only [Cs.len]; done) | rfl)) App.i0 (by first | (with_reducible assumption) | omega | (simp only [lens, List.flatten_cons, List.flatten_nil, List.append_nil, List.length_cons, List.length_nil, Cs.len, List.length_map, List.length_set, List.length_replicate, *]; first | done | omega) | decide | (split <;> simp only [lens, List.flatten_cons, List.flatten_nil, List.append_nil, List.length_cons, List.length_nil, Cs.len, List.length_map, List.length_set, List.length_replicate, *]) | (with_reducible exact Lt.mono (by assumption) (by decide)) | (simp only [Cs.len]; done) | rfl) rfl (by first | (simp; done) | (rintro ⟨_, _, _, h⟩; cases h))) rfl rfl rfl ?_
      refine OpsFrom.u (Y.callK (id := 51) (w_segs _ (by first | (with_reducible assumption) | omega | (simp only [lens, List.flatten_cons, List.flatten_nil, List.append_nil, List.length_cons, List.length_nil, Cs.len, List.length_map, List.length_set, List.length_replicate, *]; first | done | omega) | decide | (split <;> simp only [lens, List.flatten_cons, List.flatten_nil, List.append_nil, List.length_cons, List.length_nil, Cs.len, List.length_map, List.length_set, List.length_replicate, *]) | (with_reducible exact Lt.mono (by assumption) (by decide)) | (simp only [Cs.len]; done) | rfl)) fnok48 (up0 rfl rfl rfl) rfl rfl (.cons _ _ _ _ rfl .nil) rfl (.cons _ _ _ _ (.all rfl (by first | (with_reducible assumption) | omega | (simp only [lens, List.flatten_cons, List.flatten_nil, List.append_nil, List.length_cons, List.length_nil, Cs.len, List.length_map, List.length_set, List.length_replicate, *]; first | done | omega) | decide | (split <;> simp only [lens, List.flatten_cons, List.flatten_nil, List.append_nil, List.length_cons, List.length_nil, Cs.len, List.length_map, List.length_set, List.length_replicate, *]) | (with_reducible exact Lt.mono (by assumption) (by decide)) | (simp only [Cs.len]; done) | rfl)) .nil) rfl rfl) rfl rfl rfl ?_
      refine OpsFrom.v (Y.assign (up0 rfl rfl rfl) rfl rfl) rfl ?_
      refine OpsFrom.nil ?_
      refine Holds.seq ?_
      have hsg := segs_sealed l_key beside (b := b) (by omega)
      have hmi := Nat.mod_lt i (show 0 < (segs (sseal key beside b).1).length by omega)
      have hmk := Nat.mod_lt k (show 0 < (segs (sseal key beside b).1).length by omega)
      have hmt := smoves_lt how i k (segs_lt (sseal_lt l_key b_key b_beside b_b (by omega)))
      have hsx := segs_le (sseal key beside b).1 (i % (segs (sseal key beside b).1).length)
      have hsy := segs_le (sseal key beside b).1 (k % (segs (sseal key beside b).1).length)
      refine Holds.reg ?_
      refine OpsFrom.v (Y.move (up0 rfl rfl rfl) rfl rfl) rfl ?_
      refine OpsFrom.v (Y.convUpI ty5.u ty3.u rfl (by decide) (up0 rfl rfl rfl) rfl rfl) rfl ?_
      refine OpsFrom.v (Y.move (up0 rfl rfl rfl) rfl rfl) rfl ?_
      refine OpsFrom.v (Y.len ty39 (up0 rfl rfl rfl) rfl rfl rfl rfl) rfl ?_
      refine OpsFrom.v (Y.rem (up0 rfl rfl rfl) rfl rfl rfl (by first | (with_reducible assumption) | omega | (simp only [lens, List.flatten_cons, List.flatten_nil, List.append_nil, List.length_cons, List.length_nil, Cs.len, List.length_map, List.length_set, List.length_replicate, *]; first | done | omega) | decide | (split <;> simp only [lens, List.flatten_cons, List.flatten_nil, List.append_nil, List.length_cons, List.length_nil, Cs.len, List.length_map, List.length_set, List.length_replicate, *]) | (with_reducible exact Lt.mono (by assumption) (by decide)) | (simp only [Cs.len]; done) | rfl)) rfl ?_
      refine OpsFrom.v (Y.assign (up0 rfl rfl rfl) rfl rfl) rfl ?_
      refine OpsFrom.nil ?_
      refine Holds.seq ?_
      refine Holds.reg ?_
      refine OpsFrom.v (Y.move (up0 rfl rfl rfl) rfl rfl) rfl ?_
      refine OpsFrom.v (Y.convUpI ty5.u ty3.u rfl (by decide) (up0 rfl rfl rfl) rfl rfl) rfl ?_
      refine OpsFrom.v (Y.move (up0 rfl rfl rfl) rfl rfl) rfl ?_
      refine OpsFrom.v (Y.len ty39 (up0 rfl rfl rfl) rfl rfl rfl rfl) rfl ?_
      refine OpsFrom.v (Y.rem (up0 rfl rfl rfl) rfl rfl rfl (by first | (with_reducible assumption) | omega | (simp only [lens, List.flatten_cons, List.flatten_nil, List.append_nil, List.length_cons, List.length_nil, Cs.len, List.length_map, List.length_set, List.length_replicate, *]; first | done | omega) | decide | (split <;> simp only [lens, List.flatten_cons, List.flatten_nil, List.append_nil, List.length_cons, List.length_nil, Cs.len, List.length_map, List.length_set, List.length_replicate, *]) | (with_reducible exact Lt.mono (by assumption) (by decide)) | (simp only [Cs.len]; done) | rfl)) rfl ?_
      refine OpsFrom.v (Y.assign (up0 rfl rfl rfl) rfl rfl) rfl ?_
      refine OpsFrom.nil ?_
      refine Holds.seq ?_
      refine Holds.reg ?_
      refine OpsFrom.v (Y.assign (up0 rfl rfl rfl) rfl rfl) rfl ?_
      refine OpsFrom.nil ?_
      refine Holds.seq ?_
      refine Holds.seq ?_
      refine Holds.reg ?_
      refine OpsFrom.v (Y.assign (v := (.one (.n .i64 0))) (up0 rfl rfl rfl) rfl rfl) rfl ?_
      refine OpsFrom.nil ?_
      refine Holds.block ?_
      refine Holds.grow 21 21 (.ints .u8 []) rfl rfl rfl ?_
      refine Holds.loop (fun (i1_ : Nat) => ⟨[(1, .one (.bs false .u8 beside)), (3, .one (.n .u8 how)), (4, .one (.n .u8 i)), (5, .one (.n .u8 k)), (6, .one (.n .u8 by_)), (7, .one (.p 7 0)), (14, .one (.b false)), (15, .one (.b true)), (16, .one (.sg 43 0 (((sseal key beside b).1).length))), (18, .one (.bss false (segs ((sseal key beside b).1)))), (19, .one (.n .i64 (i % ((segs ((sseal key beside b).1)).length)))), (20, .one (.n .i64 (k % ((segs ((sseal key beside b).1)).length)))), (21, .one (.sg 21 0 ((smoves_it1 key beside b how i k i1_).length))), (22, .one (.n .i64 i1_))], [(7, .own (.ints .u8 key)), (43, .own (.ints .u8 ((sseal key beside b).1))), (21, .own (.ints .u8 (smoves_it1 key beside b how i k i1_)))]⟩) (fun (i1_ : Nat) => i1_ ≤ ((segs ((sseal key beside b).1)).length)) (fun (i1_ : Nat) => ((segs ((sseal key beside b).1)).length) - i1_) 0 (by first | (with_reducible assumption) | omega | (simp only [lens, List.flatten_cons, List.flatten_nil, List.append_nil, List.length_cons, List.length_nil, Cs.len, List.length_map, List.length_set, List.length_replicate, *]; first | done | omega) | decide | (split <;> simp only [lens, List.flatten_cons, List.flatten_nil, List.append_nil, List.length_cons, List.length_nil, Cs.len, List.length_map, List.length_set, List.length_replicate, *]) | (with_reducible exact Lt.mono (by assumption) (by decide)) | (simp only [Cs.len]; done) | rfl) [] ⟨⟨rfl, rfl, rfl, rfl, rfl, rfl, rfl, rfl, rfl, rfl, rfl, rfl, rfl, rfl, trivial⟩, ⟨rfl, rfl, (hEq (congrArg (fun (s : List Nat) => s) (smoves_it1_z key beside b how i k)).symm), trivial⟩, rfl, rfl⟩ ?_
      intro i1_ k1_
      have hn := smoves_n key beside b how i k i1_
      have hsi := segs_le (sseal key beside b).1 i1_
      refine Holds.seq ?_
      refine Holds.seq ?_
      refine Holds.reg ?_
      refine OpsFrom.v (Y.move (up0 rfl rfl rfl) rfl rfl) rfl ?_
      refine OpsFrom.v (Y.move (up0 rfl rfl rfl) rfl rfl) rfl ?_
      refine OpsFrom.v (Y.len ty39 (up0 rfl rfl rfl) rfl rfl rfl rfl) rfl ?_
      refine OpsFrom.v (Y.lss (up0 rfl rfl rfl) rfl rfl rfl) rfl ?_
      refine OpsFrom.nil ?_
      refine Holds.condD rfl (fun h66 => ?_) (fun h66 => ?_)
      · refine Holds.skip ?_
        refine Holds.seq ?_
        refine Holds.block ?_
        refine Holds.seq ?_
        refine Holds.reg ?_
        refine OpsFrom.v (Y.move (up0 rfl rfl rfl) rfl rfl) rfl ?_
        refine OpsFrom.v (Y.move (up0 rfl rfl rfl) rfl rfl) rfl ?_
        refine OpsFrom.v (Y.iaBss ty39 ty26 (up0 rfl rfl rfl) rfl rfl rfl (by first | (with_reducible assumption) | omega | (simp only [lens, List.flatten_cons, List.flatten_nil, List.append_nil, List.length_cons, List.length_nil, Cs.len, List.length_map, List.length_set, List.length_replicate, *]; first | done | omega) | decide | (split <;> simp only [lens, List.flatten_cons, List.flatten_nil, List.append_nil, List.length_cons, List.length_nil, Cs.len, List.length_map, List.length_set, List.length_replicate, *]) | (with_reducible exact Lt.mono (by assumption) (by decide)) | (simp only [Cs.len]; done) | rfl)) rfl ?_
        refine OpsFrom.v (Y.ldPcb ty26 rfl (up0 rfl rfl rfl) rfl rfl) rfl ?_
        refine OpsFrom.v (Y.assign (up0 rfl rfl rfl) rfl rfl) rfl ?_
        refine OpsFrom.nil ?_
        refine Holds.seq ?_
        refine Holds.seqJoin ⟨[(1, .one (.bs false .u8 beside)), (3, .one (.n .u8 how)), (4, .one (.n .u8 i)), (5, .one (.n .u8 k)), (6, .one (.n .u8 by_)), (7, .one (.p 7 0)), (14, .one (.b false)), (15, .one (.b true)), (16, .one (.sg 43 0 (((sseal key beside b).1).length))), (18, .one (.bss false (segs ((sseal key beside b).1)))), (19, .one (.n .i64 (i % ((segs ((sseal key beside b).1)).length)))), (20, .one (.n .i64 (k % ((segs ((sseal key beside b).1)).length)))), (21, .one (.sg 21 0 ((smoves_it1 key beside b how i k i1_).length))), (22, .one (.n .i64 i1_)), (63, .one (.n .i64 i1_)), (64, .one (.bss false (segs ((sseal key beside b).1)))), (65, .one (.n .i64 ((segs ((sseal key beside b).1)).length))), (66, .one (.b (decide (i1_ < ((segs ((sseal key beside b).1)).length))))), (69, .one (.bss false (segs ((sseal key beside b).1)))), (70, .one (.n .i64 i1_)), (71, .one (.pcb ((segs ((sseal key beside b).1)).getD i1_ []))), (72, .one (.bs false .u8 ((segs ((sseal key beside b).1)).getD i1_ []))), (23, .one (.bs false .u8 ((segs ((sseal key beside b).1)).getD i1_ []))), (73, .one (.n .u8 how)), (74, .one (.n .u8 (how % 4))), (75, .one (.b (decide ((how % 4) = 0)))), (76, .one (.b (decide ((how % 4) = 0)))), (80, .one (.b (decide (((how % 4) = 0) ∧ (i1_ = (i % ((segs ((sseal key beside b).1)).length)))))))], [(7, .own (.ints .u8 key)), (43, .own (.ints .u8 ((sseal key beside b).1))), (21, .own (.ints .u8 (smoves_it1 key beside b how i k i1_)))]⟩ ?_ (fun join => ?_)
        · refine Holds.condD rfl (fun h80 => ?_) (fun h80 => ?_)
          · refine Holds.exit ?_
            refine Holds.reg ?_
            refine OpsFrom.v (Y.move (up0 rfl rfl rfl) rfl rfl) rfl ?_
            refine OpsFrom.v (Y.addI (b := 1) (up0 rfl rfl rfl) rfl rfl rfl (by first | (with_reducible assumption) | omega | (simp only [lens, List.flatten_cons, List.flatten_nil, List.append_nil, List.length_cons, List.length_nil, Cs.len, List.length_map, List.length_set, List.length_replicate, *]; first | done | omega) | decide | (split <;> simp only [lens, List.flatten_cons, List.flatten_nil, List.append_nil, List.length_cons, List.length_nil, Cs.len, List.length_map, List.length_set, List.length_replicate, *]) | (with_reducible exact Lt.mono (by assumption) (by decide)) | (simp only [Cs.len]; done) | rfl)) rfl ?_
            refine OpsFrom.v (Y.assign (up0 rfl rfl rfl) rfl rfl) rfl ?_
            refine OpsFrom.nil ?_
            exact Holds.again (i1_ + 1) (by omega) (by omega) [(21, 21)] ⟨⟨rfl, rfl, rfl, rfl, rfl, rfl, rfl, rfl, rfl, rfl, rfl, rfl, (sgEq (congrArg List.length (congrArg (fun (s : List Nat) => s) ((smoves_it1_s key beside b how i k i1_).trans ((if_pos h80)))).symm) rfl), (nEq (by omega)), trivial⟩, ⟨rfl, rfl, (hEq (congrArg (fun (s : List Nat) => s) ((smoves_it1_s key beside b how i k i1_).trans ((if_pos h80)))).symm), trivial⟩, rfl, rfl⟩
          · refine Holds.skip ?_
            refine Holds.seqJoin ⟨[(1, .one (.bs false .u8 beside)), (3, .one (.n .u8 how)), (4, .one (.n .u8 i)), (5, .one (.n .u8 k)), (6, .one (.n .u8 by_)), (7, .one (.p 7 0)), (14, .one (.b false)), (15, .one (.b true)), (16, .one (.sg 43 0 (((sseal key beside b).1).length))), (18, .one (.bss false (segs ((sseal key beside b).1)))), (19, .one (.n .i64 (i % ((segs ((sseal key beside b).1)).length)))), (20, .one (.n .i64 (k % ((segs ((sseal key beside b).1)).length)))), (21, .one (.sg 21 0 ((smoves_it1 key beside b how i k i1_).length))), (22, .one (.n .i64 i1_)), (63, .one (.n .i64 i1_)), (64, .one (.bss false (segs ((sseal key beside b).1)))), (65, .one (.n .i64 ((segs ((sseal key beside b).1)).length))), (66, .one (.b (decide (i1_ < ((segs ((sseal key beside b).1)).length))))), (69, .one (.bss false (segs ((sseal key beside b).1)))), (70, .one (.n .i64 i1_)), (71, .one (.pcb ((segs ((sseal key beside b).1)).getD i1_ []))), (72, .one (.bs false .u8 ((segs ((sseal key beside b).1)).getD i1_ []))), (23, .one (.bs false .u8 (if ((how % 4) = 1) ∧ (i1_ = (i % ((segs ((sseal key beside b).1)).length))) then ((segs ((sseal key beside b).1)).getD i1_ []) ++ ((segs ((sseal key beside b).1)).getD i1_ []) else ((segs ((sseal key beside b).1)).getD i1_ [])))), (73, .one (.n .u8 how)), (74, .one (.n .u8 (how % 4))), (75, .one (.b (decide ((how % 4) = 0)))), (76, .one (.b (decide ((how % 4) = 0)))), (80, .one (.b (decide (((how % 4) = 0) ∧ (i1_ = (i % ((segs ((sseal key beside b).1)).length))))))), (81, .one (.n .u8 how)), (82, .one (.n .u8 (how % 4))), (83, .one (.b (decide ((how % 4) = 1)))), (84, .one (.b (decide ((how % 4) = 1)))), (88, .one (.b (decide (((how % 4) = 1) ∧ (i1_ = (i % ((segs ((sseal key beside b).1)).length)))))))], [(7, .own (.ints .u8 key)), (43, .own (.ints .u8 ((sseal key beside b).1))), (21, .own (.ints .u8 (smoves_it1 key beside b how i k i1_)))]⟩ ?_ (fun join => ?_)
            · refine Holds.seqJoin ⟨[(1, .one (.bs false .u8 beside)), (3, .one (.n .u8 how)), (4, .one (.n .u8 i)), (5, .one (.n .u8 k)), (6, .one (.n .u8 by_)), (7, .one (.p 7 0)), (14, .one (.b false)), (15, .one (.b true)), (16, .one (.sg 43 0 (((sseal key beside b).1).length))), (18, .one (.bss false (segs ((sseal key beside b).1)))), (19, .one (.n .i64 (i % ((segs ((sseal key beside b).1)).length)))), (20, .one (.n .i64 (k % ((segs ((sseal key beside b).1)).length)))), (21, .one (.sg 21 0 ((smoves_it1 key beside b how i k i1_).length))), (22, .one (.n .i64 i1_)), (63, .one (.n .i64 i1_)), (64, .one (.bss false (segs ((sseal key beside b).1)))), (65, .one (.n .i64 ((segs ((sseal key beside b).1)).length))), (66, .one (.b (decide (i1_ < ((segs ((sseal key beside b).1)).length))))), (69, .one (.bss false (segs ((sseal key beside b).1)))), (70, .one (.n .i64 i1_)), (71, .one (.pcb ((segs ((sseal key beside b).1)).getD i1_ []))), (72, .one (.bs false .u8 ((segs ((sseal key beside b).1)).getD i1_ []))), (23, .one (.bs false .u8 (if ((how % 4) = 2) ∧ (i1_ = (i % ((segs ((sseal key beside b).1)).length))) then ((segs ((sseal key beside b).1)).getD (k % ((segs ((sseal key beside b).1)).length)) []) else (if ((how % 4) = 1) ∧ (i1_ = (i % ((segs ((sseal key beside b).1)).length))) then ((segs ((sseal key beside b).1)).getD i1_ []) ++ ((segs ((sseal key beside b).1)).getD i1_ []) else ((segs ((sseal key beside b).1)).getD i1_ []))))), (73, .one (.n .u8 how)), (74, .one (.n .u8 (how % 4))), (75, .one (.b (decide ((how % 4) = 0)))), (76, .one (.b (decide ((how % 4) = 0)))), (80, .one (.b (decide (((how % 4) = 0) ∧ (i1_ = (i % ((segs ((sseal key beside b).1)).length))))))), (81, .one (.n .u8 how)), (82, .one (.n .u8 (how % 4))), (83, .one (.b (decide ((how % 4) = 1)))), (84, .one (.b (decide ((how % 4) = 1)))), (88, .one (.b (decide (((how % 4) = 1) ∧ (i1_ = (i % ((segs ((sseal key beside b).1)).length))))))), (94, .one (.n .u8 how)), (95, .one (.n .u8 (how % 4))), (96, .one (.b (decide ((how % 4) = 2)))), (97, .one (.b (decide ((how % 4) = 2)))), (101, .one (.b (decide (((how % 4) = 2) ∧ (i1_ = (i % ((segs ((sseal key beside b).1)).length)))))))], [(7, .own (.ints .u8 key)), (43, .own (.ints .u8 ((sseal key beside b).1))), (21, .own (.ints .u8 (smoves_it1 key beside b how i k i1_)))]⟩ ?_ (fun join => ?_)
              · refine Holds.seqJoin ⟨[(1, .one (.bs false .u8 beside)), (3, .one (.n .u8 how)), (4, .one (.n .u8 i)), (5, .one (.n .u8 k)), (6, .one (.n .u8 by_)), (7, .one (.p 7 0)), (14, .one (.b false)), (15, .one (.b true)), (16, .one (.sg 43 0 (((sseal key beside b).1).length))), (18, .one (.bss false (segs ((sseal key beside b).1)))), (19, .one (.n .i64 (i % ((segs ((sseal key beside b).1)).length)))), (20, .one (.n .i64 (k % ((segs ((sseal key beside b).1)).length)))), (21, .one (.sg 21 0 ((smoves_it1 key beside b how i k i1_).length))), (22, .one (.n .i64 i1_)), (63, .one (.n .i64 i1_)), (64, .one (.bss false (segs ((sseal key beside b).1)))), (65, .one (.n .i64 ((segs ((sseal key beside b).1)).length))), (66, .one (.b (decide (i1_ < ((segs ((sseal key beside b).1)).length))))), (69, .one (.bss false (segs ((sseal key beside b).1)))), (70, .one (.n .i64 i1_)), (71, .one (.pcb ((segs ((sseal key beside b).1)).getD i1_ []))), (72, .one (.bs false .u8 ((segs ((sseal key beside b).1)).getD i1_ []))), (23, .one (.bs false .u8 (if ((how % 4) = 2) ∧ (i1_ = (k % ((segs ((sseal key beside b).1)).length))) then ((segs ((sseal key beside b).1)).getD (i % ((segs ((sseal key beside b).1)).length)) []) else (if ((how % 4) = 2) ∧ (i1_ = (i % ((segs ((sseal key beside b).1)).length))) then ((segs ((sseal key beside b).1)).getD (k % ((segs ((sseal key beside b).1)).length)) []) else (if ((how % 4) = 1) ∧ (i1_ = (i % ((segs ((sseal key beside b).1)).length))) then ((segs ((sseal key beside b).1)).getD i1_ []) ++ ((segs ((sseal key beside b).1)).getD i1_ []) else ((segs ((sseal key beside b).1)).getD i1_ [])))))), (73, .one (.n .u8 how)), (74, .one (.n .u8 (how % 4))), (75, .one (.b (decide ((how % 4) = 0)))), (76, .one (.b (decide ((how % 4) = 0)))), (80, .one (.b (decide (((how % 4) = 0) ∧ (i1_ = (i % ((segs ((sseal key beside b).1)).length))))))), (81, .one (.n .u8 how)), (82, .one (.n .u8 (how % 4))), (83, .one (.b (decide ((how % 4) = 1)))), (84, .one (.b (decide ((how % 4) = 1)))), (88, .one (.b (decide (((how % 4) = 1) ∧ (i1_ = (i % ((segs ((sseal key beside b).1)).length))))))), (94, .one (.n .u8 how)), (95, .one (.n .u8 (how % 4))), (96, .one (.b (decide ((how % 4) = 2)))), (97, .one (.b (decide ((how % 4) = 2)))), (101, .one (.b (decide (((how % 4) = 2) ∧ (i1_ = (i % ((segs ((sseal key beside b).1)).length))))))), (106, .one (.n .u8 how)), (107, .one (.n .u8 (how % 4))), (108, .one (.b (decide ((how % 4) = 2)))), (109, .one (.b (decide ((how % 4) = 2)))), (113, .one (.b (decide (((how % 4) = 2) ∧ (i1_ = (k % ((segs ((sseal key beside b).1)).length)))))))], [(7, .own (.ints .u8 key)), (43, .own (.ints .u8 ((sseal key beside b).1))), (21, .own (.ints .u8 (smoves_it1 key beside b how i k i1_)))]⟩ ?_ (fun join => ?_)
                · have hv2 : ((if ((how % 4) = 2) ∧ (i1_ = (k % ((segs ((sseal key beside b).1)).length))) then ((segs ((sseal key beside b).1)).getD (i % ((segs ((sseal key beside b).1)).length)) []) else (if ((how % 4) = 2) ∧ (i1_ = (i % ((segs ((sseal key beside b).1)).length))) then ((segs ((sseal key beside b).1)).getD (k % ((segs ((sseal key beside b).1)).length)) []) else (if ((how % 4) = 1) ∧ (i1_ = (i % ((segs ((sseal key beside b).1)).length))) then ((segs ((sseal key beside b).1)).getD i1_ []) ++ ((segs ((sseal key beside b).1)).getD i1_ []) else ((segs ((sseal key beside b).1)).getD i1_ []))))).length ≤ 1056 := by
                    (repeat' split) <;> first | omega | (simp only [List.length_append]; omega)
                  refine Holds.reg ?_
                  refine OpsFrom.v (Y.move (up0 rfl rfl rfl) rfl rfl) rfl ?_
                  refine OpsFrom.v (Y.move (up0 rfl rfl rfl) rfl rfl) rfl ?_
                  refine OpsFrom.u (Y.app (d := 120) ty26 ty5 rfl ty26 (by decide) (up0 rfl rfl rfl) rfl rfl rfl (.all rfl (by first | (with_reducible assumption) | omega | (simp only [lens, List.flatten_cons, List.flatten_nil, List.append_nil, List.length_cons, List.length_nil, Cs.len, List.length_map, List.length_set, List.length_replicate, *]; first | done | omega) | decide | (split <;> simp only [lens, List.flatten_cons, List.flatten_nil, List.append_nil, List.length_cons, List.length_nil, Cs.len, List.length_map, List.length_set, List.length_replicate, *]) | (with_reducible exact Lt.mono (by assumption) (by decide)) | (simp only [Cs.len]; done) | rfl)) rfl (.bs _ _ _) App.i (by simp only [Cs.len]; omega) rfl (by first | (simp; done) | (rintro ⟨_, _, _, h⟩; cases h))) rfl rfl rfl ?_
                  refine OpsFrom.v (Y.assign (up0 rfl rfl rfl) rfl rfl) rfl ?_
                  refine OpsFrom.nil ?_
                  refine Holds.reg ?_
                  refine OpsFrom.v (Y.move (up0 rfl rfl rfl) rfl rfl) rfl ?_
                  refine OpsFrom.v (Y.addI (b := 1) (up0 rfl rfl rfl) rfl rfl rfl (by first | (with_reducible assumption) | omega | (simp only [lens, List.flatten_cons, List.flatten_nil, List.append_nil, List.length_cons, List.length_nil, Cs.len, List.length_map, List.length_set, List.length_replicate, *]; first | done | omega) | decide | (split <;> simp only [lens, List.flatten_cons, List.flatten_nil, List.append_nil, List.length_cons, List.length_nil, Cs.len, List.length_map, List.length_set, List.length_replicate, *]) | (with_reducible exact Lt.mono (by assumption) (by decide)) | (simp only [Cs.len]; done) | rfl)) rfl ?_
                  refine OpsFrom.v (Y.assign (up0 rfl rfl rfl) rfl rfl) rfl ?_
                  refine OpsFrom.nil ?_
                  exact Holds.again (i1_ + 1) (by omega) (by omega) [(21, 120)] ⟨⟨rfl, rfl, rfl, rfl, rfl, rfl, rfl, rfl, rfl, rfl, rfl, rfl, (sgEq (congrArg List.length (congrArg (fun (s : List Nat) => s) ((smoves_it1_s key beside b how i k i1_).trans ((if_neg h80)))).symm) rfl), (nEq (by omega)), trivial⟩, ⟨rfl, rfl, (hEq (congrArg (fun (s : List Nat) => s) ((smoves_it1_s key beside b how i k i1_).trans ((if_neg h80)))).symm), trivial⟩, rfl, rfl⟩
                · refine Holds.seqJoin ⟨[(1, .one (.bs false .u8 beside)), (3, .one (.n .u8 how)), (4, .one (.n .u8 i)), (5, .one (.n .u8 k)), (6, .one (.n .u8 by_)), (7, .one (.p 7 0)), (14, .one (.b false)), (15, .one (.b true)), (16, .one (.sg 43 0 (((sseal key beside b).1).length))), (18, .one (.bss false (segs ((sseal key beside b).1)))), (19, .one (.n .i64 (i % ((segs ((sseal key beside b).1)).length)))), (20, .one (.n .i64 (k % ((segs ((sseal key beside b).1)).length)))), (21, .one (.sg 21 0 ((smoves_it1 key beside b how i k i1_).length))), (22, .one (.n .i64 i1_)), (63, .one (.n .i64 i1_)), (64, .one (.bss false (segs ((sseal key beside b).1)))), (65, .one (.n .i64 ((segs ((sseal key beside b).1)).length))), (66, .one (.b (decide (i1_ < ((segs ((sseal key beside b).1)).length))))), (69, .one (.bss false (segs ((sseal key beside b).1)))), (70, .one (.n .i64 i1_)), (71, .one (.pcb ((segs ((sseal key beside b).1)).getD i1_ []))), (72, .one (.bs false .u8 ((segs ((sseal key beside b).1)).getD i1_ []))), (23, .one (.bs false .u8 (if ((how % 4) = 2) ∧ (i1_ = (i % ((segs ((sseal key beside b).1)).length))) then ((segs ((sseal key beside b).1)).getD (k % ((segs ((sseal key beside b).1)).length)) []) else (if ((how % 4) = 1) ∧ (i1_ = (i % ((segs ((sseal key beside b).1)).length))) then ((segs ((sseal key beside b).1)).getD i1_ []) ++ ((segs ((sseal key beside b).1)).getD i1_ []) else ((segs ((sseal key beside b).1)).getD i1_ []))))), (73, .one (.n .u8 how)), (74, .one (.n .u8 (how % 4))), (75, .one (.b (decide ((how % 4) = 0)))), (76, .one (.b (decide ((how % 4) = 0)))), (80, .one (.b (decide (((how % 4) = 0) ∧ (i1_ = (i % ((segs ((sseal key beside b).1)).length))))))), (81, .one (.n .u8 how)), (82, .one (.n .u8 (how % 4))), (83, .one (.b (decide ((how % 4) = 1)))), (84, .one (.b (decide ((how % 4) = 1)))), (88, .one (.b (decide (((how % 4) = 1) ∧ (i1_ = (i % ((segs ((sseal key beside b).1)).length))))))), (94, .one (.n .u8 how)), (95, .one (.n .u8 (how % 4))), (96, .one (.b (decide ((how % 4) = 2)))), (97, .one (.b (decide ((how % 4) = 2)))), (101, .one (.b (decide (((how % 4) = 2) ∧ (i1_ = (i % ((segs ((sseal key beside b).1)).length))))))), (106, .one (.n .u8 how)), (107, .one (.n .u8 (how % 4))), (108, .one (.b (decide ((how % 4) = 2)))), (109, .one (.b (decide ((how % 4) = 2)))), (113, .one (.b (decide (((how % 4) = 2) ∧ (i1_ = (k % ((segs ((sseal key beside b).1)).length)))))))], [(7, .own (.ints .u8 key)), (43, .own (.ints .u8 ((sseal key beside b).1))), (21, .own (.ints .u8 (smoves_it1 key beside b how i k i1_)))]⟩ ?_ (fun join => ?_)
                  · refine Holds.condD rfl (fun h113 => ?_) (fun h113 => ?_)
                    · refine Holds.reg ?_
                      refine OpsFrom.v (Y.move (up0 rfl rfl rfl) rfl rfl) rfl ?_
                      refine OpsFrom.v (Y.move (up0 rfl rfl rfl) rfl rfl) rfl ?_
                      refine OpsFrom.v (Y.iaBss ty39 ty26 (up0 rfl rfl rfl) rfl rfl rfl (by first | (with_reducible assumption) | omega | (simp only [lens, List.flatten_cons, List.flatten_nil, List.append_nil, List.length_cons, List.length_nil, Cs.len, List.length_map, List.length_set, List.length_replicate, *]; first | done | omega) | decide | (split <;> simp only [lens, List.flatten_cons, List.flatten_nil, List.append_nil, List.length_cons, List.length_nil, Cs.len, List.length_map, List.length_set, List.length_replicate, *]) | (with_reducible exact Lt.mono (by assumption) (by decide)) | (simp only [Cs.len]; done) | rfl)) rfl ?_
                      refine OpsFrom.v (Y.ldPcb ty26 rfl (up0 rfl rfl rfl) rfl rfl) rfl ?_
                      refine OpsFrom.v (Y.assign (up0 rfl rfl rfl) rfl rfl) rfl ?_
                      refine OpsFrom.nil ?_
                      exact join _ [] ⟨⟨rfl, rfl, rfl, rfl, rfl, rfl, rfl, rfl, rfl, rfl, rfl, rfl, rfl, rfl, rfl, rfl, rfl, rfl, rfl, rfl, rfl, rfl, (bsEq (if_pos h113).symm), rfl, rfl, rfl, rfl, rfl, rfl, rfl, rfl, rfl, rfl, rfl, rfl, rfl, rfl, rfl, rfl, rfl, rfl, rfl, rfl, trivial⟩, ⟨rfl, rfl, rfl, trivial⟩, rfl, rfl⟩
                    · refine Holds.skip ?_
                      exact join _ [] ⟨⟨rfl, rfl, rfl, rfl, rfl, rfl, rfl, rfl, rfl, rfl, rfl, rfl, rfl, rfl, rfl, rfl, rfl, rfl, rfl, rfl, rfl, rfl, (bsEq (if_neg h113).symm), rfl, rfl, rfl, rfl, rfl, rfl, rfl, rfl, rfl, rfl, rfl, rfl, rfl, rfl, rfl, rfl, rfl, rfl, rfl, rfl, trivial⟩, ⟨rfl, rfl, rfl, trivial⟩, rfl, rfl⟩
                  · by_cases a20_3 : ((how % 4) = 2)
                    · refine Holds.reg ?_
                      refine OpsFrom.v (Y.move (up0 rfl rfl rfl) rfl rfl) rfl ?_
                      refine OpsFrom.v (Y.rem (b := 4) (up0 rfl rfl rfl) rfl rfl rfl (by decide)) rfl ?_
                      refine OpsFrom.v (Y.eql (b := 2) (up0 rfl rfl rfl) rfl rfl rfl) rfl ?_
                      refine OpsFrom.v (Doing.isB (c := true) (decide_eq_true a20_3) (Y.move (up0 rfl rfl rfl) rfl rfl)) rfl ?_
                      refine OpsFrom.v (Y.move (up1 rfl rfl rfl rfl rfl rfl) rfl rfl) rfl ?_
                      refine OpsFrom.v (Y.move (up1 rfl rfl rfl rfl rfl rfl) rfl rfl) rfl ?_
                      refine OpsFrom.v (Y.eql (up1 rfl rfl rfl rfl rfl rfl) rfl rfl rfl) rfl ?_
                      refine OpsFrom.v (Y.pickT (up0 rfl rfl rfl) rfl rfl rfl) rfl ?_
                      refine OpsFrom.nil ?_
                      exact join _ [] ⟨⟨rfl, rfl, rfl, rfl, rfl, rfl, rfl, rfl, rfl, rfl, rfl, rfl, rfl, rfl, rfl, rfl, rfl, rfl, rfl, rfl, rfl, rfl, rfl, rfl, rfl, rfl, rfl, rfl, rfl, rfl, rfl, rfl, rfl, rfl, rfl, rfl, rfl, rfl, rfl, rfl, rfl, (bEq ((dT a20_3))), (bEq ((dAnd a20_3))), trivial⟩, ⟨rfl, rfl, rfl, trivial⟩, rfl, rfl⟩
                    · refine Holds.reg ?_
                      refine OpsFrom.v (Y.move (up0 rfl rfl rfl) rfl rfl) rfl ?_
                      refine OpsFrom.v (Y.rem (b := 4) (up0 rfl rfl rfl) rfl rfl rfl (by decide)) rfl ?_
                      refine OpsFrom.v (Y.eql (b := 2) (up0 rfl rfl rfl) rfl rfl rfl) rfl ?_
                      refine OpsFrom.v (Doing.isB (c := false) (decide_eq_false a20_3) (Y.move (up0 rfl rfl rfl) rfl rfl)) rfl ?_
                      refine OpsFrom.v (Doing.skip _ _ _ _ rfl rfl rfl rfl (dlt rfl (Nat.le_of_ble_eq_true rfl))) rfl ?_
                      refine OpsFrom.v (Doing.skip _ _ _ _ rfl rfl rfl rfl (dlt rfl (Nat.le_of_ble_eq_true rfl))) rfl ?_
                      refine OpsFrom.v (Doing.skip _ _ _ _ rfl rfl rfl rfl (dlt rfl (Nat.le_of_ble_eq_true rfl))) rfl ?_
                      refine OpsFrom.v (Y.pickF (up0 rfl rfl rfl) rfl rfl rfl) rfl ?_
                      refine OpsFrom.nil ?_
                      exact join _ [] ⟨⟨rfl, rfl, rfl, rfl, rfl, rfl, rfl, rfl, rfl, rfl, rfl, rfl, rfl, rfl, rfl, rfl, rfl, rfl, rfl, rfl, rfl, rfl, rfl, rfl, rfl, rfl, rfl, rfl, rfl, rfl, rfl, rfl, rfl, rfl, rfl, rfl, rfl, rfl, rfl, rfl, rfl, (bEq ((dF a20_3))), (bEq ((dF (fun k => a20_3 k.1)))), trivial⟩, ⟨rfl, rfl, rfl, trivial⟩, rfl, rfl⟩
              · refine Holds.seqJoin ⟨[(1, .one (.bs false .u8 beside)), (3, .one (.n .u8 how)), (4, .one (.n .u8 i)), (5, .one (.n .u8 k)), (6, .one (.n .u8 by_)), (7, .one (.p 7 0)), (14, .one (.b false)), (15, .one (.b true)), (16, .one (.sg 43 0 (((sseal key beside b).1).length))), (18, .one (.bss false (segs ((sseal key beside b).1)))), (19, .one (.n .i64 (i % ((segs ((sseal key beside b).1)).length)))), (20, .one (.n .i64 (k % ((segs ((sseal key beside b).1)).length)))), (21, .one (.sg 21 0 ((smoves_it1 key beside b how i k i1_).length))), (22, .one (.n .i64 i1_)), (63, .one (.n .i64 i1_)), (64, .one (.bss false (segs ((sseal key beside b).1)))), (65, .one (.n .i64 ((segs ((sseal key beside b).1)).length))), (66, .one (.b (decide (i1_ < ((segs ((sseal key beside b).1)).length))))), (69, .one (.bss false (segs ((sseal key beside b).1)))), (70, .one (.n .i64 i1_)), (71, .one (.pcb ((segs ((sseal key beside b).1)).getD i1_ []))), (72, .one (.bs false .u8 ((segs ((sseal key beside b).1)).getD i1_ []))), (23, .one (.bs false .u8 (if ((how % 4) = 1) ∧ (i1_ = (i % ((segs ((sseal key beside b).1)).length))) then ((segs ((sseal key beside b).1)).getD i1_ []) ++ ((segs ((sseal key beside b).1)).getD i1_ []) else ((segs ((sseal key beside b).1)).getD i1_ [])))), (73, .one (.n .u8 how)), (74, .one (.n .u8 (how % 4))), (75, .one (.b (decide ((how % 4) = 0)))), (76, .one (.b (decide ((how % 4) = 0)))), (80, .one (.b (decide (((how % 4) = 0) ∧ (i1_ = (i % ((segs ((sseal key beside b).1)).length))))))), (81, .one (.n .u8 how)), (82, .one (.n .u8 (how % 4))), (83, .one (.b (decide ((how % 4) = 1)))), (84, .one (.b (decide ((how % 4) = 1)))), (88, .one (.b (decide (((how % 4) = 1) ∧ (i1_ = (i % ((segs ((sseal key beside b).1)).length))))))), (94, .one (.n .u8 how)), (95, .one (.n .u8 (how % 4))), (96, .one (.b (decide ((how % 4) = 2)))), (97, .one (.b (decide ((how % 4) = 2)))), (101, .one (.b (decide (((how % 4) = 2) ∧ (i1_ = (i % ((segs ((sseal key beside b).1)).length)))))))], [(7, .own (.ints .u8 key)), (43, .own (.ints .u8 ((sseal key beside b).1))), (21, .own (.ints .u8 (smoves_it1 key beside b how i k i1_)))]⟩ ?_ (fun join => ?_)
                · refine Holds.condD rfl (fun h101 => ?_) (fun h101 => ?_)
                  · refine Holds.reg ?_
                    refine OpsFrom.v (Y.move (up0 rfl rfl rfl) rfl rfl) rfl ?_
                    refine OpsFrom.v (Y.move (up0 rfl rfl rfl) rfl rfl) rfl ?_
                    refine OpsFrom.v (Y.iaBss ty39 ty26 (up0 rfl rfl rfl) rfl rfl rfl (by first | (with_reducible assumption) | omega | (simp only [lens, List.flatten_cons, List.flatten_nil, List.append_nil, List.length_cons, List.length_nil, Cs.len, List.length_map, List.length_set, List.length_replicate, *]; first | done | omega) | decide | (split <;> simp only [lens, List.flatten_cons, List.flatten_nil, List.append_nil, List.length_cons, List.length_nil, Cs.len, List.length_map, List.length_set, List.length_replicate, *]) | (with_reducible exact Lt.mono (by assumption) (by decide)) | (simp only [Cs.len]; done) | rfl)) rfl ?_
                    refine OpsFrom.v (Y.ldPcb ty26 rfl (up0 rfl rfl rfl) rfl rfl) rfl ?_
                    refine OpsFrom.v (Y.assign (up0 rfl rfl rfl) rfl rfl) rfl ?_
                    refine OpsFrom.nil ?_
                    exact join _ [] ⟨⟨rfl, rfl, rfl, rfl, rfl, rfl, rfl, rfl, rfl, rfl, rfl, rfl, rfl, rfl, rfl, rfl, rfl, rfl, rfl, rfl, rfl, rfl, (bsEq (if_pos h101).symm), rfl, rfl, rfl, rfl, rfl, rfl, rfl, rfl, rfl, rfl, rfl, rfl, rfl, rfl, rfl, trivial⟩, ⟨rfl, rfl, rfl, trivial⟩, rfl, rfl⟩
                  · refine Holds.skip ?_
                    exact join _ [] ⟨⟨rfl, rfl, rfl, rfl, rfl, rfl, rfl, rfl, rfl, rfl, rfl, rfl, rfl, rfl, rfl, rfl, rfl, rfl, rfl, rfl, rfl, rfl, (bsEq (if_neg h101).symm), rfl, rfl, rfl, rfl, rfl, rfl, rfl, rfl, rfl, rfl, rfl, rfl, rfl, rfl, rfl, trivial⟩, ⟨rfl, rfl, rfl, trivial⟩, rfl, rfl⟩
                · by_cases a18_3 : ((how % 4) = 2)
                  · refine Holds.reg ?_
                    refine OpsFrom.v (Y.move (up0 rfl rfl rfl) rfl rfl) rfl ?_
                    refine OpsFrom.v (Y.rem (b := 4) (up0 rfl rfl rfl) rfl rfl rfl (by decide)) rfl ?_
                    refine OpsFrom.v (Y.eql (b := 2) (up0 rfl rfl rfl) rfl rfl rfl) rfl ?_
                    refine OpsFrom.v (Doing.isB (c := true) (decide_eq_true a18_3) (Y.move (up0 rfl rfl rfl) rfl rfl)) rfl ?_
                    refine OpsFrom.v (Y.move (up1 rfl rfl rfl rfl rfl rfl) rfl rfl) rfl ?_
                    refine OpsFrom.v (Y.move (up1 rfl rfl rfl rfl rfl rfl) rfl rfl) rfl ?_
                    refine OpsFrom.v (Y.eql (up1 rfl rfl rfl rfl rfl rfl) rfl rfl rfl) rfl ?_
                    refine OpsFrom.v (Y.pickT (up0 rfl rfl rfl) rfl rfl rfl) rfl ?_
                    refine OpsFrom.nil ?_
                    exact join _ [] ⟨⟨rfl, rfl, rfl, rfl, rfl, rfl, rfl, rfl, rfl, rfl, rfl, rfl, rfl, rfl, rfl, rfl, rfl, rfl, rfl, rfl, rfl, rfl, rfl, rfl, rfl, rfl, rfl, rfl, rfl, rfl, rfl, rfl, rfl, rfl, rfl, rfl, (bEq ((dT a18_3))), (bEq ((dAnd a18_3))), trivial⟩, ⟨rfl, rfl, rfl, trivial⟩, rfl, rfl⟩
                  · refine Holds.reg ?_
                    refine OpsFrom.v (Y.move (up0 rfl rfl rfl) rfl rfl) rfl ?_
                    refine OpsFrom.v (Y.rem (b := 4) (up0 rfl rfl rfl) rfl rfl rfl (by decide)) rfl ?_
                    refine OpsFrom.v (Y.eql (b := 2) (up0 rfl rfl rfl) rfl rfl rfl) rfl ?_
                    refine OpsFrom.v (Doing.isB (c := false) (decide_eq_false a18_3) (Y.move (up0 rfl rfl rfl) rfl rfl)) rfl ?_
                    refine OpsFrom.v (Doing.skip _ _ _ _ rfl rfl rfl rfl (dlt rfl (Nat.le_of_ble_eq_true rfl))) rfl ?_
                    refine OpsFrom.v (Doing.skip _ _ _ _ rfl rfl rfl rfl (dlt rfl (Nat.le_of_ble_eq_true rfl))) rfl ?_
                    refine OpsFrom.v (Doing.skip _ _ _ _ rfl rfl rfl rfl (dlt rfl (Nat.le_of_ble_eq_true rfl))) rfl ?_
                    refine OpsFrom.v (Y.pickF (up0 rfl rfl rfl) rfl rfl rfl) rfl ?_
                    refine OpsFrom.nil ?_
                    exact join _ [] ⟨⟨rfl, rfl, rfl, rfl, rfl, rfl, rfl, rfl, rfl, rfl, rfl, rfl, rfl, rfl, rfl, rfl, rfl, rfl, rfl, rfl, rfl, rfl, rfl, rfl, rfl, rfl, rfl, rfl, rfl, rfl, rfl, rfl, rfl, rfl, rfl, rfl, (bEq ((dF a18_3))), (bEq ((dF (fun k => a18_3 k.1)))), trivial⟩, ⟨rfl, rfl, rfl, trivial⟩, rfl, rfl⟩
            · refine Holds.seqJoin ⟨[(1, .one (.bs false .u8 beside)), (3, .one (.n .u8 how)), (4, .one (.n .u8 i)), (5, .one (.n .u8 k)), (6, .one (.n .u8 by_)), (7, .one (.p 7 0)), (14, .one (.b false)), (15, .one (.b true)), (16, .one (.sg 43 0 (((sseal key beside b).1).length))), (18, .one (.bss false (segs ((sseal key beside b).1)))), (19, .one (.n .i64 (i % ((segs ((sseal key beside b).1)).length)))), (20, .one (.n .i64 (k % ((segs ((sseal key beside b).1)).length)))), (21, .one (.sg 21 0 ((smoves_it1 key beside b how i k i1_).length))), (22, .one (.n .i64 i1_)), (63, .one (.n .i64 i1_)), (64, .one (.bss false (segs ((sseal key beside b).1)))), (65, .one (.n .i64 ((segs ((sseal key beside b).1)).length))), (66, .one (.b (decide (i1_ < ((segs ((sseal key beside b).1)).length))))), (69, .one (.bss false (segs ((sseal key beside b).1)))), (70, .one (.n .i64 i1_)), (71, .one (.pcb ((segs ((sseal key beside b).1)).getD i1_ []))), (72, .one (.bs false .u8 ((segs ((sseal key beside b).1)).getD i1_ []))), (23, .one (.bs false .u8 ((segs ((sseal key beside b).1)).getD i1_ []))), (73, .one (.n .u8 how)), (74, .one (.n .u8 (how % 4))), (75, .one (.b (decide ((how % 4) = 0)))), (76, .one (.b (decide ((how % 4) = 0)))), (80, .one (.b (decide (((how % 4) = 0) ∧ (i1_ = (i % ((segs ((sseal key beside b).1)).length))))))), (81, .one (.n .u8 how)), (82, .one (.n .u8 (how % 4))), (83, .one (.b (decide ((how % 4) = 1)))), (84, .one (.b (decide ((how % 4) = 1)))), (88, .one (.b (decide (((how % 4) = 1) ∧ (i1_ = (i % ((segs ((sseal key beside b).1)).length)))))))], [(7, .own (.ints .u8 key)), (43, .own (.ints .u8 ((sseal key beside b).1))), (21, .own (.ints .u8 (smoves_it1 key beside b how i k i1_)))]⟩ ?_ (fun join => ?_)
              · refine Holds.condD rfl (fun h88 => ?_) (fun h88 => ?_)
                · refine Holds.reg ?_
                  refine OpsFrom.v (Y.bldS0 ty26 ty5 (up0 rfl rfl rfl) rfl) rfl ?_
                  refine OpsFrom.v (Y.move (up0 rfl rfl rfl) rfl rfl) rfl ?_
                  refine OpsFrom.u (Y.app (d := 91) ty26 ty5 rfl ty26 (by decide) (up0 rfl rfl rfl) rfl rfl rfl (.nilI _) rfl (.bs _ _ _) App.i0 (by simp only [Cs.len, List.length_nil]; omega) rfl (by first | (simp; done) | (rintro ⟨_, _, _, h⟩; cases h))) rfl rfl rfl ?_
                  refine OpsFrom.v (Y.move (up0 rfl rfl rfl) rfl rfl) rfl ?_
                  refine OpsFrom.u (Y.app (d := 93) ty26 ty5 rfl ty26 (by decide) (up0 rfl rfl rfl) rfl rfl rfl (.all rfl (by first | (with_reducible assumption) | omega | (simp only [lens, List.flatten_cons, List.flatten_nil, List.append_nil, List.length_cons, List.length_nil, Cs.len, List.length_map, List.length_set, List.length_replicate, *]; first | done | omega) | decide | (split <;> simp only [lens, List.flatten_cons, List.flatten_nil, List.append_nil, List.length_cons, List.length_nil, Cs.len, List.length_map, List.length_set, List.length_replicate, *]) | (with_reducible exact Lt.mono (by assumption) (by decide)) | (simp only [Cs.len]; done) | rfl)) rfl (.bs _ _ _) App.i (by simp only [Cs.len]; omega) rfl (by first | (simp; done) | (rintro ⟨_, _, _, h⟩; cases h))) rfl rfl rfl ?_
                  refine OpsFrom.freezeV 93 93 rfl rfl (.all rfl (by first | (with_reducible assumption) | omega | (simp only [lens, List.flatten_cons, List.flatten_nil, List.append_nil, List.length_cons, List.length_nil, Cs.len, List.length_map, List.length_set, List.length_replicate, *]; first | done | omega) | decide | (split <;> simp only [lens, List.flatten_cons, List.flatten_nil, List.append_nil, List.length_cons, List.length_nil, Cs.len, List.length_map, List.length_set, List.length_replicate, *]) | (with_reducible exact Lt.mono (by assumption) (by decide)) | (simp only [Cs.len]; done) | rfl)) ?_
                  refine OpsFrom.v (Y.assign (up0 rfl rfl rfl) rfl rfl) rfl ?_
                  refine OpsFrom.nil ?_
                  exact join _ [] ⟨⟨rfl, rfl, rfl, rfl, rfl, rfl, rfl, rfl, rfl, rfl, rfl, rfl, rfl, rfl, rfl, rfl, rfl, rfl, rfl, rfl, rfl, rfl, (bsEq (if_pos h88).symm), rfl, rfl, rfl, rfl, rfl, rfl, rfl, rfl, rfl, rfl, trivial⟩, ⟨rfl, rfl, rfl, trivial⟩, rfl, rfl⟩
                · refine Holds.skip ?_
                  exact join _ [] ⟨⟨rfl, rfl, rfl, rfl, rfl, rfl, rfl, rfl, rfl, rfl, rfl, rfl, rfl, rfl, rfl, rfl, rfl, rfl, rfl, rfl, rfl, rfl, (bsEq (if_neg h88).symm), rfl, rfl, rfl, rfl, rfl, rfl, rfl, rfl, rfl, rfl, trivial⟩, ⟨rfl, rfl, rfl, trivial⟩, rfl, rfl⟩
              · by_cases a16_3 : ((how % 4) = 1)
                · refine Holds.reg ?_
                  refine OpsFrom.v (Y.move (up0 rfl rfl rfl) rfl rfl) rfl ?_
                  refine OpsFrom.v (Y.rem (b := 4) (up0 rfl rfl rfl) rfl rfl rfl (by decide)) rfl ?_
                  refine OpsFrom.v (Y.eql (b := 1) (up0 rfl rfl rfl) rfl rfl rfl) rfl ?_
                  refine OpsFrom.v (Doing.isB (c := true) (decide_eq_true a16_3) (Y.move (up0 rfl rfl rfl) rfl rfl)) rfl ?_
                  refine OpsFrom.v (Y.move (up1 rfl rfl rfl rfl rfl rfl) rfl rfl) rfl ?_
                  refine OpsFrom.v (Y.move (up1 rfl rfl rfl rfl rfl rfl) rfl rfl) rfl ?_
                  refine OpsFrom.v (Y.eql (up1 rfl rfl rfl rfl rfl rfl) rfl rfl rfl) rfl ?_
                  refine OpsFrom.v (Y.pickT (up0 rfl rfl rfl) rfl rfl rfl) rfl ?_
                  refine OpsFrom.nil ?_
                  exact join _ [] ⟨⟨rfl, rfl, rfl, rfl, rfl, rfl, rfl, rfl, rfl, rfl, rfl, rfl, rfl, rfl, rfl, rfl, rfl, rfl, rfl, rfl, rfl, rfl, rfl, rfl, rfl, rfl, rfl, rfl, rfl, rfl, rfl, (bEq ((dT a16_3))), (bEq ((dAnd a16_3))), trivial⟩, ⟨rfl, rfl, rfl, trivial⟩, rfl, rfl⟩
                · refine Holds.reg ?_
                  refine OpsFrom.v (Y.move (up0 rfl rfl rfl) rfl rfl) rfl ?_
                  refine OpsFrom.v (Y.rem (b := 4) (up0 rfl rfl rfl) rfl rfl rfl (by decide)) rfl ?_
                  refine OpsFrom.v (Y.eql (b := 1) (up0 rfl rfl rfl) rfl rfl rfl) rfl ?_
                  refine OpsFrom.v (Doing.isB (c := false) (decide_eq_false a16_3) (Y.move (up0 rfl rfl rfl) rfl rfl)) rfl ?_
                  refine OpsFrom.v (Doing.skip _ _ _ _ rfl rfl rfl rfl (dlt rfl (Nat.le_of_ble_eq_true rfl))) rfl ?_
                  refine OpsFrom.v (Doing.skip _ _ _ _ rfl rfl rfl rfl (dlt rfl (Nat.le_of_ble_eq_true rfl))) rfl ?_
                  refine OpsFrom.v (Doing.skip _ _ _ _ rfl rfl rfl rfl (dlt rfl (Nat.le_of_ble_eq_true rfl))) rfl ?_
                  refine OpsFrom.v (Y.pickF (up0 rfl rfl rfl) rfl rfl rfl) rfl ?_
                  refine OpsFrom.nil ?_
                  exact join _ [] ⟨⟨rfl, rfl, rfl, rfl, rfl, rfl, rfl, rfl, rfl, rfl, rfl, rfl, rfl, rfl, rfl, rfl, rfl, rfl, rfl, rfl, rfl, rfl, rfl, rfl, rfl, rfl, rfl, rfl, rfl, rfl, rfl, (bEq ((dF a16_3))), (bEq ((dF (fun k => a16_3 k.1)))), trivial⟩, ⟨rfl, rfl, rfl, trivial⟩, rfl, rfl⟩
        · by_cases a15_3 : ((how % 4) = 0)
          · refine Holds.reg ?_
            refine OpsFrom.v (Y.move (up0 rfl rfl rfl) rfl rfl) rfl ?_
            refine OpsFrom.v (Y.rem (b := 4) (up0 rfl rfl rfl) rfl rfl rfl (by decide)) rfl ?_
            refine OpsFrom.v (Y.eql (b := 0) (up0 rfl rfl rfl) rfl rfl rfl) rfl ?_
            refine OpsFrom.v (Doing.isB (c := true) (decide_eq_true a15_3) (Y.move (up0 rfl rfl rfl) rfl rfl)) rfl ?_
            refine OpsFrom.v (Y.move (up1 rfl rfl rfl rfl rfl rfl) rfl rfl) rfl ?_
            refine OpsFrom.v (Y.move (up1 rfl rfl rfl rfl rfl rfl) rfl rfl) rfl ?_
            refine OpsFrom.v (Y.eql (up1 rfl rfl rfl rfl rfl rfl) rfl rfl rfl) rfl ?_
            refine OpsFrom.v (Y.pickT (up0 rfl rfl rfl) rfl rfl rfl) rfl ?_
            refine OpsFrom.nil ?_
            exact join _ [] ⟨⟨rfl, rfl, rfl, rfl, rfl, rfl, rfl, rfl, rfl, rfl, rfl, rfl, rfl, rfl, rfl, rfl, rfl, rfl, rfl, rfl, rfl, rfl, rfl, rfl, rfl, rfl, (bEq ((dT a15_3))), (bEq ((dAnd a15_3))), trivial⟩, ⟨rfl, rfl, rfl, trivial⟩, rfl, rfl⟩
          · refine Holds.reg ?_
            refine OpsFrom.v (Y.move (up0 rfl rfl rfl) rfl rfl) rfl ?_
            refine OpsFrom.v (Y.rem (b := 4) (up0 rfl rfl rfl) rfl rfl rfl (by decide)) rfl ?_
            refine OpsFrom.v (Y.eql (b := 0) (up0 rfl rfl rfl) rfl rfl rfl) rfl ?_
            refine OpsFrom.v (Doing.isB (c := false) (decide_eq_false a15_3) (Y.move (up0 rfl rfl rfl) rfl rfl)) rfl ?_
            refine OpsFrom.v (Doing.skip _ _ _ _ rfl rfl rfl rfl (dlt rfl (Nat.le_of_ble_eq_true rfl))) rfl ?_
            refine OpsFrom.v (Doing.skip _ _ _ _ rfl rfl rfl rfl (dlt rfl (Nat.le_of_ble_eq_true rfl))) rfl ?_
            refine OpsFrom.v (Doing.skip _ _ _ _ rfl rfl rfl rfl (dlt rfl (Nat.le_of_ble_eq_true rfl))) rfl ?_
            refine OpsFrom.v (Y.pickF (up0 rfl rfl rfl) rfl rfl rfl) rfl ?_
            refine OpsFrom.nil ?_
            exact join _ [] ⟨⟨rfl, rfl, rfl, rfl, rfl, rfl, rfl, rfl, rfl, rfl, rfl, rfl, rfl, rfl, rfl, rfl, rfl, rfl, rfl, rfl, rfl, rfl, rfl, rfl, rfl, rfl, (bEq ((dF a15_3))), (bEq ((dF (fun k => a15_3 k.1)))), trivial⟩, ⟨rfl, rfl, rfl, trivial⟩, rfl, rfl⟩
      · obtain rfl : i1_ = (segs ((sseal key beside b).1)).length := by omega
        refine Holds.exit ?_
        refine Holds.seqJoin ⟨[(1, .one (.bs false .u8 beside)), (7, .one (.p 7 0)), (14, .one (.b false)), (15, .one (.b true)), (16, .one (.sg 43 0 (((sseal key beside b).1).length))), (21, .one (.sg 21 0 ((smoves_it1 key beside b how i k ((segs ((sseal key beside b).1)).length)).length)))], [(7, .own (.ints .u8 key)), (43, .own (.ints .u8 ((sseal key beside b).1))), (21, .own (.ints .u8 (if (how % 4) = 3 then ((smoves_it1 key beside b how i k ((segs ((sseal key beside b).1)).length)).set ((i * k) % ((smoves_it1 key beside b how i k ((segs ((sseal key beside b).1)).length)).length)) (((smoves_it1 key beside b how i k ((segs ((sseal key beside b).1)).length)).getD ((i * k) % ((smoves_it1 key beside b how i k ((segs ((sseal key beside b).1)).length)).length)) 0) ^^^ by_)) else (smoves_it1 key beside b how i k ((segs ((sseal key beside b).1)).length)))))]⟩ ?_ (fun join => ?_)
        · refine Holds.seq ?_
          refine Holds.freezeV 21 21 rfl rfl (.all rfl (by first | (with_reducible assumption) | omega | (simp only [lens, List.flatten_cons, List.flatten_nil, List.append_nil, List.length_cons, List.length_nil, Cs.len, List.length_map, List.length_set, List.length_replicate, *]; first | done | omega) | decide | (split <;> simp only [lens, List.flatten_cons, List.flatten_nil, List.append_nil, List.length_cons, List.length_nil, Cs.len, List.length_map, List.length_set, List.length_replicate, *]) | (with_reducible exact Lt.mono (by assumption) (by decide)) | (simp only [Cs.len]; done) | rfl)) ?_
          have hl2 : Lt 256 (if (how % 4) = 3 then ((smoves_it1 key beside b how i k ((segs ((sseal key beside b).1)).length)).set ((i * k) % ((smoves_it1 key beside b how i k ((segs ((sseal key beside b).1)).length)).length)) (((smoves_it1 key beside b how i k ((segs ((sseal key beside b).1)).length)).getD ((i * k) % ((smoves_it1 key beside b how i k ((segs ((sseal key beside b).1)).length)).length)) 0) ^^^ by_)) else (smoves_it1 key beside b how i k ((segs ((sseal key beside b).1)).length))) := by
            first | exact hmt _ | (split <;> first | exact (hmt _).set (xl2 ((hmt _) _) b_by) | exact hmt _)
          have hn2 : (if (how % 4) = 3 then ((smoves_it1 key beside b how i k ((segs ((sseal key beside b).1)).length)).set ((i * k) % ((smoves_it1 key beside b how i k ((segs ((sseal key beside b).1)).length)).length)) (((smoves_it1 key beside b how i k ((segs ((sseal key beside b).1)).length)).getD ((i * k) % ((smoves_it1 key beside b how i k ((segs ((sseal key beside b).1)).length)).length)) 0) ^^^ by_)) else (smoves_it1 key beside b how i k ((segs ((sseal key beside b).1)).length))).length ≤ 4194304 := by
            have hn3 := smoves_n key beside b how i k (segs (sseal key beside b).1).length
            first | omega | (split <;> first | omega | (simp only [List.length_set]; omega))
          refine Holds.reg ?_
          refine OpsFrom.v (Y.ldAll ty23 rfl (up0 rfl rfl rfl) rfl rfl rfl (by first | (with_reducible assumption) | omega | (simp only [lens, List.flatten_cons, List.flatten_nil, List.append_nil, List.length_cons, List.length_nil, Cs.len, List.length_map, List.length_set, List.length_replicate, *]; first | done | omega) | decide | (split <;> simp only [lens, List.flatten_cons, List.flatten_nil, List.append_nil, List.length_cons, List.length_nil, Cs.len, List.length_map, List.length_set, List.length_replicate, *]) | (with_reducible exact Lt.mono (by assumption) (by decide)) | (simp only [Cs.len]; done) | rfl) (by decide)) rfl ?_
          refine OpsFrom.v (Y.move (up0 rfl rfl rfl) rfl rfl) rfl ?_
          refine OpsFrom.v (Y.move (up0 rfl rfl rfl) rfl rfl) rfl ?_
          refine OpsFrom.v (Y.callW (w_sopen _ _ _ (by first | (with_reducible assumption) | omega | (simp only [lens, List.flatten_cons, List.flatten_nil, List.append_nil, List.length_cons, List.length_nil, Cs.len, List.length_map, List.length_set, List.length_replicate, *]; first | done | omega) | decide | (split <;> simp only [lens, List.flatten_cons, List.flatten_nil, List.append_nil, List.length_cons, List.length_nil, Cs.len, List.length_map, List.length_set, List.length_replicate, *]) | (with_reducible exact Lt.mono (by assumption) (by decide)) | (simp only [Cs.len]; done) | rfl) (by first | (with_reducible assumption) | omega | (simp only [lens, List.flatten_cons, List.flatten_nil, List.append_nil, List.length_cons, List.length_nil, Cs.len, List.length_map, List.length_set, List.length_replicate, *]; first | done | omega) | decide | (split <;> simp only [lens, List.flatten_cons, List.flatten_nil, List.append_nil, List.length_cons, List.length_nil, Cs.len, List.length_map, List.length_set, List.length_replicate, *]) | (with_reducible exact Lt.mono (by assumption) (by decide)) | (simp only [Cs.len]; done) | rfl) (by first | (with_reducible assumption) | omega | (simp only [lens, List.flatten_cons, List.flatten_nil, List.append_nil, List.length_cons, List.length_nil, Cs.len, List.length_map, List.length_set, List.length_replicate, *]; first | done | omega) | decide | (split <;> simp only [lens, List.flatten_cons, List.flatten_nil, List.append_nil, List.length_cons, List.length_nil, Cs.len, List.length_map, List.length_set, List.length_replicate, *]) | (with_reducible exact Lt.mono (by assumption) (by decide)) | (simp only [Cs.len]; done) | rfl)) fnok44 (up0 rfl rfl rfl) rfl rfl (.cons _ _ _ _ rfl (.cons _ _ _ _ rfl (.cons _ _ _ _ rfl .nil))) (.cons _ _ _ _ (.same _) (.cons _ _ _ _ (.same _) (.cons _ _ _ _ (.same _) .nil))) rfl rfl) rfl ?_
          refine OpsFrom.v (Y.move (up0 rfl rfl rfl) rfl rfl) rfl ?_
          refine OpsFrom.v (Y.ext0 (up0 rfl rfl rfl) rfl rfl) rfl ?_
          refine OpsFrom.v (Y.ext1 (up0 rfl rfl rfl) rfl rfl) rfl ?_
          refine OpsFrom.v (Y.assign (up0 rfl rfl rfl) rfl rfl) rfl ?_
          refine OpsFrom.v (Y.assign (up0 rfl rfl rfl) rfl rfl) rfl ?_
          refine OpsFrom.nil ?_
          refine Holds.seq ?_
          refine Holds.reg ?_
          refine OpsFrom.v (Y.ldAll ty23 rfl (up0 rfl rfl rfl) rfl rfl rfl (by first | (with_reducible assumption) | omega | (simp only [lens, List.flatten_cons, List.flatten_nil, List.append_nil, List.length_cons, List.length_nil, Cs.len, List.length_map, List.length_set, List.length_replicate, *]; first | done | omega) | decide | (split <;> simp only [lens, List.flatten_cons, List.flatten_nil, List.append_nil, List.length_cons, List.length_nil, Cs.len, List.length_map, List.length_set, List.length_replicate, *]) | (with_reducible exact Lt.mono (by assumption) (by decide)) | (simp only [Cs.len]; done) | rfl) (by decide)) rfl ?_
          refine OpsFrom.v (Y.move (up0 rfl rfl rfl) rfl rfl) rfl ?_
          refine OpsFrom.v (Y.move (up0 rfl rfl rfl) rfl rfl) rfl ?_
          refine OpsFrom.v (Y.callW (w_rsopen _ _ _ (by first | (with_reducible assumption) | omega | (simp only [lens, List.flatten_cons, List.flatten_nil, List.append_nil, List.length_cons, List.length_nil, Cs.len, List.length_map, List.length_set, List.length_replicate, *]; first | done | omega) | decide | (split <;> simp only [lens, List.flatten_cons, List.flatten_nil, List.append_nil, List.length_cons, List.length_nil, Cs.len, List.length_map, List.length_set, List.length_replicate, *]) | (with_reducible exact Lt.mono (by assumption) (by decide)) | (simp only [Cs.len]; done) | rfl) (by first | (with_reducible assumption) | omega | (simp only [lens, List.flatten_cons, List.flatten_nil, List.append_nil, List.length_cons, List.length_nil, Cs.len, List.length_map, List.length_set, List.length_replicate, *]; first | done | omega) | decide | (split <;> simp only [lens, List.flatten_cons, List.flatten_nil, List.append_nil, List.length_cons, List.length_nil, Cs.len, List.length_map, List.length_set, List.length_replicate, *]) | (with_reducible exact Lt.mono (by assumption) (by decide)) | (simp only [Cs.len]; done) | rfl) (by first | (with_reducible assumption) | omega | (simp only [lens, List.flatten_cons, List.flatten_nil, List.append_nil, List.length_cons, List.length_nil, Cs.len, List.length_map, List.length_set, List.length_replicate, *]; first | done | omega) | decide | (split <;> simp only [lens, List.flatten_cons, List.flatten_nil, List.append_nil, List.length_cons, List.length_nil, Cs.len, List.length_map, List.length_set, List.length_replicate, *]) | (with_reducible exact Lt.mono (by assumption) (by decide)) | (simp only [Cs.len]; done) | rfl)) fnok45 (up0 rfl rfl rfl) rfl rfl (.cons _ _ _ _ rfl (.cons _ _ _ _ rfl (.cons _ _ _ _ rfl .nil))) (.cons _ _ _ _ (.same _) (.cons _ _ _ _ (.same _) (.cons _ _ _ _ (.same _) .nil))) rfl rfl) rfl ?_
          refine OpsFrom.v (Y.move (up0 rfl rfl rfl) rfl rfl) rfl ?_
          refine OpsFrom.v (Y.ext0 (up0 rfl rfl rfl) rfl rfl) rfl ?_
          refine OpsFrom.v (Y.ext1 (up0 rfl rfl rfl) rfl rfl) rfl ?_
          refine OpsFrom.v (Y.assign (up0 rfl rfl rfl) rfl rfl) rfl ?_
          refine OpsFrom.v (Y.assign (up0 rfl rfl rfl) rfl rfl) rfl ?_
          refine OpsFrom.nil ?_
          refine Holds.seq ?_
          refine Holds.reg ?_
          refine OpsFrom.v (Y.move (up0 rfl rfl rfl) rfl rfl) rfl ?_
          refine OpsFrom.v (Y.str ty26 ty5 ty9 (up0 rfl rfl rfl) rfl rfl (.same _)) rfl ?_
          refine OpsFrom.v (Y.move (up0 rfl rfl rfl) rfl rfl) rfl ?_
          refine OpsFrom.v (Y.str ty26 ty5 ty9 (up0 rfl rfl rfl) rfl rfl (.all rfl (by first | (with_reducible assumption) | omega | (simp only [lens, List.flatten_cons, List.flatten_nil, List.append_nil, List.length_cons, List.length_nil, Cs.len, List.length_map, List.length_set, List.length_replicate, *]; first | done | omega) | decide | (split <;> simp only [lens, List.flatten_cons, List.flatten_nil, List.append_nil, List.length_cons, List.length_nil, Cs.len, List.length_map, List.length_set, List.length_replicate, *]) | (with_reducible exact Lt.mono (by assumption) (by decide)) | (simp only [Cs.len]; done) | rfl))) rfl ?_
          refine OpsFrom.v (Y.eqS (up0 rfl rfl rfl) rfl rfl rfl) rfl ?_
          refine OpsFrom.v (Y.assign (up0 rfl rfl rfl) rfl rfl) rfl ?_
          refine OpsFrom.nil ?_
          refine Holds.seqJoin ⟨[(14, .one (.b true))], []⟩ ?_ (fun join => ?_)
          · refine Holds.ret ?_
            exact Holds.ret1 (.inl rfl) rfl (.tmp _ _ rfl) (.same _) rfl
          · by_cases a28_16 : (!(decide ((if (how % 4) = 3 then ((smoves_it1 key beside b how i k ((segs ((sseal key beside b).1)).length)).set ((i * k) % ((smoves_it1 key beside b how i k ((segs ((sseal key beside b).1)).length)).length)) (((smoves_it1 key beside b how i k ((segs ((sseal key beside b).1)).length)).getD ((i * k) % ((smoves_it1 key beside b how i k ((segs ((sseal key beside b).1)).length)).length)) 0) ^^^ by_)) else (smoves_it1 key beside b how i k ((segs ((sseal key beside b).1)).length))) = ((sseal key beside b).1)))) = true
            · refine Holds.reg ?_
              refine OpsFrom.v (Y.move (up0 rfl rfl rfl) rfl rfl) rfl ?_
              refine OpsFrom.v (Y.move (up0 rfl rfl rfl) rfl rfl) rfl ?_
              refine OpsFrom.v (Y.move (up1 rfl rfl rfl rfl rfl rfl) rfl rfl) rfl ?_
              refine OpsFrom.v (Y.str ty26 ty5 ty9 (up1 rfl rfl rfl rfl rfl rfl) rfl rfl (.same _)) rfl ?_
              refine OpsFrom.v (Y.move (up1 rfl rfl rfl rfl rfl rfl) rfl rfl) rfl ?_
              refine OpsFrom.v (Y.str ty26 ty5 ty9 (up1 rfl rfl rfl rfl rfl rfl) rfl rfl (.same _)) rfl ?_
              refine OpsFrom.v (Doing.isB (c := true) (decide_eq_true (congrArg Prod.fst (rsopen_eq b_key b_beside hn2 hl2).symm)) (Y.eqS (up1 rfl rfl rfl rfl rfl rfl) rfl rfl rfl)) rfl ?_
              refine OpsFrom.v (Y.pickT (up0 rfl rfl rfl) rfl rfl rfl) rfl ?_
              refine OpsFrom.v (Y.move (up0 rfl rfl rfl) rfl rfl) rfl ?_
              refine OpsFrom.v (Y.move (up1 rfl rfl rfl rfl rfl rfl) rfl rfl) rfl ?_
              refine OpsFrom.v (Y.move (up1 rfl rfl rfl rfl rfl rfl) rfl rfl) rfl ?_
              refine OpsFrom.v (Doing.isB (c := true) (decide_eq_true (congrArg Prod.snd (rsopen_eq b_key b_beside hn2 hl2).symm)) (Y.eql (up1 rfl rfl rfl rfl rfl rfl) rfl rfl rfl)) rfl ?_
              refine OpsFrom.v (Y.pickT (up0 rfl rfl rfl) rfl rfl rfl) rfl ?_
              refine OpsFrom.v (Y.move (up0 rfl rfl rfl) rfl rfl) rfl ?_
              refine OpsFrom.v (Y.move (up1 rfl rfl rfl rfl rfl rfl) rfl rfl) rfl ?_
              refine OpsFrom.v (Y.not (up1 rfl rfl rfl rfl rfl rfl) rfl rfl) rfl ?_
              refine OpsFrom.v (Doing.isB (c := true) a28_16 (Y.move (up1 rfl rfl rfl rfl rfl rfl) rfl rfl)) rfl ?_
              refine OpsFrom.v (Doing.skip _ _ _ _ rfl rfl rfl rfl (dlt rfl (Nat.le_of_ble_eq_true rfl))) rfl ?_
              refine OpsFrom.v (Doing.skip _ _ _ _ rfl rfl rfl rfl (dlt rfl (Nat.le_of_ble_eq_true rfl))) rfl ?_
              refine OpsFrom.v (Y.pickT (up1 rfl rfl rfl rfl rfl rfl) rfl rfl rfl) rfl ?_
              refine OpsFrom.v (Y.pickT (up0 rfl rfl rfl) rfl rfl rfl) rfl ?_
              refine OpsFrom.v (Y.assign (up0 rfl rfl rfl) rfl rfl) rfl ?_
              refine OpsFrom.nil ?_
              exact join _ [] ⟨⟨rfl, trivial⟩, trivial, rfl, rfl⟩
            · refine Holds.reg ?_
              refine OpsFrom.v (Y.move (up0 rfl rfl rfl) rfl rfl) rfl ?_
              refine OpsFrom.v (Y.move (up0 rfl rfl rfl) rfl rfl) rfl ?_
              refine OpsFrom.v (Y.move (up1 rfl rfl rfl rfl rfl rfl) rfl rfl) rfl ?_
              refine OpsFrom.v (Y.str ty26 ty5 ty9 (up1 rfl rfl rfl rfl rfl rfl) rfl rfl (.same _)) rfl ?_
              refine OpsFrom.v (Y.move (up1 rfl rfl rfl rfl rfl rfl) rfl rfl) rfl ?_
              refine OpsFrom.v (Y.str ty26 ty5 ty9 (up1 rfl rfl rfl rfl rfl rfl) rfl rfl (.same _)) rfl ?_
              refine OpsFrom.v (Doing.isB (c := true) (decide_eq_true (congrArg Prod.fst (rsopen_eq b_key b_beside hn2 hl2).symm)) (Y.eqS (up1 rfl rfl rfl rfl rfl rfl) rfl rfl rfl)) rfl ?_
              refine OpsFrom.v (Y.pickT (up0 rfl rfl rfl) rfl rfl rfl) rfl ?_
              refine OpsFrom.v (Y.move (up0 rfl rfl rfl) rfl rfl) rfl ?_
              refine OpsFrom.v (Y.move (up1 rfl rfl rfl rfl rfl rfl) rfl rfl) rfl ?_
              refine OpsFrom.v (Y.move (up1 rfl rfl rfl rfl rfl rfl) rfl rfl) rfl ?_
              refine OpsFrom.v (Doing.isB (c := true) (decide_eq_true (congrArg Prod.snd (rsopen_eq b_key b_beside hn2 hl2).symm)) (Y.eql (up1 rfl rfl rfl rfl rfl rfl) rfl rfl rfl)) rfl ?_
              refine OpsFrom.v (Y.pickT (up0 rfl rfl rfl) rfl rfl rfl) rfl ?_
              refine OpsFrom.v (Y.move (up0 rfl rfl rfl) rfl rfl) rfl ?_
              refine OpsFrom.v (Y.move (up1 rfl rfl rfl rfl rfl rfl) rfl rfl) rfl ?_
              refine OpsFrom.v (Y.not (up1 rfl rfl rfl rfl rfl rfl) rfl rfl) rfl ?_
              refine OpsFrom.v (Doing.isB (c := false) (by simpa using a28_16) (Y.move (up1 rfl rfl rfl rfl rfl rfl) rfl rfl)) rfl ?_
              refine OpsFrom.v (Y.move (up1 rfl rfl rfl rfl rfl rfl) rfl rfl) rfl ?_
              refine OpsFrom.v (Doing.isB (c := true) (decide_eq_true (smoves_same l_key beside (by first | (with_reducible assumption) | omega | (simp only [lens, List.flatten_cons, List.flatten_nil, List.append_nil, List.length_cons, List.length_nil, Cs.len, List.length_map, List.length_set, List.length_replicate, *]; first | done | omega) | decide | (split <;> simp only [lens, List.flatten_cons, List.flatten_nil, List.append_nil, List.length_cons, List.length_nil, Cs.len, List.length_map, List.length_set, List.length_replicate, *]) | (with_reducible exact Lt.mono (by assumption) (by decide)) | (simp only [Cs.len]; done) | rfl) a28_16)) (Y.eql (b := 0) (up1 rfl rfl rfl rfl rfl rfl) rfl rfl rfl)) rfl ?_
              refine OpsFrom.v (Y.pickF (up1 rfl rfl rfl rfl rfl rfl) rfl rfl rfl) rfl ?_
              refine OpsFrom.v (Y.pickT (up0 rfl rfl rfl) rfl rfl rfl) rfl ?_
              refine OpsFrom.v (Y.assign (up0 rfl rfl rfl) rfl rfl) rfl ?_
              refine OpsFrom.nil ?_
              exact join _ [] ⟨⟨rfl, trivial⟩, trivial, rfl, rfl⟩
        · refine Holds.seq ?_
          refine Holds.reg ?_
          refine OpsFrom.v (Y.move (up0 rfl rfl rfl) rfl rfl) rfl ?_
          refine OpsFrom.v (Y.rem (b := 4) (up0 rfl rfl rfl) rfl rfl rfl (by decide)) rfl ?_
          refine OpsFrom.v (Y.eql (b := 3) (up0 rfl rfl rfl) rfl rfl rfl) rfl ?_
          refine OpsFrom.nil ?_
          refine Holds.condD rfl (fun h123 => ?_) (fun h123 => ?_)
          · have hal := smoves_all key beside b i k h123
            have hml := Nat.mod_lt (i * k) (show 0 < (smoves_it1 key beside b how i k (segs (sseal key beside b).1).length).length by rw [hal]; omega)
            refine Holds.dr mx [([124], [125, 126, 127, 128, 129, 130, 131, 132, 133, 134, 135, 136, 137, 138, 139, 140, 141, 142, 143, 144, 145]), ([125], [124, 127, 128, 130, 131, 133, 134, 135, 136, 137, 138, 139, 140, 141, 142, 143, 144, 145]), ([126], [124, 127, 128, 130, 131, 133, 134, 135, 136, 137, 138, 139, 140, 141, 142, 143, 144, 145]), ([127], [124, 125, 126, 130, 131, 133, 134, 135, 136, 137, 138, 139, 140, 141, 142, 143, 144, 145]), ([128], [124, 125, 126, 130, 131, 133, 134, 135, 136, 137, 138, 139, 140, 141, 142, 143, 144, 145]), ([129], [124, 130, 131, 133, 134, 135, 136, 137, 138, 139, 140, 141, 142, 143, 144, 145]), ([130], [124, 125, 126, 127, 128, 129, 133, 134, 135, 136, 137, 138, 139, 140, 141, 142, 143, 144, 145]), ([131], [124, 125, 126, 127, 128, 129, 133, 134, 135, 136, 137, 138, 139, 140, 141, 142, 143, 144, 145]), ([132], [124, 133, 134, 135, 136, 137, 138, 139, 140, 141, 142, 143, 144, 145]), ([133], [124, 125, 126, 127, 128, 129, 130, 131, 132, 134, 135, 136, 137, 138, 139, 140, 141, 144]), ([134], [124, 125, 126, 127, 128, 129, 130, 131, 132, 133, 136, 137, 139, 140, 144]), ([135], [124, 125, 126, 127, 128, 129, 130, 131, 132, 133, 136, 137, 139, 140, 144]), ([136], [124, 125, 126, 127, 128, 129, 130, 131, 132, 133, 134, 135, 139, 140, 144]), ([137], [124, 125, 126, 127, 128, 129, 130, 131, 132, 133, 134, 135, 139, 140, 144]), ([138], [124, 125, 126, 127, 128, 129, 130, 131, 132, 133, 139, 140, 144]), ([139], [124, 125, 126, 127, 128, 129, 130, 131, 132, 133, 134, 135, 136, 137, 138, 144]), ([140], [124, 125, 126, 127, 128, 129, 130, 131, 132, 133, 134, 135, 136, 137, 138, 144]), ([141], [124, 125, 126, 127, 128, 129, 130, 131, 132, 133, 144]), ([142], [124, 125, 126, 127, 128, 129, 130, 131, 132, 144]), ([143], [124, 125, 126, 127, 128, 129, 130, 131, 132, 144]), ([144], [124, 125, 126, 127, 128, 129, 130, 131, 132, 133, 134, 135, 136, 137, 138, 139, 140, 141, 142, 143]), ([145], [124, 125, 126, 127, 128, 129, 130, 131, 132]), ([146], []), ([21], [])] (by kernel_rfl) ?_
            refine CertK.vd (Y.move (up0 rfl rfl rfl) rfl rfl) rfl rfl ?_
            refine CertK.vd (Y.move (up0 rfl rfl rfl) rfl rfl) rfl rfl ?_
            refine CertK.vd (Y.convUpI ty5.u ty3.u rfl (by decide) (up0 rfl rfl rfl) rfl rfl) rfl rfl ?_
            refine CertK.vd (Y.move (up0 rfl rfl rfl) rfl rfl) rfl rfl ?_
            refine CertK.vd (Y.convUpI ty5.u ty3.u rfl (by decide) (up0 rfl rfl rfl) rfl rfl) rfl rfl ?_
            refine CertK.vd (Y.mulI (up0 rfl rfl rfl) rfl rfl rfl (by first | (with_reducible assumption) | omega | (simp only [lens, List.flatten_cons, List.flatten_nil, List.append_nil, List.length_cons, List.length_nil, Cs.len, List.length_map, List.length_set, List.length_replicate, *]; first | done | omega) | decide | (split <;> simp only [lens, List.flatten_cons, List.flatten_nil, List.append_nil, List.length_cons, List.length_nil, Cs.len, List.length_map, List.length_set, List.length_replicate, *]) | (with_reducible exact Lt.mono (by assumption) (by decide)) | (simp only [Cs.len]; done) | rfl)) rfl rfl ?_
            refine CertK.vd (Y.move (up0 rfl rfl rfl) rfl rfl) rfl rfl ?_
            refine CertK.vd (Y.len ty26 (up0 rfl rfl rfl) rfl rfl rfl rfl) rfl rfl ?_
            refine CertK.vd (Y.rem (up0 rfl rfl rfl) rfl rfl rfl (by first | (with_reducible assumption) | omega | (simp only [lens, List.flatten_cons, List.flatten_nil, List.append_nil, List.length_cons, List.length_nil, Cs.len, List.length_map, List.length_set, List.length_replicate, *]; first | done | omega) | decide | (split <;> simp only [lens, List.flatten_cons, List.flatten_nil, List.append_nil, List.length_cons, List.length_nil, Cs.len, List.length_map, List.length_set, List.length_replicate, *]) | (with_reducible exact Lt.mono (by assumption) (by decide)) | (simp only [Cs.len]; done) | rfl)) rfl rfl ?_
            refine CertK.vd (Y.move (up0 rfl rfl rfl) rfl rfl) rfl rfl ?_
            refine CertK.vd (Y.move (up0 rfl rfl rfl) rfl rfl) rfl rfl ?_
            refine CertK.vd (Y.convUpI ty5.u ty3.u rfl (by decide) (up0 rfl rfl rfl) rfl rfl) rfl rfl ?_
            refine CertK.vd (Y.move (up0 rfl rfl rfl) rfl rfl) rfl rfl ?_
            refine CertK.vd (Y.convUpI ty5.u ty3.u rfl (by decide) (up0 rfl rfl rfl) rfl rfl) rfl rfl ?_
            refine CertK.vd (Y.mulI (up0 rfl rfl rfl) rfl rfl rfl (by first | (with_reducible assumption) | omega | (simp only [lens, List.flatten_cons, List.flatten_nil, List.append_nil, List.length_cons, List.length_nil, Cs.len, List.length_map, List.length_set, List.length_replicate, *]; first | done | omega) | decide | (split <;> simp only [lens, List.flatten_cons, List.flatten_nil, List.append_nil, List.length_cons, List.length_nil, Cs.len, List.length_map, List.length_set, List.length_replicate, *]) | (with_reducible exact Lt.mono (by assumption) (by decide)) | (simp only [Cs.len]; done) | rfl)) rfl rfl ?_
            refine CertK.vd (Y.move (up0 rfl rfl rfl) rfl rfl) rfl rfl ?_
            refine CertK.vd (Y.len ty26 (up0 rfl rfl rfl) rfl rfl rfl rfl) rfl rfl ?_
            refine CertK.vd (Y.rem (up0 rfl rfl rfl) rfl rfl rfl (by first | (with_reducible assumption) | omega | (simp only [lens, List.flatten_cons, List.flatten_nil, List.append_nil, List.length_cons, List.length_nil, Cs.len, List.length_map, List.length_set, List.length_replicate, *]; first | done | omega) | decide | (split <;> simp only [lens, List.flatten_cons, List.flatten_nil, List.append_nil, List.length_cons, List.length_nil, Cs.len, List.length_map, List.length_set, List.length_replicate, *]) | (with_reducible exact Lt.mono (by assumption) (by decide)) | (simp only [Cs.len]; done) | rfl)) rfl rfl ?_
            refine CertK.vd (Y.iaSg0 ty26 ty5 (up0 rfl rfl rfl) rfl rfl rfl (by first | (with_reducible assumption) | omega | (simp only [lens, List.flatten_cons, List.flatten_nil, List.append_nil, List.length_cons, List.length_nil, Cs.len, List.length_map, List.length_set, List.length_replicate, *]; first | done | omega) | decide | (split <;> simp only [lens, List.flatten_cons, List.flatten_nil, List.append_nil, List.length_cons, List.length_nil, Cs.len, List.length_map, List.length_set, List.length_replicate, *]) | (with_reducible exact Lt.mono (by assumption) (by decide)) | (simp only [Cs.len]; done) | rfl)) rfl rfl ?_
            refine CertK.vd (Y.ldI ty5 rfl (up0 rfl rfl rfl) rfl rfl rfl (by first | (with_reducible assumption) | omega | (simp only [lens, List.flatten_cons, List.flatten_nil, List.append_nil, List.length_cons, List.length_nil, Cs.len, List.length_map, List.length_set, List.length_replicate, *]; first | done | omega) | decide | (split <;> simp only [lens, List.flatten_cons, List.flatten_nil, List.append_nil, List.length_cons, List.length_nil, Cs.len, List.length_map, List.length_set, List.length_replicate, *]) | (with_reducible exact Lt.mono (by assumption) (by decide)) | (simp only [Cs.len]; done) | rfl)) rfl rfl ?_
            refine CertK.vd (Y.move (up0 rfl rfl rfl) rfl rfl) rfl rfl ?_
            refine CertK.vd (Y.xor u8s u8m (up0 rfl rfl rfl) rfl rfl rfl) rfl rfl ?_
            refine CertK.v (Y.iaSg0 ty26 ty5 (up0 rfl rfl rfl) rfl rfl rfl (by first | (with_reducible assumption) | omega | (simp only [lens, List.flatten_cons, List.flatten_nil, List.append_nil, List.length_cons, List.length_nil, Cs.len, List.length_map, List.length_set, List.length_replicate, *]; first | done | omega) | decide | (split <;> simp only [lens, List.flatten_cons, List.flatten_nil, List.append_nil, List.length_cons, List.length_nil, Cs.len, List.length_map, List.length_set, List.length_replicate, *]) | (with_reducible exact Lt.mono (by assumption) (by decide)) | (simp only [Cs.len]; done) | rfl)) rfl ?_
            refine CertK.n (Y.stI ty5 (upN rfl rfl) rfl rfl rfl rfl (by first | (with_reducible assumption) | omega | (simp only [lens, List.flatten_cons, List.flatten_nil, List.append_nil, List.length_cons, List.length_nil, Cs.len, List.length_map, List.length_set, List.length_replicate, *]; first | done | omega) | decide | (split <;> simp only [lens, List.flatten_cons, List.flatten_nil, List.append_nil, List.length_cons, List.length_nil, Cs.len, List.length_map, List.length_set, List.length_replicate, *]) | (with_reducible exact Lt.mono (by assumption) (by decide)) | (simp only [Cs.len]; done) | rfl)) rfl rfl rfl rfl ?_
            refine CertK.nil ?_
            exact join _ [] ⟨⟨rfl, rfl, rfl, rfl, rfl, rfl, trivial⟩, ⟨rfl, rfl, (hEq (if_pos h123).symm), trivial⟩, rfl, rfl⟩
          · refine Holds.skip ?_
            exact join _ [] ⟨⟨rfl, rfl, rfl, rfl, rfl, rfl, trivial⟩, ⟨rfl, rfl, (hEq (if_neg h123).symm), trivial⟩, rfl, rfl⟩
  · by_cases a2_3 : (500 < beside.length)
    · refine Holds.reg ?_
      refine OpsFrom.v (Y.move (up0 rfl rfl rfl) rfl rfl) rfl ?_
      refine OpsFrom.v (Y.len ty26 (up0 rfl rfl rfl) rfl rfl rfl rfl) rfl ?_
      refine OpsFrom.v (Y.gtr (b := 500) (up0 rfl rfl rfl) rfl rfl rfl) rfl ?_
      refine OpsFrom.v (Doing.isB (c := true) (decide_eq_true a2_3) (Y.move (up0 rfl rfl rfl) rfl rfl)) rfl ?_
      refine OpsFrom.v (Doing.skip _ _ _ _ rfl rfl rfl rfl (dlt rfl (Nat.le_of_ble_eq_true rfl))) rfl ?_
      refine OpsFrom.v (Doing.skip _ _ _ _ rfl rfl rfl rfl (dlt rfl (Nat.le_of_ble_eq_true rfl))) rfl ?_
      refine OpsFrom.v (Doing.skip _ _ _ _ rfl rfl rfl rfl (dlt rfl (Nat.le_of_ble_eq_true rfl))) rfl ?_
      refine OpsFrom.v (Y.pickT (up0 rfl rfl rfl) rfl rfl rfl) rfl ?_
      refine OpsFrom.nil ?_
      exact join _ [] ⟨⟨rfl, rfl, rfl, rfl, rfl, rfl, rfl, rfl, rfl, (bEq ((dT (.inl a2_3)))), trivial⟩, ⟨rfl, trivial⟩, rfl, rfl⟩
    · refine Holds.reg ?_
      refine OpsFrom.v (Y.move (up0 rfl rfl rfl) rfl rfl) rfl ?_
      refine OpsFrom.v (Y.len ty26 (up0 rfl rfl rfl) rfl rfl rfl rfl) rfl ?_
      refine OpsFrom.v (Y.gtr (b := 500) (up0 rfl rfl rfl) rfl rfl rfl) rfl ?_
      refine OpsFrom.v (Doing.isB (c := false) (decide_eq_false a2_3) (Y.move (up0 rfl rfl rfl) rfl rfl)) rfl ?_
      refine OpsFrom.v (Y.move (up1 rfl rfl rfl rfl rfl rfl) rfl rfl) rfl ?_
      refine OpsFrom.v (Y.len ty26 (up1 rfl rfl rfl rfl rfl rfl) rfl rfl rfl rfl) rfl ?_
      refine OpsFrom.v (Y.gtr (b := 3000) (up1 rfl rfl rfl rfl rfl rfl) rfl rfl rfl) rfl ?_
      refine OpsFrom.v (Y.pickF (up0 rfl rfl rfl) rfl rfl rfl) rfl ?_
      refine OpsFrom.nil ?_
      exact join _ [] ⟨⟨rfl, rfl, rfl, rfl, rfl, rfl, rfl, rfl, rfl, (bEq ((dOr a2_3))), trivial⟩, ⟨rfl, trivial⟩, rfl, rfl⟩


end Go.Proofs.Ytkpelchcpiafaaa
