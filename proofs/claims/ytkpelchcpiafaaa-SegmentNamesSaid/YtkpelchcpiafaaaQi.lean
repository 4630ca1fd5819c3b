/-
  Walks: PolyNone.
-/
import Derived.Test.YtkpelchcpiafaaaQg
namespace Go.Proofs.Ytkpelchcpiafaaa
open Go Go.Fx
set_option linter.unusedVariables false
set_option linter.unusedSimpArgs false
/-- The carries of an addition place by place. -/
theorem carry_dig {q : List Nat} {i c : Nat} (hi : i < q.length) (hc : c = val 256 (q.take i) / 256 ^ i) : val 256 q / 256 ^ i % 256 = (q.getD i 0 + c) % 256 ∧ (q.getD i 0 + c) / 256 = val 256 (q.take (i + 1)) / 256 ^ (i + 1) := by
  have hP : 0 < 256 ^ i := Nat.pow_pos (by decide)
  have h1 := val_split 256 (i + 1) q (by omega)
  have h2 := val_take_succ (B := 256) hi
  have e1 : val 256 (q.take (i + 1)) / 256 ^ i = c + q.getD i 0 := by rw [h2, Nat.add_mul_div_left _ _ hP, ← hc]
  constructor
  · have e2 : val 256 q / 256 ^ i = c + q.getD i 0 + 256 * val 256 (q.drop (i + 1)) := by
      rw [h1, Nat.pow_succ, Nat.mul_assoc, Nat.add_mul_div_left _ _ hP, e1]
    rw [e2]; omega
  · rw [Nat.pow_succ, ← Nat.div_div_eq_div_mul, e1]; congr 1; omega
theorem ptag_of {key : List Nat} {xss : List (List Nat)} (lk : key.length = 32) (hk : Lt 256 key) (ht : Lt 256 xss.flatten) {k2 : List Nat} (l2 : k2.length = 32) (h2 : Lt 256 k2) {yss : List (List Nat)} (hy : yss.flatten = xss.flatten) (hc : clamp k2 = clamp key) (hd : k2.drop 16 = key.drop 16) : ptag k2 yss = ptag key xss := by
  rw [ptag_val lk hk ht, ptag_val l2 h2 (by rw [hy]; exact ht), hy, hc, hd]
theorem pacc_zero (t : List Nat) (n : Nat) : pacc 0 t n = 0 := by
  cases n with
  | zero => rfl
  | succ n => rw [pacc_succ, Nat.mul_zero]; rfl
def pnone_s1 (key : List Nat) (i1_ : Nat) (m1_ : List Nat) : List Nat :=
  m1_.set i1_ 0
def pnone_it1 (key : List Nat) (i1_ : Nat) : List Nat := iter (pnone_s1 key) i1_ key
theorem pnone_it1_z (key : List Nat) : pnone_it1 key 0 = key := rfl
theorem pnone_it1_s (key : List Nat) (i1_ : Nat) : pnone_it1 key (i1_ + 1) = pnone_s1 key i1_ (pnone_it1 key i1_) := by unfold pnone_it1; exact iterS _ _ _
theorem pnone_it1_l (key : List Nat) (i1_ : Nat) : ((pnone_it1 key i1_)).length = (key : List Nat).length := iter_inv (fun (s : List Nat) => (s).length = (key : List Nat).length) (by simp) (fun i s h => by
  unfold pnone_s1
  first | (simp [h]; done) | (dsimp only; (repeat' split) <;> simp [h])) i1_
theorem pnone_z {key : List Nat} (lk : key.length = 32) (hk : Lt 256 key) : (pnone_it1 key 16).length = 32 ∧ Lt 256 (pnone_it1 key 16) ∧ clamp (pnone_it1 key 16) = 0 ∧ (pnone_it1 key 16).drop 16 = key.drop 16 := by
  have key' : ∀ i, i ≤ 16 → Lt 256 (pnone_it1 key i) ∧ (∀ j, j < i → (pnone_it1 key i).getD j 0 = 0) ∧ (∀ j, i ≤ j → (pnone_it1 key i).getD j 0 = key.getD j 0) := by
    intro i
    induction i with
    | zero => intro _; exact ⟨hk, fun j hj => by omega, fun j _ => rfl⟩
    | succ i ih =>
      intro hi
      obtain ⟨h1, h2, h3⟩ := ih (by omega)
      have hl : (pnone_it1 key i).length = 32 := by rw [pnone_it1_l, lk]
      rw [pnone_it1_s]
      unfold pnone_s1
      refine ⟨h1.set (by decide), fun j hj => ?_, fun j hj => ?_⟩
      · by_cases h : j = i
        · subst h; exact getD_set_eq (by omega)
        · rw [Fx.getD_set_ne (by omega)]; exact h2 j (by omega)
      · rw [Fx.getD_set_ne (by omega)]; exact h3 j (by omega)
  obtain ⟨h1, h2, h3⟩ := key' 16 (by omega)
  have hl : (pnone_it1 key 16).length = 32 := by rw [pnone_it1_l, lk]
  refine ⟨hl, h1, ?_, ?_⟩
  · unfold clamp clampL
    rw [h2 0 (by decide), h2 1 (by decide), h2 2 (by decide), h2 3 (by decide), h2 4 (by decide), h2 5 (by decide), h2 6 (by decide), h2 7 (by decide), h2 8 (by decide), h2 9 (by decide), h2 10 (by decide), h2 11 (by decide), h2 12 (by decide), h2 13 (by decide), h2 14 (by decide), h2 15 (by decide)]
    rfl
  · refine ext_getD (by simp [hl, lk]) fun j hj => ?_
    rw [getD_drop, getD_drop]; exact h3 _ (by omega)
def pnone_s2 (key : List Nat) (i2_ : Nat) (m2_ : List Nat) : List Nat :=
  m2_.set i2_ (key.getD (16 + i2_) 0)
def pnone_it2 (key : List Nat) (i2_ : Nat) : List Nat := iter (pnone_s2 key) i2_ (List.replicate 16 0)
theorem pnone_it2_z (key : List Nat) : pnone_it2 key 0 = List.replicate 16 0 := rfl
theorem pnone_it2_s (key : List Nat) (i2_ : Nat) : pnone_it2 key (i2_ + 1) = pnone_s2 key i2_ (pnone_it2 key i2_) := by unfold pnone_it2; exact iterS _ _ _
theorem pnone_it2_l (key : List Nat) (i2_ : Nat) : ((pnone_it2 key i2_)).length = (List.replicate 16 0 : List Nat).length := iter_inv (fun (s : List Nat) => (s).length = (List.replicate 16 0 : List Nat).length) (by simp) (fun i s h => by
  unfold pnone_s2
  first | (simp [pnone_it1_l, h]; done) | (dsimp only; (repeat' split) <;> simp [pnone_it1_l, h])) i2_
theorem pnone_s {key : List Nat} (lk : key.length = 32) (hk : Lt 256 key) : pnone_it2 key 16 = digs 256 16 (val 256 (key.drop 16)) := by
  have e : pnone_s2 key = fun i m => m.set i (key.getD (16 + i) 0) := by funext i m; unfold pnone_s2; rfl
  unfold pnone_it2
  rw [e, iter_fill (fun i => key.getD (16 + i) 0) 16]
  rw [← eq_digs (by decide) (hk.drop 16) (n := 16) (by simp [lk])]
  refine ext_getD (by simp [lk]) fun j hj => ?_
  have hj' : j < 16 := by simpa using hj
  rw [getD_map_range hj', getD_drop]
theorem pnone_e {key : List Nat} (lk : key.length = 32) (hk : Lt 256 key) {xss : List (List Nat)} (h : xss.flatten = []) : ptag key xss = pnone_it2 key 16 := by
  rw [pnone_s lk hk, ptag_val lk hk (by rw [h]; exact fun i => by simp), h]
  congr 1
  show 0 + val 256 (key.drop 16) = _
  omega
theorem pnone_t {key text : List Nat} (lk : key.length = 32) (hk : Lt 256 key) (ht : Lt 256 text) : ptag (pnone_it1 key 16) [text] = pnone_it2 key 16 := by
  obtain ⟨h1, h2, h3, h4⟩ := pnone_z lk hk
  rw [ptag_val h1 h2 (by simpa using ht), h3, h4, pacc_zero, Nat.zero_add, pnone_s lk hk]
theorem w_pnone (key : List Nat) (text : List Nat) (l_key : key.length = 32) : VC Try.prog 11 [.row (.ints .u8 key), .one (.bs false .u8 text)] (.one (.b true)) := by
  refine VC.go Try.func11 rfl Try.ntmps11 rfl rfl fun O w => ?_
  refine Holds.ltRow 0 rfl u8s u8m (fun b_key => ?_)
  refine Holds.ltBs 1 rfl u8s u8m (fun b_text => ?_)
  refine Holds.seq ?_
  refine Holds.reg ?_
  refine OpsFrom.u (Y.boxR (d := 2) (up0 rfl rfl rfl) rfl rfl rfl) rfl rfl rfl ?_
  refine OpsFrom.v (Y.assign (up0 rfl rfl rfl) rfl rfl) rfl ?_
  refine OpsFrom.nil ?_
  refine Holds.seq ?_
  refine Holds.reg ?_
  refine OpsFrom.v (Y.callV w_pawake fnok31 (up0 rfl rfl rfl) rfl rfl .nil .nil rfl rfl) rfl ?_
  refine OpsFrom.v (Y.assign (up0 rfl rfl rfl) rfl rfl) rfl ?_
  refine OpsFrom.nil ?_
  refine Holds.seq ?_
  refine Holds.seq ?_
  refine Holds.reg ?_
  refine OpsFrom.v (Y.move (up0 rfl rfl rfl) rfl rfl) rfl ?_
  refine OpsFrom.v (Y.len ty26 (up0 rfl rfl rfl) rfl rfl rfl rfl) rfl ?_
  refine OpsFrom.v (Y.gtr (b := 1000) (up0 rfl rfl rfl) rfl rfl rfl) rfl ?_
  refine OpsFrom.nil ?_
  refine Holds.condD rfl (fun h13 => ?_) (fun h13 => ?_)
  · refine Holds.seq ?_
    refine Holds.reg ?_
    refine OpsFrom.v (Y.move (up0 rfl rfl rfl) rfl rfl) rfl ?_
    refine OpsFrom.v (Y.assign (up0 rfl rfl rfl) rfl rfl) rfl ?_
    refine OpsFrom.nil ?_
    refine Holds.ret ?_
    exact Holds.ret1 (.inl rfl) rfl (.tmp _ _ rfl) (.same _) rfl
  · refine Holds.skip ?_
    refine Holds.seq ?_
    refine Holds.reg ?_
    refine OpsFrom.v (Y.ldAll ty23 rfl (up0 rfl rfl rfl) rfl rfl rfl (by first | (with_reducible assumption) | omega | (simp only [lens, List.flatten_cons, List.flatten_nil, List.append_nil, List.length_cons, List.length_nil, Cs.len, List.length_map, List.length_set, List.length_replicate, *]; first | done | omega) | decide | (split <;> simp only [lens, List.flatten_cons, List.flatten_nil, List.append_nil, List.length_cons, List.length_nil, Cs.len, List.length_map, List.length_set, List.length_replicate, *]) | (with_reducible exact Lt.mono (by assumption) (by decide))) (by decide)) rfl ?_
    refine OpsFrom.u (Y.alloc (d := 6) ty23 rfl rfl (up0 rfl rfl rfl) rfl) rfl rfl rfl ?_
    refine OpsFrom.n (Y.stR ty23 (upN rfl rfl) rfl rfl rfl rfl rfl (by first | (with_reducible assumption) | omega | (simp only [lens, List.flatten_cons, List.flatten_nil, List.append_nil, List.length_cons, List.length_nil, Cs.len, List.length_map, List.length_set, List.length_replicate, *]; first | done | omega) | decide | (split <;> simp only [lens, List.flatten_cons, List.flatten_nil, List.append_nil, List.length_cons, List.length_nil, Cs.len, List.length_map, List.length_set, List.length_replicate, *]) | (with_reducible exact Lt.mono (by assumption) (by decide))) (by first | (with_reducible assumption) | omega | (simp only [lens, List.flatten_cons, List.flatten_nil, List.append_nil, List.length_cons, List.length_nil, Cs.len, List.length_map, List.length_set, List.length_replicate, *]; first | done | omega) | decide | (split <;> simp only [lens, List.flatten_cons, List.flatten_nil, List.append_nil, List.length_cons, List.length_nil, Cs.len, List.length_map, List.length_set, List.length_replicate, *]) | (with_reducible exact Lt.mono (by assumption) (by decide))) (by decide)) rfl rfl ?_
    refine OpsFrom.nil ?_
    refine Holds.seq ?_
    refine Holds.seq ?_
    refine Holds.reg ?_
    refine OpsFrom.v (Y.assign (v := (.one (.n .i64 0))) (up0 rfl rfl rfl) rfl rfl) rfl ?_
    refine OpsFrom.nil ?_
    refine Holds.block ?_
    refine Holds.loop (fun (i1_ : Nat) => ⟨[(1, .one (.bs false .u8 text)), (2, .one (.p 2 0)), (4, .one (.b false)), (5, .one (.b true)), (6, .one (.p 6 0)), (7, .one (.n .i64 i1_))], [(2, .own (.ints .u8 key)), (6, .own (.ints .u8 (pnone_it1 key i1_)))]⟩) (fun (i1_ : Nat) => i1_ ≤ 16) (fun (i1_ : Nat) => 16 - i1_) 0 (by first | (with_reducible assumption) | omega | (simp only [lens, pnone_it1_l, List.flatten_cons, List.flatten_nil, List.append_nil, List.length_cons, List.length_nil, Cs.len, List.length_map, List.length_set, List.length_replicate, *]; first | done | omega) | decide | (split <;> simp only [lens, pnone_it1_l, List.flatten_cons, List.flatten_nil, List.append_nil, List.length_cons, List.length_nil, Cs.len, List.length_map, List.length_set, List.length_replicate, *]) | (with_reducible exact Lt.mono (by assumption) (by decide))) [] ⟨⟨rfl, rfl, rfl, rfl, rfl, rfl, trivial⟩, ⟨rfl, (hEq (congrArg (fun (s : List Nat) => s) (pnone_it1_z key)).symm), trivial⟩, rfl, rfl⟩ ?_
    intro i1_ k1_
    refine Holds.seq ?_
    refine Holds.seq ?_
    refine Holds.reg ?_
    refine OpsFrom.v (Y.move (up0 rfl rfl rfl) rfl rfl) rfl ?_
    refine OpsFrom.v (Y.lss (b := 16) (up0 rfl rfl rfl) rfl rfl rfl) rfl ?_
    refine OpsFrom.nil ?_
    refine Holds.condD rfl (fun h17 => ?_) (fun h17 => ?_)
    · refine Holds.skip ?_
      refine Holds.seq ?_
      refine Holds.block ?_
      refine Holds.reg ?_
      refine OpsFrom.v (Y.move (up0 rfl rfl rfl) rfl rfl) rfl ?_
      refine OpsFrom.v (Y.ia0 ty23 ty5 (up0 rfl rfl rfl) rfl rfl rfl (by first | (with_reducible assumption) | omega | (simp only [lens, pnone_it1_l, List.flatten_cons, List.flatten_nil, List.append_nil, List.length_cons, List.length_nil, Cs.len, List.length_map, List.length_set, List.length_replicate, *]; first | done | omega) | decide | (split <;> simp only [lens, pnone_it1_l, List.flatten_cons, List.flatten_nil, List.append_nil, List.length_cons, List.length_nil, Cs.len, List.length_map, List.length_set, List.length_replicate, *]) | (with_reducible exact Lt.mono (by assumption) (by decide)))) rfl ?_
      refine OpsFrom.n (Y.stI ty5 (upN rfl rfl) rfl rfl rfl rfl (by first | (with_reducible assumption) | omega | (simp only [lens, pnone_it1_l, List.flatten_cons, List.flatten_nil, List.append_nil, List.length_cons, List.length_nil, Cs.len, List.length_map, List.length_set, List.length_replicate, *]; first | done | omega) | decide | (split <;> simp only [lens, pnone_it1_l, List.flatten_cons, List.flatten_nil, List.append_nil, List.length_cons, List.length_nil, Cs.len, List.length_map, List.length_set, List.length_replicate, *]) | (with_reducible exact Lt.mono (by assumption) (by decide)))) rfl rfl ?_
      refine OpsFrom.nil ?_
      refine Holds.reg ?_
      refine OpsFrom.v (Y.move (up0 rfl rfl rfl) rfl rfl) rfl ?_
      refine OpsFrom.v (Y.addI (b := 1) (up0 rfl rfl rfl) rfl rfl rfl (by first | (with_reducible assumption) | omega | (simp only [lens, pnone_it1_l, List.flatten_cons, List.flatten_nil, List.append_nil, List.length_cons, List.length_nil, Cs.len, List.length_map, List.length_set, List.length_replicate, *]; first | done | omega) | decide | (split <;> simp only [lens, pnone_it1_l, List.flatten_cons, List.flatten_nil, List.append_nil, List.length_cons, List.length_nil, Cs.len, List.length_map, List.length_set, List.length_replicate, *]) | (with_reducible exact Lt.mono (by assumption) (by decide)))) rfl ?_
      refine OpsFrom.v (Y.assign (up0 rfl rfl rfl) rfl rfl) rfl ?_
      refine OpsFrom.nil ?_
      exact Holds.again (i1_ + 1) (by omega) (by omega) [] ⟨⟨rfl, rfl, rfl, rfl, rfl, (nEq (by omega)), trivial⟩, ⟨rfl, (hEq (by rw [pnone_it1_s]; unfold pnone_s1; first | (dsimp only; done) | rfl)), trivial⟩, rfl, rfl⟩
    · obtain rfl : i1_ = 16 := by omega
      refine Holds.exit ?_
      refine Holds.seq ?_
      refine Holds.reg ?_
      refine OpsFrom.v (Y.buildA ty35 ty5 rfl (up0 rfl rfl rfl) rfl (.nil _)) rfl ?_
      refine OpsFrom.u (Y.alloc (d := 8) ty35 rfl rfl (up0 rfl rfl rfl) rfl) rfl rfl rfl ?_
      refine OpsFrom.n (Y.stR ty35 (upN rfl rfl) rfl rfl rfl rfl rfl (by first | (with_reducible assumption) | omega | (simp only [lens, pnone_it1_l, List.flatten_cons, List.flatten_nil, List.append_nil, List.length_cons, List.length_nil, Cs.len, List.length_map, List.length_set, List.length_replicate, *]; first | done | omega) | decide | (split <;> simp only [lens, pnone_it1_l, List.flatten_cons, List.flatten_nil, List.append_nil, List.length_cons, List.length_nil, Cs.len, List.length_map, List.length_set, List.length_replicate, *]) | (with_reducible exact Lt.mono (by assumption) (by decide))) (by first | (with_reducible assumption) | omega | (simp only [lens, pnone_it1_l, List.flatten_cons, List.flatten_nil, List.append_nil, List.length_cons, List.length_nil, Cs.len, List.length_map, List.length_set, List.length_replicate, *]; first | done | omega) | decide | (split <;> simp only [lens, pnone_it1_l, List.flatten_cons, List.flatten_nil, List.append_nil, List.length_cons, List.length_nil, Cs.len, List.length_map, List.length_set, List.length_replicate, *]) | (with_reducible exact Lt.mono (by assumption) (by decide))) (by decide)) rfl rfl ?_
      refine OpsFrom.nil ?_
      refine Holds.seq ?_
      refine Holds.seq ?_
      refine Holds.reg ?_
      refine OpsFrom.v (Y.assign (v := (.one (.n .i64 0))) (up0 rfl rfl rfl) rfl rfl) rfl ?_
      refine OpsFrom.nil ?_
      refine Holds.block ?_
      refine Holds.loop (fun (i2_ : Nat) => ⟨[(1, .one (.bs false .u8 text)), (2, .one (.p 2 0)), (4, .one (.b false)), (5, .one (.b true)), (6, .one (.p 6 0)), (8, .one (.p 8 0)), (9, .one (.n .i64 i2_))], [(2, .own (.ints .u8 key)), (6, .own (.ints .u8 (pnone_it1 key 16))), (8, .own (.ints .u8 (pnone_it2 key i2_)))]⟩) (fun (i2_ : Nat) => i2_ ≤ 16) (fun (i2_ : Nat) => 16 - i2_) 0 (by first | (with_reducible assumption) | omega | (simp only [lens, pnone_it1_l, pnone_it2_l, List.flatten_cons, List.flatten_nil, List.append_nil, List.length_cons, List.length_nil, Cs.len, List.length_map, List.length_set, List.length_replicate, *]; first | done | omega) | decide | (split <;> simp only [lens, pnone_it1_l, pnone_it2_l, List.flatten_cons, List.flatten_nil, List.append_nil, List.length_cons, List.length_nil, Cs.len, List.length_map, List.length_set, List.length_replicate, *]) | (with_reducible exact Lt.mono (by assumption) (by decide))) [] ⟨⟨rfl, rfl, rfl, rfl, rfl, rfl, rfl, trivial⟩, ⟨rfl, rfl, (hEq (congrArg (fun (s : List Nat) => s) (pnone_it2_z key)).symm), trivial⟩, rfl, rfl⟩ ?_
      intro i2_ k2_
      refine Holds.seq ?_
      refine Holds.seq ?_
      refine Holds.reg ?_
      refine OpsFrom.v (Y.move (up0 rfl rfl rfl) rfl rfl) rfl ?_
      refine OpsFrom.v (Y.lss (b := 16) (up0 rfl rfl rfl) rfl rfl rfl) rfl ?_
      refine OpsFrom.nil ?_
      refine Holds.condD rfl (fun h24 => ?_) (fun h24 => ?_)
      · refine Holds.skip ?_
        refine Holds.seq ?_
        refine Holds.block ?_
        refine Holds.reg ?_
        refine OpsFrom.v (Y.move (up0 rfl rfl rfl) rfl rfl) rfl ?_
        refine OpsFrom.v (Y.move (up0 rfl rfl rfl) rfl rfl) rfl ?_
        refine OpsFrom.v (Y.addI (a := 16) (up0 rfl rfl rfl) rfl rfl rfl (by first | (with_reducible assumption) | omega | (simp only [lens, pnone_it1_l, pnone_it2_l, List.flatten_cons, List.flatten_nil, List.append_nil, List.length_cons, List.length_nil, Cs.len, List.length_map, List.length_set, List.length_replicate, *]; first | done | omega) | decide | (split <;> simp only [lens, pnone_it1_l, pnone_it2_l, List.flatten_cons, List.flatten_nil, List.append_nil, List.length_cons, List.length_nil, Cs.len, List.length_map, List.length_set, List.length_replicate, *]) | (with_reducible exact Lt.mono (by assumption) (by decide)))) rfl ?_
        refine OpsFrom.v (Y.ia0 ty23 ty5 (up0 rfl rfl rfl) rfl rfl rfl (by first | (with_reducible assumption) | omega | (simp only [lens, pnone_it1_l, pnone_it2_l, List.flatten_cons, List.flatten_nil, List.append_nil, List.length_cons, List.length_nil, Cs.len, List.length_map, List.length_set, List.length_replicate, *]; first | done | omega) | decide | (split <;> simp only [lens, pnone_it1_l, pnone_it2_l, List.flatten_cons, List.flatten_nil, List.append_nil, List.length_cons, List.length_nil, Cs.len, List.length_map, List.length_set, List.length_replicate, *]) | (with_reducible exact Lt.mono (by assumption) (by decide)))) rfl ?_
        refine OpsFrom.v (Y.ldI ty5 rfl (up0 rfl rfl rfl) rfl rfl rfl (by first | (with_reducible assumption) | omega | (simp only [lens, pnone_it1_l, pnone_it2_l, List.flatten_cons, List.flatten_nil, List.append_nil, List.length_cons, List.length_nil, Cs.len, List.length_map, List.length_set, List.length_replicate, *]; first | done | omega) | decide | (split <;> simp only [lens, pnone_it1_l, pnone_it2_l, List.flatten_cons, List.flatten_nil, List.append_nil, List.length_cons, List.length_nil, Cs.len, List.length_map, List.length_set, List.length_replicate, *]) | (with_reducible exact Lt.mono (by assumption) (by decide)))) rfl ?_
        refine OpsFrom.v (Y.ia0 ty35 ty5 (up0 rfl rfl rfl) rfl rfl rfl (by first | (with_reducible assumption) | omega | (simp only [lens, pnone_it1_l, pnone_it2_l, List.flatten_cons, List.flatten_nil, List.append_nil, List.length_cons, List.length_nil, Cs.len, List.length_map, List.length_set, List.length_replicate, *]; first | done | omega) | decide | (split <;> simp only [lens, pnone_it1_l, pnone_it2_l, List.flatten_cons, List.flatten_nil, List.append_nil, List.length_cons, List.length_nil, Cs.len, List.length_map, List.length_set, List.length_replicate, *]) | (with_reducible exact Lt.mono (by assumption) (by decide)))) rfl ?_
        refine OpsFrom.n (Y.stI ty5 (upN rfl rfl) rfl rfl rfl rfl (by first | (with_reducible assumption) | omega | (simp only [lens, pnone_it1_l, pnone_it2_l, List.flatten_cons, List.flatten_nil, List.append_nil, List.length_cons, List.length_nil, Cs.len, List.length_map, List.length_set, List.length_replicate, *]; first | done | omega) | decide | (split <;> simp only [lens, pnone_it1_l, pnone_it2_l, List.flatten_cons, List.flatten_nil, List.append_nil, List.length_cons, List.length_nil, Cs.len, List.length_map, List.length_set, List.length_replicate, *]) | (with_reducible exact Lt.mono (by assumption) (by decide)))) rfl rfl ?_
        refine OpsFrom.nil ?_
        refine Holds.reg ?_
        refine OpsFrom.v (Y.move (up0 rfl rfl rfl) rfl rfl) rfl ?_
        refine OpsFrom.v (Y.addI (b := 1) (up0 rfl rfl rfl) rfl rfl rfl (by first | (with_reducible assumption) | omega | (simp only [lens, pnone_it1_l, pnone_it2_l, List.flatten_cons, List.flatten_nil, List.append_nil, List.length_cons, List.length_nil, Cs.len, List.length_map, List.length_set, List.length_replicate, *]; first | done | omega) | decide | (split <;> simp only [lens, pnone_it1_l, pnone_it2_l, List.flatten_cons, List.flatten_nil, List.append_nil, List.length_cons, List.length_nil, Cs.len, List.length_map, List.length_set, List.length_replicate, *]) | (with_reducible exact Lt.mono (by assumption) (by decide)))) rfl ?_
        refine OpsFrom.v (Y.assign (up0 rfl rfl rfl) rfl rfl) rfl ?_
        refine OpsFrom.nil ?_
        exact Holds.again (i2_ + 1) (by omega) (by omega) [] ⟨⟨rfl, rfl, rfl, rfl, rfl, rfl, (nEq (by omega)), trivial⟩, ⟨rfl, rfl, (hEq (by rw [pnone_it2_s]; unfold pnone_s2; first | (dsimp only; done) | rfl)), trivial⟩, rfl, rfl⟩
      · obtain rfl : i2_ = 16 := by omega
        refine Holds.exit ?_
        refine Holds.seq ?_
        refine Holds.dr mx [([33], []), ([34], []), ([35], [37]), ([36], [37]), ([37], [35, 36]), ([38], []), ([39], []), ([40], []), ([41], [42, 44]), ([42], [41, 44]), ([43], [44]), ([44], [41, 42, 43]), ([45], []), ([46], []), ([47], []), ([48], [49, 50, 52]), ([49], [48, 52]), ([50], [48, 52]), ([51], [52]), ([52], [48, 49, 50, 51]), ([53], []), ([54], []), ([4], [])] (by kernel_rfl) ?_
        refine CertK.v (Y.move (up0 rfl rfl rfl) rfl rfl) rfl ?_
        refine CertK.v (Y.move (up0 rfl rfl rfl) rfl rfl) rfl ?_
        refine CertK.vd (Y.ldAll ty23 rfl (up1 rfl rfl rfl rfl rfl rfl) rfl rfl rfl (by first | (with_reducible assumption) | omega | (simp only [lens, pnone_it1_l, pnone_it2_l, ptag_len, List.flatten_cons, List.flatten_nil, List.append_nil, List.length_cons, List.length_nil, Cs.len, List.length_map, List.length_set, List.length_replicate, *]; first | done | omega) | decide | (split <;> simp only [lens, pnone_it1_l, pnone_it2_l, ptag_len, List.flatten_cons, List.flatten_nil, List.append_nil, List.length_cons, List.length_nil, Cs.len, List.length_map, List.length_set, List.length_replicate, *]) | (with_reducible exact Lt.mono (by assumption) (by decide))) (by decide)) rfl rfl ?_
        refine CertK.vd (Y.callV (w_ptag _ _ (by first | (with_reducible assumption) | omega | (simp only [lens, pnone_it1_l, pnone_it2_l, ptag_len, List.flatten_cons, List.flatten_nil, List.append_nil, List.length_cons, List.length_nil, Cs.len, List.length_map, List.length_set, List.length_replicate, *]; first | done | omega) | decide | (split <;> simp only [lens, pnone_it1_l, pnone_it2_l, ptag_len, List.flatten_cons, List.flatten_nil, List.append_nil, List.length_cons, List.length_nil, Cs.len, List.length_map, List.length_set, List.length_replicate, *]) | (with_reducible exact Lt.mono (by assumption) (by decide))) (by first | (with_reducible assumption) | omega | (simp only [lens, pnone_it1_l, pnone_it2_l, ptag_len, List.flatten_cons, List.flatten_nil, List.append_nil, List.length_cons, List.length_nil, Cs.len, List.length_map, List.length_set, List.length_replicate, *]; first | done | omega) | decide | (split <;> simp only [lens, pnone_it1_l, pnone_it2_l, ptag_len, List.flatten_cons, List.flatten_nil, List.append_nil, List.length_cons, List.length_nil, Cs.len, List.length_map, List.length_set, List.length_replicate, *]) | (with_reducible exact Lt.mono (by assumption) (by decide))) (by first | (with_reducible assumption) | omega | (simp only [lens, pnone_it1_l, pnone_it2_l, ptag_len, List.flatten_cons, List.flatten_nil, List.append_nil, List.length_cons, List.length_nil, Cs.len, List.length_map, List.length_set, List.length_replicate, *]; first | done | omega) | decide | (split <;> simp only [lens, pnone_it1_l, pnone_it2_l, ptag_len, List.flatten_cons, List.flatten_nil, List.append_nil, List.length_cons, List.length_nil, Cs.len, List.length_map, List.length_set, List.length_replicate, *]) | (with_reducible exact Lt.mono (by assumption) (by decide)))) fnok32 (up1 rfl rfl rfl rfl rfl rfl) rfl rfl (.cons _ _ _ _ rfl (.cons _ _ _ _ rfl .nil)) (.cons _ _ _ _ (.same _) (.cons _ _ _ _ (.nilBB _) .nil)) rfl rfl) rfl rfl ?_
        refine CertK.vd (Y.ldAll ty35 rfl (up1 rfl rfl rfl rfl rfl rfl) rfl rfl rfl (by first | (with_reducible assumption) | omega | (simp only [lens, pnone_it1_l, pnone_it2_l, ptag_len, List.flatten_cons, List.flatten_nil, List.append_nil, List.length_cons, List.length_nil, Cs.len, List.length_map, List.length_set, List.length_replicate, *]; first | done | omega) | decide | (split <;> simp only [lens, pnone_it1_l, pnone_it2_l, ptag_len, List.flatten_cons, List.flatten_nil, List.append_nil, List.length_cons, List.length_nil, Cs.len, List.length_map, List.length_set, List.length_replicate, *]) | (with_reducible exact Lt.mono (by assumption) (by decide))) (by decide)) rfl rfl ?_
        refine CertK.v (Doing.isB (c := true) (decide_eq_true (pnone_e l_key b_key rfl)) (Y.eqR ty35 ty5 (by kernel_rfl) (up1 rfl rfl rfl rfl rfl rfl) rfl rfl rfl (by first | (with_reducible assumption) | omega | (simp only [lens, pnone_it1_l, pnone_it2_l, ptag_len, List.flatten_cons, List.flatten_nil, List.append_nil, List.length_cons, List.length_nil, Cs.len, List.length_map, List.length_set, List.length_replicate, *]; first | done | omega) | decide | (split <;> simp only [lens, pnone_it1_l, pnone_it2_l, ptag_len, List.flatten_cons, List.flatten_nil, List.append_nil, List.length_cons, List.length_nil, Cs.len, List.length_map, List.length_set, List.length_replicate, *]) | (with_reducible exact Lt.mono (by assumption) (by decide))) (by first | (with_reducible assumption) | omega | (simp only [lens, pnone_it1_l, pnone_it2_l, ptag_len, List.flatten_cons, List.flatten_nil, List.append_nil, List.length_cons, List.length_nil, Cs.len, List.length_map, List.length_set, List.length_replicate, *]; first | done | omega) | decide | (split <;> simp only [lens, pnone_it1_l, pnone_it2_l, ptag_len, List.flatten_cons, List.flatten_nil, List.append_nil, List.length_cons, List.length_nil, Cs.len, List.length_map, List.length_set, List.length_replicate, *]) | (with_reducible exact Lt.mono (by assumption) (by decide))))) rfl ?_
        refine CertK.v (Y.pickT (up0 rfl rfl rfl) rfl rfl rfl) rfl ?_
        refine CertK.v (Y.move (up0 rfl rfl rfl) rfl rfl) rfl ?_
        refine CertK.vd (Y.ldAll ty23 rfl (up1 rfl rfl rfl rfl rfl rfl) rfl rfl rfl (by first | (with_reducible assumption) | omega | (simp only [lens, pnone_it1_l, pnone_it2_l, ptag_len, List.flatten_cons, List.flatten_nil, List.append_nil, List.length_cons, List.length_nil, Cs.len, List.length_map, List.length_set, List.length_replicate, *]; first | done | omega) | decide | (split <;> simp only [lens, pnone_it1_l, pnone_it2_l, ptag_len, List.flatten_cons, List.flatten_nil, List.append_nil, List.length_cons, List.length_nil, Cs.len, List.length_map, List.length_set, List.length_replicate, *]) | (with_reducible exact Lt.mono (by assumption) (by decide))) (by decide)) rfl rfl ?_
        refine CertK.u (Y.bldS (d := 42) ty39 ty26 rfl (up1 rfl rfl rfl rfl rfl rfl) rfl (.mix (List.replicate 2 (.nil))) rfl rfl rfl rfl (by decide) (by decide) (.cons _ _ _ _ _ _ _ _ _ rfl rfl rfl rfl (Spl.m (by first | decide | (simp; done))) (.cons _ _ _ _ _ _ _ _ _ rfl rfl rfl rfl (Spl.m (by first | decide | (simp; done))) (.nil _)))) rfl rfl rfl rfl rfl ?_
        refine CertK.vd (Y.callV (w_ptag _ _ (by first | (with_reducible assumption) | omega | (simp only [lens, pnone_it1_l, pnone_it2_l, ptag_len, List.flatten_cons, List.flatten_nil, List.append_nil, List.length_cons, List.length_nil, Cs.len, List.length_map, List.length_set, List.length_replicate, *]; first | done | omega) | decide | (split <;> simp only [lens, pnone_it1_l, pnone_it2_l, ptag_len, List.flatten_cons, List.flatten_nil, List.append_nil, List.length_cons, List.length_nil, Cs.len, List.length_map, List.length_set, List.length_replicate, *]) | (with_reducible exact Lt.mono (by assumption) (by decide))) (by first | (with_reducible assumption) | omega | (simp only [lens, pnone_it1_l, pnone_it2_l, ptag_len, List.flatten_cons, List.flatten_nil, List.append_nil, List.length_cons, List.length_nil, Cs.len, List.length_map, List.length_set, List.length_replicate, *]; first | done | omega) | decide | (split <;> simp only [lens, pnone_it1_l, pnone_it2_l, ptag_len, List.flatten_cons, List.flatten_nil, List.append_nil, List.length_cons, List.length_nil, Cs.len, List.length_map, List.length_set, List.length_replicate, *]) | (with_reducible exact Lt.mono (by assumption) (by decide))) (by first | (with_reducible assumption) | omega | (simp only [lens, pnone_it1_l, pnone_it2_l, ptag_len, List.flatten_cons, List.flatten_nil, List.append_nil, List.length_cons, List.length_nil, Cs.len, List.length_map, List.length_set, List.length_replicate, *]; first | done | omega) | decide | (split <;> simp only [lens, pnone_it1_l, pnone_it2_l, ptag_len, List.flatten_cons, List.flatten_nil, List.append_nil, List.length_cons, List.length_nil, Cs.len, List.length_map, List.length_set, List.length_replicate, *]) | (with_reducible exact Lt.mono (by assumption) (by decide)))) fnok32 (up1 rfl rfl rfl rfl rfl rfl) rfl rfl (.cons _ _ _ _ rfl (.cons _ _ _ _ rfl .nil)) (.cons _ _ _ _ (.same _) (.cons _ _ _ _ (.sgsL rfl (.cons _ _ _ _ (.nilB _ _) (.cons _ _ _ _ (.nilB _ _) .nil)) rfl) .nil)) rfl rfl) rfl rfl ?_
        refine CertK.vd (Y.ldAll ty35 rfl (up1 rfl rfl rfl rfl rfl rfl) rfl rfl rfl (by first | (with_reducible assumption) | omega | (simp only [lens, pnone_it1_l, pnone_it2_l, ptag_len, List.flatten_cons, List.flatten_nil, List.append_nil, List.length_cons, List.length_nil, Cs.len, List.length_map, List.length_set, List.length_replicate, *]; first | done | omega) | decide | (split <;> simp only [lens, pnone_it1_l, pnone_it2_l, ptag_len, List.flatten_cons, List.flatten_nil, List.append_nil, List.length_cons, List.length_nil, Cs.len, List.length_map, List.length_set, List.length_replicate, *]) | (with_reducible exact Lt.mono (by assumption) (by decide))) (by decide)) rfl rfl ?_
        refine CertK.v (Doing.isB (c := true) (decide_eq_true (pnone_e l_key b_key rfl)) (Y.eqR ty35 ty5 (by kernel_rfl) (up1 rfl rfl rfl rfl rfl rfl) rfl rfl rfl (by first | (with_reducible assumption) | omega | (simp only [lens, pnone_it1_l, pnone_it2_l, ptag_len, List.flatten_cons, List.flatten_nil, List.append_nil, List.length_cons, List.length_nil, Cs.len, List.length_map, List.length_set, List.length_replicate, *]; first | done | omega) | decide | (split <;> simp only [lens, pnone_it1_l, pnone_it2_l, ptag_len, List.flatten_cons, List.flatten_nil, List.append_nil, List.length_cons, List.length_nil, Cs.len, List.length_map, List.length_set, List.length_replicate, *]) | (with_reducible exact Lt.mono (by assumption) (by decide))) (by first | (with_reducible assumption) | omega | (simp only [lens, pnone_it1_l, pnone_it2_l, ptag_len, List.flatten_cons, List.flatten_nil, List.append_nil, List.length_cons, List.length_nil, Cs.len, List.length_map, List.length_set, List.length_replicate, *]; first | done | omega) | decide | (split <;> simp only [lens, pnone_it1_l, pnone_it2_l, ptag_len, List.flatten_cons, List.flatten_nil, List.append_nil, List.length_cons, List.length_nil, Cs.len, List.length_map, List.length_set, List.length_replicate, *]) | (with_reducible exact Lt.mono (by assumption) (by decide))))) rfl ?_
        refine CertK.v (Y.pickT (up0 rfl rfl rfl) rfl rfl rfl) rfl ?_
        refine CertK.v (Y.move (up0 rfl rfl rfl) rfl rfl) rfl ?_
        refine CertK.vd (Y.ldAll ty23 rfl (up1 rfl rfl rfl rfl rfl rfl) rfl rfl rfl (by first | (with_reducible assumption) | omega | (simp only [lens, pnone_it1_l, pnone_it2_l, ptag_len, List.flatten_cons, List.flatten_nil, List.append_nil, List.length_cons, List.length_nil, Cs.len, List.length_map, List.length_set, List.length_replicate, *]; first | done | omega) | decide | (split <;> simp only [lens, pnone_it1_l, pnone_it2_l, ptag_len, List.flatten_cons, List.flatten_nil, List.append_nil, List.length_cons, List.length_nil, Cs.len, List.length_map, List.length_set, List.length_replicate, *]) | (with_reducible exact Lt.mono (by assumption) (by decide))) (by decide)) rfl rfl ?_
        refine CertK.vd (Y.move (up1 rfl rfl rfl rfl rfl rfl) rfl rfl) rfl rfl ?_
        refine CertK.u (Y.bldS (d := 50) ty39 ty26 rfl (up1 rfl rfl rfl rfl rfl rfl) rfl (.mix (List.replicate 1 (.nil))) rfl rfl rfl rfl (by decide) (by decide) (.cons _ _ _ _ _ _ _ _ _ rfl rfl rfl rfl (Spl.m (by first | decide | (simp; done))) (.nil _))) rfl rfl rfl rfl rfl ?_
        refine CertK.vd (Y.callV (w_ptag _ _ (by first | (with_reducible assumption) | omega | (simp only [lens, pnone_it1_l, pnone_it2_l, ptag_len, List.flatten_cons, List.flatten_nil, List.append_nil, List.length_cons, List.length_nil, Cs.len, List.length_map, List.length_set, List.length_replicate, *]; first | done | omega) | decide | (split <;> simp only [lens, pnone_it1_l, pnone_it2_l, ptag_len, List.flatten_cons, List.flatten_nil, List.append_nil, List.length_cons, List.length_nil, Cs.len, List.length_map, List.length_set, List.length_replicate, *]) | (with_reducible exact Lt.mono (by assumption) (by decide))) (by first | (with_reducible assumption) | omega | (simp only [lens, pnone_it1_l, pnone_it2_l, ptag_len, List.flatten_cons, List.flatten_nil, List.append_nil, List.length_cons, List.length_nil, Cs.len, List.length_map, List.length_set, List.length_replicate, *]; first | done | omega) | decide | (split <;> simp only [lens, pnone_it1_l, pnone_it2_l, ptag_len, List.flatten_cons, List.flatten_nil, List.append_nil, List.length_cons, List.length_nil, Cs.len, List.length_map, List.length_set, List.length_replicate, *]) | (with_reducible exact Lt.mono (by assumption) (by decide))) (by first | (with_reducible assumption) | omega | (simp only [lens, pnone_it1_l, pnone_it2_l, ptag_len, List.flatten_cons, List.flatten_nil, List.append_nil, List.length_cons, List.length_nil, Cs.len, List.length_map, List.length_set, List.length_replicate, *]; first | done | omega) | decide | (split <;> simp only [lens, pnone_it1_l, pnone_it2_l, ptag_len, List.flatten_cons, List.flatten_nil, List.append_nil, List.length_cons, List.length_nil, Cs.len, List.length_map, List.length_set, List.length_replicate, *]) | (with_reducible exact Lt.mono (by assumption) (by decide)))) fnok32 (up1 rfl rfl rfl rfl rfl rfl) rfl rfl (.cons _ _ _ _ rfl (.cons _ _ _ _ rfl .nil)) (.cons _ _ _ _ (.same _) (.cons _ _ _ _ (.sgsL rfl (.cons _ _ _ _ (.same _) .nil) rfl) .nil)) rfl rfl) rfl rfl ?_
        refine CertK.vd (Y.ldAll ty35 rfl (up1 rfl rfl rfl rfl rfl rfl) rfl rfl rfl (by first | (with_reducible assumption) | omega | (simp only [lens, pnone_it1_l, pnone_it2_l, ptag_len, List.flatten_cons, List.flatten_nil, List.append_nil, List.length_cons, List.length_nil, Cs.len, List.length_map, List.length_set, List.length_replicate, *]; first | done | omega) | decide | (split <;> simp only [lens, pnone_it1_l, pnone_it2_l, ptag_len, List.flatten_cons, List.flatten_nil, List.append_nil, List.length_cons, List.length_nil, Cs.len, List.length_map, List.length_set, List.length_replicate, *]) | (with_reducible exact Lt.mono (by assumption) (by decide))) (by decide)) rfl rfl ?_
        refine CertK.v (Doing.isB (c := true) (decide_eq_true (pnone_t l_key b_key b_text)) (Y.eqR ty35 ty5 (by kernel_rfl) (up1 rfl rfl rfl rfl rfl rfl) rfl rfl rfl (by first | (with_reducible assumption) | omega | (simp only [lens, pnone_it1_l, pnone_it2_l, ptag_len, List.flatten_cons, List.flatten_nil, List.append_nil, List.length_cons, List.length_nil, Cs.len, List.length_map, List.length_set, List.length_replicate, *]; first | done | omega) | decide | (split <;> simp only [lens, pnone_it1_l, pnone_it2_l, ptag_len, List.flatten_cons, List.flatten_nil, List.append_nil, List.length_cons, List.length_nil, Cs.len, List.length_map, List.length_set, List.length_replicate, *]) | (with_reducible exact Lt.mono (by assumption) (by decide))) (by first | (with_reducible assumption) | omega | (simp only [lens, pnone_it1_l, pnone_it2_l, ptag_len, List.flatten_cons, List.flatten_nil, List.append_nil, List.length_cons, List.length_nil, Cs.len, List.length_map, List.length_set, List.length_replicate, *]; first | done | omega) | decide | (split <;> simp only [lens, pnone_it1_l, pnone_it2_l, ptag_len, List.flatten_cons, List.flatten_nil, List.append_nil, List.length_cons, List.length_nil, Cs.len, List.length_map, List.length_set, List.length_replicate, *]) | (with_reducible exact Lt.mono (by assumption) (by decide))))) rfl ?_
        refine CertK.v (Y.pickT (up0 rfl rfl rfl) rfl rfl rfl) rfl ?_
        refine CertK.v (Y.assign (up0 rfl rfl rfl) rfl rfl) rfl ?_
        refine CertK.nil ?_
        refine Holds.ret ?_
        exact Holds.ret1 (.inl rfl) rfl (.tmp _ _ rfl) (.same _) rfl


end Go.Proofs.Ytkpelchcpiafaaa
