/-
  FxV: what a row's closing facts ask of the program's head, by its first three words.
-/
import Derived.JoinedOf
namespace Go.Fx

theorem words_split (r : List Char) : ∀ (l : List Char), (l.all fun c => c != Char.ofNat 32) = true → wordsSigns (l ++ Char.ofNat 32 :: r) = l :: wordsSigns r
  | [], _ => rfl
  | c :: l, h => by
    simp only [List.all_cons, Bool.and_eq_true, bne_iff_ne, ne_eq] at h
    have ih := words_split r l h.2
    rw [List.cons_append, wordsSigns, ih]
    exact h.1

/-- The head says: a harness of this sum, cut. -/
structure CutHead (P : Program) : Prop where
  w : ∃ s r, isSumSigns s = true ∧ wordsSigns P.initOrder.toList = "harness".toList :: s :: "cut".toList :: r
theorem CutHead.mk' {P : Program} (s r : List Nat) (h : P.initOrder = String.ofList ([104, 97, 114, 110, 101, 115, 115].map Char.ofNat ++ Char.ofNat 32 :: (s.map Char.ofNat ++ Char.ofNat 32 :: ([99, 117, 116].map Char.ofNat ++ Char.ofNat 32 :: r.map Char.ofNat))))
    (hs : isSumSigns (s.map Char.ofNat) = true) (hl : ((s.map Char.ofNat).all fun c => c != Char.ofNat 32) = true) : CutHead P := by
  refine ⟨s.map Char.ofNat, wordsSigns (r.map Char.ofNat), hs, ?_⟩
  rw [h, String.toList_ofList, words_split _ _ (by decide), words_split _ _ hl, words_split _ _ (by decide)]
  rfl
theorem CutHead.behind {P : Program} (h : CutHead P) : ∃ r, behindMainWord (wordsSigns P.initOrder.toList) = "cut".toList :: r := by
  obtain ⟨s, r, hs, hw⟩ := h.w
  refine ⟨r, ?_⟩
  rw [hw, behindMainWord, hs]
  rfl
theorem strip_cut (r : List (List Char)) : stripLifts liftWords ("cut".toList :: r) = ([], "cut".toList :: r) := rfl
theorem CutHead.mayEnter {P : Program} (h : CutHead P) (h1 : (!P.laysLater && !P.bearsReflect && P.doorFits []) = true) : P.mayEnter = true := by
  obtain ⟨r, hr⟩ := h.behind
  simp only [Bool.and_eq_true] at h1
  unfold Program.mayEnter
  rw [hr]
  simp only [strip_cut, h1.1.1, h1.1.2, h1.2]
  rfl
theorem CutHead.liftsFinal {P : Program} (h : CutHead P) : P.liftsFinal = false := by
  obtain ⟨r, hr⟩ := h.behind
  unfold Program.liftsFinal Program.headLifts
  rw [hr]
  simp only [strip_cut]
  rfl
theorem CutHead.make {P : Program} (h : CutHead P) : P.make = some .cut := by
  obtain ⟨r, hr⟩ := h.behind
  unfold Program.make
  rw [hr]
  rfl
end Go.Fx
