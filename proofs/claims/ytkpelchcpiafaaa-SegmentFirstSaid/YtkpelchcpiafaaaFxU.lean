/-
  FxU: the top of a law: what came in, read as the framework reads it.
-/
import Derived.Test.YtkpelchcpiafaaaFxT
import Derived.WalkKit
import Derived.ProofKit
import Derived.OpenShut
import Derived.ChangeOld
import Derived.Below
namespace Go.Fx
open Go.RowKit (Below)
open Go.ChangeShapes Go.WideShapes Go.ChangeAt

def none' : Nat → Prop := fun _ => False

theorem fits_wf {k : IntKind} {n : Int} (hk : k.signed = false) (h : (Lit.int k n).wf = true) : ∃ x : Nat, n = x ∧ x < 2 ^ k.bits := by
  simp only [Lit.wf, IntKind.min, IntKind.max, hk, Bool.false_eq_true, if_false, Bool.and_eq_true, decide_eq_true_eq] at h
  refine ⟨n.toNat, by omega, ?_⟩
  have h1 : (n.toNat : Int) = n := Int.toNat_of_nonneg h.1
  have h2 : (n.toNat : Int) < ((2 ^ k.bits : Nat) : Int) := by
    rw [h1]; have := h.2; simp only [Int.natCast_pow, Int.cast_ofNat_Int]; omega
  exact Int.ofNat_lt.1 h2

section
variable {H : Type} {enc : TypeId × Value → H} {P : Program} {W : World} {base : Nat} {t e : TypeId} {v : Value} {d : DataW H} {ps : List MemPlace}

theorem top_int {k : IntKind} (ht : P.underlying t = some (.int k)) (hk : k.signed = false) (hval : Value.okWide P W .any base t v) (hd : DataW.Trod enc P W 0 (fun _ => true) true t v d ps) :
    ∃ x : Nat, x < 2 ^ k.bits ∧ (AV.one (.n k x)).Rel ρz none' W v := by
  obtain ⟨n, rfl, _, _, hw⟩ := open_int ht hval hd
  obtain ⟨x, rfl, hx⟩ := fits_wf hk hw
  exact ⟨x, hx, rfl, .inr hx⟩
theorem top_i64 (ht : P.underlying t = some (.int .i64)) (hval : Value.okWide P W .any base t v) (hd : DataW.Trod enc P W 0 (fun _ => true) true t v d ps) :
    ∃ x : Int, -9223372036854775808 ≤ x ∧ x < 9223372036854775808 ∧ (AV.one (.z x)).Rel ρz none' W v := by
  obtain ⟨n, rfl, _, _, hw⟩ := open_int ht hval hd
  simp only [Lit.wf, IntKind.min, IntKind.max, IntKind.signed, IntKind.bits, Bool.and_eq_true, decide_eq_true_eq] at hw
  exact ⟨n, by simpa using hw.1, by have := hw.2; simp at this; omega, rfl⟩
theorem top_bool (ht : P.underlying t = some .bool) (hval : Value.okWide P W .any base t v) (hd : DataW.Trod enc P W 0 (fun _ => true) true t v d ps) :
    ∃ x : Bool, (AV.one (.b x)).Rel ρz none' W v := by
  obtain ⟨b, rfl, _⟩ := Go.RowKit.open_bool ht hval hd
  exact ⟨b, rfl⟩
theorem top_arr {N : Nat} {k : IntKind} (ht : P.underlying t = some (.array N e)) (he : P.underlying e = some (.int k)) (hc : P.cellsOf e = 1) (hct : P.cellsOf t = N) (hk : k.signed = false)
    (hval : Value.okWide P W .any base t v) (hd : DataW.Trod enc P W 0 (fun _ => true) true t v d ps) : ∃ xs : List Nat, xs.length = N ∧ Lt (2 ^ k.bits) xs ∧ (AV.row (.ints k xs)).Rel ρz none' W v := by
  simp only [Value.okWide, ht] at hval
  obtain ⟨cs, rfl, hsz, _⟩ := hval
  obtain ⟨fuel, hf⟩ := hd
  obtain ⟨ys, m, _, _, hlen, hl, hel⟩ := DataW.trod_array ht hf
  have hcl : cs.size = N := by rw [hsz, hct]
  have each : ∀ i, i < N → ∃ x : Nat, cs[i]? = some (.int k x) ∧ x < 2 ^ k.bits := by
    intro i hi
    have h1 := hel i hi
    rw [hc, List.getElem?_eq_getElem (by omega)] at h1
    obtain ⟨n, hn, _, hw⟩ := DataW.trod_int he h1
    obtain ⟨x, rfl, hx⟩ := fits_wf hk hw
    refine ⟨x, ?_, hx⟩
    have h2 := congrArg (·[0]?) hn
    simp only [List.getElem?_take, List.getElem?_drop, Nat.lt_one_iff, if_true, Nat.mul_one, Nat.add_zero, List.getElem?_cons_zero, Value.cells, Array.getElem?_toList] at h2
    exact h2
  refine ⟨cs.toList.map fun v => match v with | .int _ n => n.toNat | _ => 0, by simp [hcl], ?_, cs, rfl, by simp [Cs.len], fun j hj => ?_⟩
  · intro i
    by_cases hi : i < N
    · obtain ⟨x, hx, hlt⟩ := each i hi
      simp only [List.getD_eq_getElem?_getD, List.getElem?_map, Array.getElem?_toList, hx, Option.map_some, Option.getD_some, Int.toNat_natCast]
      exact hlt
    · rw [getD_ge (by simp [hcl]; omega)]; exact Nat.two_pow_pos _
  · simp only [Cs.len, List.length_map, Array.length_toList, hcl] at hj
    obtain ⟨x, hx, hlt⟩ := each j hj
    have e1 : (cs.toList.map fun v => match v with | .int _ n => n.toNat | _ => 0).getD j 0 = x := by
      simp only [List.getD_eq_getElem?_getD, List.getElem?_map, Array.getElem?_toList, hx, Option.map_some, Option.getD_some, Int.toNat_natCast]
    refine ⟨_, hx, ?_⟩
    show Value.int k x = .int k ((cs.toList.map fun v => match v with | .int _ n => n.toNat | _ => 0).getD j 0 : Nat) ∧ fits k ((cs.toList.map fun v => match v with | .int _ n => n.toNat | _ => 0).getD j 0)
    rw [e1]
    exact ⟨rfl, .inr hlt⟩
theorem top_slice {k : IntKind} (ht : P.underlying t = some (.slice e)) (he : P.underlying e = some (.int k)) (hc : P.cellsOf e = 1) (hk : k.signed = false)
    (hval : Value.okWide P W .any base t v) (hd : DataW.Trod enc P W 0 (fun _ => true) true t v d ps) : ∃ xs : List Nat, xs.length ≤ maxLen ∧ Lt (2 ^ k.bits) xs ∧ (AV.one (.bs false k xs)).Rel ρz none' W v := by
  obtain ⟨a, len, cap, rfl⟩ := okWide_slice ht hval
  obtain ⟨fuel, hf⟩ := hd
  rcases open_ints ht he hc hf with ⟨hcs, _⟩ | ⟨x, l, c, zs, hcs, _, hl, hm, hz, _, hcell, hwz⟩
  · simp [Value.cells] at hcs
    obtain ⟨rfl, rfl, rfl⟩ := hcs
    exact ⟨[], Nat.zero_le _, fun i => Nat.two_pow_pos _, none, 0, rfl, Nat.le_refl _, (fun h => nomatch h), .inl rfl⟩
  · simp [Value.cells] at hcs
    obtain ⟨rfl, rfl, rfl⟩ := hcs
    have hzl : zs.length = cap := by simpa using hz
    have each : ∀ i, i < len → ∃ x : Nat, zs[i]? = some (x : Int) ∧ x < 2 ^ k.bits := by
      intro i hi
      have hi' : i < zs.length := by omega
      obtain ⟨y, hy, hlt⟩ := fits_wf hk (hwz _ (List.getElem_mem hi'))
      exact ⟨y, by rw [List.getElem?_eq_getElem hi', hy], hlt⟩
    have hlen : ((zs.take len).map Int.toNat).length = len := by simp; omega
    refine ⟨(zs.take len).map Int.toNat, by rw [hlen]; omega, ?_, some x, cap, by rw [hlen], by rw [hlen]; exact hl, (fun h => nomatch h), ?_⟩
    · intro i
      by_cases hi : i < len
      · obtain ⟨y, hy, hlt⟩ := each i hi
        simp only [List.getD_eq_getElem?_getD, List.getElem?_map, List.getElem?_take, hi, if_true, hy, Option.map_some, Option.getD_some, Int.toNat_natCast]
        exact hlt
      · rw [getD_ge (by omega)]; exact Nat.two_pow_pos _
    · by_cases hc0 : cap = 0
      · exact .inl hc0
      have h0 := hcell 0 (by omega)
      have hadd0 : x.add 0 = x := by simp [Addr.add]
      rw [hadd0] at h0
      obtain ⟨b, o, s⟩ := x
      have hs : s = none := by
        unfold World.cell? at h0
        split at h0
        · cases s with
          | none => rfl
          | some q => simp at h0
        · cases h0
      subst hs
      refine .inr ⟨b, o, rfl, fun h => h, World.block_lt_of_cell? _ _ h0, fun i hi => ?_⟩
      rw [hlen] at hi
      obtain ⟨y, hy, hlt⟩ := each i hi
      have h1 := hcell i (by omega)
      rw [addr_add] at h1
      have e1 : ((zs.take len).map Int.toNat).getD i 0 = y := by
        simp only [List.getD_eq_getElem?_getD, List.getElem?_map, List.getElem?_take, hi, if_true, hy, Option.map_some, Option.getD_some, Int.toNat_natCast]
      have e2 : zs.getD i 0 = (y : Int) := by simp [List.getD_eq_getElem?_getD, hy]
      rw [e2] at h1
      exact ⟨_, h1, by rw [e1], by rw [e1]; exact .inr hlt⟩
end

theorem VC.law {P : Program} {f : Nat} {args : List AV} (h : VC P f args (.one (.b true))) {W : World} {vs : List Value} (hr : RelL ρz none' W args vs) :
    Calls P f vs.toArray W fun e w' => e = .returned (.bool true) ∧ Below W.heap.size W w' := by
  refine (h none' W vs (fun _ h => h.elim) hr).mono ?_
  rintro e w' ⟨r, rfl, hr, hb⟩
  simp only [AV.Rel, SV.Rel] at hr
  subst hr
  exact ⟨rfl, hb⟩

end Go.Fx
