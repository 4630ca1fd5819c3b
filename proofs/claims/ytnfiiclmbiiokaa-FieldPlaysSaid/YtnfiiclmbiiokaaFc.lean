/-
  The own layer: abstract values, frames and heaps (part Fc).
-/
import Derived.Test.YtnfiiclmbiiokaaFb
import Derived.Laws.Externs
import Derived.Shelf.Spec.BitsCarry
import Derived.Lib.MakeNoZero
import Derived.Laws.Tables
import Derived.JoinedOf
import Derived.WalkKit
import Derived.ProofKit
import Derived.OpenShut
import Derived.ChangeOld
import Derived.Below
/- FxW: calls that the model answers itself: Add64, Sub64. -/
namespace Go.Fx
open Go.RowKit (Below)
open Go.Proofs (sub64Entry run_sub64)

def ExtOK (P : Program) (f : Nat) (e : Array Value → Sem Value) : Prop := ∃ fn, P.funcs[f]? = some fn ∧ (fn.name == "runtime.NumGoroutine") = false ∧ fn.body.isNone = true ∧ Extern.findNext fn = none ∧ Extern.find fn = some e

section
variable {cx : Cx} {ops : Array Oper} {o : Oper} {F : Nat → Option AV} {H : Nat → Option Bk}
theorem run_call_ext {P : Program} {f : Nat} {e : Array Value → Sem Value} (hf : ExtOK P f e) {a : Act} {w : World} {x : Operand} {xs : List Operand} {ats : Array TypeId} (ho : o.op = .call { callee := .value x, args := xs.toArray, argTypes := ats }) (hx : a.eval x = .func (.func f) #[] #[]) :
    (execOp a.eval o).run P w = ((e (xs.map a.eval).toArray).run P w).andThen fun v w' => .ok (.value v) w' := by
  obtain ⟨fn, h1, h2, h3, h4, h5⟩ := hf
  simp only [execOp, ho, resolve, hx, Deferred.ofValue, List.map_toArray, Sem.run_bind, Sem.run_pure, Result.andThen_ok, invoke]
  rw [show (#[] ++ (xs.map a.eval).toArray ++ #[] : Array Value) = (xs.map a.eval).toArray by simp]
  exact run_callFunc_extern h1 h2 h3 h4 h5 _ _
theorem Y.add64 {f : Nat} {q x y z : Operand} {ats : Array TypeId} {a b c : Nat} (hf : ExtOK cx.P f add64Entry) (hu : Up cx ops F o) (ho : o.op = .call { callee := .value q, args := #[x, y, z], argTypes := ats }) (hq : evF F q = some (.one (.fn f [])))
    (hx : evF F x = some (.one (.n .u64 a))) (hy : evF F y = some (.one (.n .u64 b))) (hz : evF F z = some (.one (.n .u64 c))) (hc : c ≤ 1) :
    Doing cx ops o F H ⟨.two (.one (.n .u64 ((a + b + c) % 18446744073709551616))) (.one (.n .u64 ((a + b + c) / 18446744073709551616))), [], []⟩ :=
  Doing.val hu fun ρ A act w hs => by
    have hqr := ev_rel hs hq
    simp only [AV.Rel, SV.Rel, List.map_nil] at hqr
    obtain ⟨h1, f1⟩ := ev_rel hs hx
    obtain ⟨h2, f2⟩ := ev_rel hs hy
    obtain ⟨h3, f3⟩ := ev_rel hs hz
    have k1 := f1.lt rfl rfl
    have k2 := f2.lt rfl rfl
    refine ⟨.tuple #[.int .u64 (((a + b + c) % 18446744073709551616 : Nat) : Int), .int .u64 (((a + b + c) / 18446744073709551616 : Nat) : Int)], ?_, _, _, rfl, ⟨rfl, .inr (Nat.mod_lt _ (by decide))⟩, rfl, .inr ?_⟩
    · rw [run_call_ext (xs := [x, y, z]) hf ho hqr]
      simp only [List.map_cons, List.map_nil, h1, h2, h3]
      rw [run_add64 a b c (by omega) (by omega) (by omega) (by omega)]
      simp only [Result.andThen_ok]
      congr 5 <;> omega
    · simp only [IntKind.bits] at *
      omega
theorem Y.sub64 {f : Nat} {q x y z : Operand} {ats : Array TypeId} {a b c : Nat} (hf : ExtOK cx.P f sub64Entry) (hu : Up cx ops F o) (ho : o.op = .call { callee := .value q, args := #[x, y, z], argTypes := ats }) (hq : evF F q = some (.one (.fn f [])))
    (hx : evF F x = some (.one (.n .u64 a))) (hy : evF F y = some (.one (.n .u64 b))) (hz : evF F z = some (.one (.n .u64 c))) (hc : c ≤ 1) :
    Doing cx ops o F H ⟨.two (.one (.n .u64 ((a + 18446744073709551616 - b - c) % 18446744073709551616))) (.one (.n .u64 (if a < b + c then 1 else 0))), [], []⟩ :=
  Doing.val hu fun ρ A act w hs => by
    have hqr := ev_rel hs hq
    simp only [AV.Rel, SV.Rel, List.map_nil] at hqr
    obtain ⟨h1, f1⟩ := ev_rel hs hx
    obtain ⟨h2, f2⟩ := ev_rel hs hy
    obtain ⟨h3, f3⟩ := ev_rel hs hz
    refine ⟨.tuple #[.int .u64 (((a + 18446744073709551616 - b - c) % 18446744073709551616 : Nat) : Int), .int .u64 ((if a < b + c then 1 else 0 : Nat) : Int)], ?_, _, _, rfl, ⟨rfl, .inr (Nat.mod_lt _ (by decide))⟩, rfl, .inr ?_⟩
    · rw [run_call_ext (xs := [x, y, z]) hf ho hqr]
      simp only [List.map_cons, List.map_nil, h1, h2, h3]
      rw [run_sub64 a b c hc]
      rfl
    · split <;> decide
end
end Go.Fx

/- FxX: numbers in places: a list of digits, the least first. -/
namespace Go.Fx

/-- The number that the digits are, the least first. -/
def val (B : Nat) : List Nat → Nat
  | [] => 0
  | x :: xs => x + B * val B xs
/-- A number's first n digits. -/
def digs (B n N : Nat) : List Nat := (List.range n).map fun i => N / B ^ i % B

theorem digs_len (B n N : Nat) : (digs B n N).length = n := by simp [digs]
theorem digs_getD {B n N i : Nat} (h : i < n) : (digs B n N).getD i 0 = N / B ^ i % B := getD_map_range h
theorem digs_lt {B : Nat} (hB : 0 < B) (n N : Nat) : Lt B (digs B n N) := Lt.map_range hB fun _ _ => Nat.mod_lt _ hB
theorem val_append (B : Nat) : ∀ (xs ys : List Nat), val B (xs ++ ys) = val B xs + B ^ xs.length * val B ys
  | [], ys => by simp [val]
  | x :: xs, ys => by
    simp only [List.cons_append, val, val_append B xs ys, List.length_cons, Nat.pow_succ, Nat.mul_add]
    rw [Nat.mul_comm (B ^ xs.length) B, Nat.mul_assoc]
    omega
theorem val_lt {B : Nat} : ∀ {xs : List Nat}, (∀ x ∈ xs, x < B) → val B xs < B ^ xs.length
  | [], _ => by simp [val]
  | x :: xs, h => by
    have h1 := h x (by simp)
    have h2 := val_lt (xs := xs) fun y hy => h y (by simp [hy])
    simp only [val, List.length_cons, Nat.pow_succ]
    have h3 : B * (val B xs + 1) ≤ B * B ^ xs.length := Nat.mul_le_mul_left _ h2
    rw [Nat.mul_add, Nat.mul_one, Nat.mul_comm B (B ^ xs.length)] at h3
    omega
theorem Lt.val_lt {B : Nat} {xs : List Nat} (h : Lt B xs) : val B xs < B ^ xs.length := Go.Fx.val_lt h.mem
theorem val_replicate (B n : Nat) : val B (List.replicate n 0) = 0 := by
  induction n with
  | zero => rfl
  | succ n ih => rw [List.replicate_succ, val, ih]; simp
theorem digs_succ (B n N : Nat) : digs B (n + 1) N = N % B :: digs B n (N / B) := by
  unfold digs
  rw [List.range_succ_eq_map, List.map_cons, List.map_map]
  refine congr (congrArg _ (by simp)) (List.map_congr_left fun i _ => ?_)
  simp only [Function.comp, Nat.pow_succ, Nat.succ_eq_add_one]
  rw [Nat.mul_comm (B ^ i) B, Nat.div_div_eq_div_mul]
theorem val_digs {B : Nat} (hB : 0 < B) : ∀ (n N : Nat), val B (digs B n N) = N % B ^ n
  | 0, N => by simp [digs, val, Nat.mod_one]
  | n + 1, N => by
    rw [digs_succ, val, val_digs hB n, Nat.pow_succ, Nat.mul_comm (B ^ n) B, Nat.mod_mul]
theorem digs_val {B : Nat} (hB : 0 < B) : ∀ {xs : List Nat}, (∀ x ∈ xs, x < B) → digs B xs.length (val B xs) = xs
  | [], _ => rfl
  | x :: xs, h => by
    have h1 := h x (by simp)
    rw [List.length_cons, digs_succ, val, Nat.add_mul_mod_self_left, Nat.mod_eq_of_lt h1, Nat.add_mul_div_left _ _ hB, Nat.div_eq_of_lt h1, Nat.zero_add,
      digs_val hB fun y hy => h y (by simp [hy])]
theorem val_inj {B : Nat} (hB : 0 < B) {xs ys : List Nat} (hx : ∀ x ∈ xs, x < B) (hy : ∀ y ∈ ys, y < B) (hl : xs.length = ys.length) (h : val B xs = val B ys) : xs = ys := by
  rw [← digs_val hB hx, ← digs_val hB hy, hl, h]
theorem val_set {B : Nat} : ∀ {xs : List Nat} {i v : Nat}, i < xs.length → val B (xs.set i v) + B ^ i * xs.getD i 0 = val B xs + B ^ i * v
  | [], i, v, h => by simp at h
  | x :: xs, 0, v, _ => by simp [val]; omega
  | x :: xs, i + 1, v, h => by
    have ih := val_set (B := B) (xs := xs) (i := i) (v := v) (by simpa using h)
    simp only [List.set_cons_succ, val, List.getD_cons_succ, Nat.pow_succ]
    have e : ∀ z, B ^ i * B * z = B * (B ^ i * z) := fun z => by rw [Nat.mul_comm (B ^ i) B, Nat.mul_assoc]
    rw [e, e]
    have := congrArg (B * ·) ih
    simp only [Nat.mul_add] at this
    omega
theorem val_split (B n : Nat) (xs : List Nat) (h : n ≤ xs.length) : val B xs = val B (xs.take n) + B ^ n * val B (xs.drop n) := by
  conv => lhs; rw [← List.take_append_drop n xs]
  rw [val_append, List.length_take, Nat.min_eq_left h]
/-- From the greatest digit down, the first that differs decides. -/
theorem val_cmp {B : Nat} {xs ys : List Nat} (hx : ∀ x ∈ xs, x < B) (hy : ∀ y ∈ ys, y < B) (hl : xs.length = ys.length) {i : Nat} (hi : i < xs.length) (he : ∀ j, i < j → j < xs.length → xs.getD j 0 = ys.getD j 0) (hne : xs.getD i 0 ≠ ys.getD i 0) :
    (xs.getD i 0 < ys.getD i 0) ↔ val B xs < val B ys := by
  have hd : xs.drop (i + 1) = ys.drop (i + 1) := by
    refine ext_getD (by simp [hl]) fun j hj => ?_
    rw [getD_drop, getD_drop]
    simp at hj
    exact he _ (by omega) (by omega)
  have key : ∀ (zs : List Nat), i < zs.length → (∀ z ∈ zs, z < B) → val B zs = val B (zs.take i) + B ^ i * (zs.getD i 0 + B * val B (zs.drop (i + 1))) ∧ val B (zs.take i) < B ^ i := by
    intro zs hz hzs
    refine ⟨?_, ?_⟩
    · rw [val_split B i zs (by omega)]
      have : zs.drop i = zs.getD i 0 :: zs.drop (i + 1) := by
        rw [List.drop_eq_getElem_cons hz]; simp [List.getD_eq_getElem?_getD, hz]
      rw [this, val]
    · have := Go.Fx.val_lt (B := B) (xs := zs.take i) fun x hx => hzs x (List.mem_of_mem_take hx)
      rwa [List.length_take, Nat.min_eq_left (by omega)] at this
  obtain ⟨e1, l1⟩ := key xs hi hx
  obtain ⟨e2, l2⟩ := key ys (by omega) hy
  rw [e1, e2, hd]
  generalize val B (xs.take i) = p at *
  generalize val B (ys.take i) = q at *
  generalize B * val B (ys.drop (i + 1)) = t at *
  generalize xs.getD i 0 = a at *
  generalize ys.getD i 0 = b at *
  generalize B ^ i = P at *
  constructor
  · intro h
    have : P * (a + 1 + t) ≤ P * (b + t) := Nat.mul_le_mul_left _ (by omega)
    have e : P * (a + 1 + t) = P * (a + t) + P := by rw [show a + 1 + t = (a + t) + 1 by omega, Nat.mul_add, Nat.mul_one]
    omega
  · intro h
    rcases Nat.lt_or_ge a b with h' | h'
    · exact h'
    · have : P * (b + 1 + t) ≤ P * (a + t) := Nat.mul_le_mul_left _ (by omega)
      have e : P * (b + 1 + t) = P * (b + t) + P := by rw [show b + 1 + t = (b + t) + 1 by omega, Nat.mul_add, Nat.mul_one]
      omega
/-- Two bases. -/
theorem val_pow (B k : Nat) : ∀ (n : Nat) (xs : List Nat), xs.length = n * k → val (B ^ k) ((List.range n).map fun i => val B ((xs.drop (k * i)).take k)) = val B xs
  | 0, xs, h => by
    have : xs = [] := List.length_eq_zero_iff.1 (by simpa using h)
    subst this; rfl
  | n + 1, xs, h => by
    have hk : k ≤ xs.length := by rw [h, Nat.add_mul, Nat.one_mul]; omega
    have ih := val_pow B k n (xs.drop k) (by simp [h, Nat.add_mul])
    rw [List.range_succ_eq_map, List.map_cons, List.map_map, val]
    have e : ((fun i => val B ((xs.drop (k * i)).take k)) ∘ Nat.succ) = fun i => val B (((xs.drop k).drop (k * i)).take k) := by
      funext i
      simp only [Function.comp, List.drop_drop, Nat.succ_eq_add_one, Nat.mul_add, Nat.mul_one, Nat.add_comm]
    rw [e, ih, Nat.mul_zero, List.drop_zero, ← val_split B k xs hk]
end Go.Fx

/- FxY: a slice of the call's own, taken for a pointer to an array. -/
namespace Go.Fx
section
variable {cx : Cx} {ops : Array Oper} {o : Oper} {F : Nat → Option AV} {H : Nat → Option Bk}
theorem Y.s2a {T E n by' id off len N : Nat} {z : Cs} {x : Operand} (hT : TyI cx.P T (.array N E) n by' z) (hu : Up cx ops F o) (ho : o.op = .sliceToArrayPointer T x) (hx : evF F x = some (.one (.sg id off len))) (hl : N = len) (h0 : N ≠ 0) :
    Doing cx ops o F H ⟨.one (.p id off), [], []⟩ :=
  Doing.val hu fun ρ A a w hs => by
    obtain ⟨ad, cap, hv, hcap, h⟩ := ev_rel hs hx
    rcases h with h | ⟨had, _⟩
    · omega
    refine ⟨.pointer (some ⟨(ρ id).blk, (ρ id).off + off, none⟩), ?_, rfl⟩
    simp only [execOp, ho, hv, had, Instr.arrayAt, Sem.run_bind, hT.run_und w, Result.andThen_ok, Sem.run_pure]
    rw [if_neg (by omega)]
    rfl
end
end Go.Fx

/- FxZ: results under a branch; what the relation says of how large a number is; two blocks that a closure holds. -/
namespace Go.Fx
set_option linter.unusedVariables false
set_option linter.unusedSimpArgs false

theorem View.cg {H : Nat → Option Bk} {x y z : AV} (h : z = y) (hv : View H x y) : View H x z := h ▸ hv

theorem fits_lt {k : IntKind} {x M : Nat} (hk : k.signed = false) (hm : 2 ^ k.bits = M) (h : fits k x) : x < M := by
  rcases h with h | h
  · rw [hk] at h; cases h
  · rwa [← hm]
section
variable {cx : Cx} {S : Ls} {G : Act → World → Prop} {k : IntKind} {xs : List Nat} {M : Nat}
theorem lt_cells (hm : 2 ^ k.bits = M) (h : ∀ j, j < xs.length → xs.getD j 0 < M) : Lt M xs := by
  intro i
  by_cases hi : i < xs.length
  · exact h i hi
  · rw [getD_ge (by omega)]
    rw [← hm]; exact Nat.two_pow_pos _
/-- A slot's number is of its kind. -/
theorem Holds.ltN (t : Nat) {x : Nat} (ht : lk t S.fr = some (.one (.n k x))) (hk : k.signed = false) (hm : 2 ^ k.bits = M) (h : x < M → Holds cx S G) : Holds cx S G :=
  fun ρ A a w hs => h (fits_lt hk hm (hs.fr t _ ht).2) ρ A a w hs
/-- A row's numbers are of their kind. -/
theorem Holds.ltRow (t : Nat) (ht : lk t S.fr = some (.row (.ints k xs))) (hk : k.signed = false) (hm : 2 ^ k.bits = M) (h : Lt M xs → Holds cx S G) : Holds cx S G :=
  fun ρ A a w hs => h (lt_cells hm fun j hj => by
    obtain ⟨cs, _, _, hc⟩ := hs.fr t _ ht
    obtain ⟨u, _, hu⟩ := hc j hj
    exact fits_lt hk hm hu.2) ρ A a w hs
/-- The numbers of a block of the call's own are of their kind. -/
theorem Holds.ltOwn (id : Nat) (ht : lk id S.hp = some (.own (.ints k xs))) (hk : k.signed = false) (hm : 2 ^ k.bits = M) (h : Lt M xs → Holds cx S G) : Holds cx S G :=
  fun ρ A a w hs => by
    by_cases hz : (ρ id).size = 0
    · refine h (lt_cells hm fun j hj => ?_) ρ A a w hs
      have := (hs.hp id _ ht).1
      rw [hz] at this
      simp only [Cs.len] at this
      omega
    · refine h (lt_cells hm fun j hj => ?_) ρ A a w hs
      rcases (hs.hp id _ ht).2 with h0 | ⟨_, _, _, _, cs, T, fz, _, _, _, hc⟩
      · exact absurd h0 hz
      · obtain ⟨u, _, hu⟩ := hc j hj
        exact fits_lt hk hm hu.2
theorem immB_lt {A : Nat → Prop} {w : World} {ex : Bool} {v : Value} (hk : k.signed = false) (hm : 2 ^ k.bits = M) (h : ImmB A w ex k xs v) : Lt M xs := by
  refine lt_cells hm fun j hj => ?_
  obtain ⟨a, cap, _, hcap, _, h0 | ⟨b, o, _, _, _, hc⟩⟩ := h
  · omega
  · obtain ⟨u, _, _, hu⟩ := hc j hj
    exact fits_lt hk hm hu
/-- The numbers of a slice that nobody writes are of their kind. -/
theorem Holds.ltBs (t : Nat) {ex : Bool} (ht : lk t S.fr = some (.one (.bs ex k xs))) (hk : k.signed = false) (hm : 2 ^ k.bits = M) (h : Lt M xs → Holds cx S G) : Holds cx S G :=
  fun ρ A a w hs => h (immB_lt hk hm (hs.fr t _ ht)) ρ A a w hs
theorem Holds.ltBss (t : Nat) {ex : Bool} {xss : List (List Nat)} (ht : lk t S.fr = some (.one (.bss ex xss))) (h : (∀ xs ∈ xss, Lt 256 xs) → Holds cx S G) : Holds cx S G :=
  fun ρ A a w hs => h (fun ys hy => by
    obtain ⟨j, hj, rfl⟩ := List.getElem_of_mem hy
    obtain ⟨a, cap, _, hcap, _, h0 | ⟨b, o, _, _, _, hc⟩⟩ := hs.fr t _ ht
    · omega
    · obtain ⟨u, _, hu⟩ := hc j hj
      have := immB_lt (M := 256) rfl rfl hu
      rwa [List.getD_eq_getElem?_getD, List.getElem?_eq_getElem hj, Option.getD_some] at this) ρ A a w hs
end
theorem ownL2 {H : Nat → Option Bk} {i j n n' : Nat} {c c' : Cs} (h : H i = some (.own c)) (hl : c.len = n) (hn : n ≠ 0) (h' : H j = some (.own c')) (hl' : c'.len = n') (hn' : n' ≠ 0) : OwnL H [(i, c), (j, c')] := by
  intro x hx
  simp only [List.mem_cons, List.not_mem_nil, or_false] at hx
  rcases hx with rfl | rfl
  · exact ⟨h, hl ▸ hn⟩
  · exact ⟨h', hl' ▸ hn'⟩
/-- Two ways meet again behind a branch. -/
theorem Holds.seqJoin {cx : Cx} {S : Ls} {x y : Code} {Q : Exit → Act → World → Prop} (J : Ls) (hj : Holds cx J (y.wp cx.P Q)) (h : (∀ (S' : Ls) (τ : List (Nat × Nat)), Sub cx τ S' J → Holds cx S' (y.wp cx.P Q)) → Holds cx S (x.wp cx.P (Exit.then (y.wp cx.P Q) Q))) :
    Holds cx S ((Code.seq x y).wp cx.P Q) := Holds.seq (h fun _ τ hs => Holds.forget τ hs hj)
theorem bEq {x y : Bool} {τ : List (Nat × Nat)} (h : x = y) : some (AV.one (.b x)) = some (AV.ren τ (.one (.b y))) := by rw [h]; rfl
theorem bsEq {ex : Bool} {k : IntKind} {xs ys : List Nat} {τ : List (Nat × Nat)} (h : xs = ys) : some (AV.one (.bs ex k xs)) = some (AV.ren τ (.one (.bs ex k ys))) := by rw [h]; rfl
/-- What holds ahead, and is kept by each step. -/
theorem iter_ind {α : Type} {f : Nat → α → α} {a : α} (p : Nat → α → Prop) (h0 : p 0 a) (n : Nat) (h : ∀ i x, i < n → p i x → p (i + 1) (f i x)) : p n (iter f n a) := by
  have : ∀ m, m ≤ n → p m (iter f m a) := fun m => by
    induction m with
    | zero => exact fun _ => h0
    | succ m ih => exact fun hm => h m _ (by omega) (ih (by omega))
  exact this n (Nat.le_refl n)
/-- Many steps: fewer at a time. -/
theorem iter_add {α : Type} (f : Nat → α → α) (a : α) (m : Nat) : ∀ n, iter f (m + n) a = iter (fun i => f (m + i)) n (iter f m a)
  | 0 => rfl
  | n + 1 => by rw [← Nat.add_assoc, iterS, iterS, iter_add f a m n]
end Go.Fx

/- FxF: numbers in places: carries, words and bytes, products of words. -/
namespace Go.Fx
set_option linter.unusedVariables false
set_option linter.unusedSimpArgs false

theorem pow_succ' (B i : Nat) : B ^ (i + 1) = B * B ^ i := by rw [Nat.pow_succ, Nat.mul_comm]
/-- One place takes what it can, the rest goes on. -/
theorem carry_set {B : Nat} {m : List Nat} {i x : Nat} (h : i < m.length) : val B (m.set i (x % B)) + B ^ (i + 1) * (x / B) + B ^ i * m.getD i 0 = val B m + B ^ i * x := by
  have h1 := val_set (B := B) (v := x % B) h
  have h2 : B ^ (i + 1) * (x / B) + B ^ i * (x % B) = B ^ i * x := by
    rw [Nat.pow_succ, Nat.mul_assoc, ← Nat.mul_add, Nat.div_add_mod]
  omega
theorem val_cons (B x : Nat) (xs : List Nat) : val B (x :: xs) = x + B * val B xs := rfl
theorem val_nil (B : Nat) : val B [] = 0 := rfl
theorem val_take_succ {B : Nat} {xs : List Nat} {n : Nat} (h : n < xs.length) : val B (xs.take (n + 1)) = val B (xs.take n) + B ^ n * xs.getD n 0 := by
  rw [List.take_succ_eq_append_getElem h, val_append, List.length_take, Nat.min_eq_left (by omega)]
  simp [val, List.getD_eq_getElem?_getD, h]
theorem val_drop_zero {B : Nat} : ∀ {xs : List Nat} {n : Nat}, (∀ j, n ≤ j → xs.getD j 0 = 0) → val B xs = val B (xs.take n)
  | [], n, _ => by simp
  | x :: xs, 0, h => by
    have h0 : x = 0 := h 0 (Nat.le_refl 0)
    have : val B xs = val B (xs.take 0) := val_drop_zero (n := 0) fun j _ => h (j + 1) (by omega)
    simp only [List.take_zero, val] at this ⊢
    simp [h0, this]
  | x :: xs, n + 1, h => by
    rw [List.take_succ_cons, val, val, val_drop_zero (n := n) fun j hj => h (j + 1) (by omega)]
theorem rep_getD (n j : Nat) : (List.replicate n 0).getD j 0 = 0 := by
  by_cases h : j < n
  · exact getD_replicate h
  · exact getD_ge (by rw [List.length_replicate]; omega)
/-- Two numbers' digits are the same just if they are (as long as they fit). -/
theorem digs_inj {B n N M : Nat} (hB : 0 < B) (hN : N < B ^ n) (hM : M < B ^ n) : digs B n N = digs B n M ↔ N = M :=
  ⟨fun h => by
    have := congrArg (val B) h
    rwa [val_digs hB, val_digs hB, Nat.mod_eq_of_lt hN, Nat.mod_eq_of_lt hM] at this, fun h => by rw [h]⟩
theorem eq_digs {B : Nat} (hB : 0 < B) {xs : List Nat} (h : Lt B xs) {n : Nat} (hl : xs.length = n) : xs = digs B n (val B xs) := by
  rw [← hl]; exact (digs_val hB h.mem).symm
theorem digs_mod {B n N : Nat} (hB : 0 < B) : digs B n (N % B ^ n) = digs B n N := by
  have h1 := eq_digs hB (digs_lt hB n N) (digs_len B n N)
  rw [val_digs hB] at h1
  exact h1.symm
/-- A digit of a number whose places are groups of digits. -/
theorem val_group {B k : Nat} (hB : 0 < B) (hk : 0 < k) : ∀ (ws : List Nat) (i : Nat), Lt (B ^ k) ws → val (B ^ k) ws / B ^ i % B = ws.getD (i / k) 0 / B ^ (i % k) % B
  | [], i, _ => by simp [val]
  | w :: ws, i, h => by
    have hw : w < B ^ k := h 0
    have ht : Lt (B ^ k) ws := fun j => h (j + 1)
    by_cases hi : i < k
    · rw [Nat.div_eq_of_lt hi, Nat.mod_eq_of_lt hi]
      show (w + B ^ k * val (B ^ k) ws) / B ^ i % B = w / B ^ i % B
      obtain ⟨d, rfl⟩ : ∃ d, k = i + (d + 1) := ⟨k - i - 1, by omega⟩
      rw [show B ^ (i + (d + 1)) * val (B ^ (i + (d + 1))) ws = B ^ i * (B * (B ^ d * val (B ^ (i + (d + 1))) ws)) by rw [Nat.pow_add, Nat.pow_succ]; simp only [Nat.mul_assoc, Nat.mul_comm, Nat.mul_left_comm],
        Nat.add_mul_div_left _ _ (Nat.pow_pos hB), Nat.add_mul_mod_self_left]
    · obtain ⟨j, rfl⟩ : ∃ j, i = j + k := ⟨i - k, by omega⟩
      rw [Nat.add_div_right _ hk, Nat.add_mod_right]
      show (w + B ^ k * val (B ^ k) ws) / B ^ (j + k) % B = _
      rw [Nat.pow_add, Nat.mul_comm (B ^ j), ← Nat.div_div_eq_div_mul, Nat.add_mul_div_left _ _ (Nat.pow_pos hB), Nat.div_eq_of_lt hw, Nat.zero_add, val_group hB hk ws j ht]
      rfl
/-- Bits above and bits below. -/
theorem or_add {a b k : Nat} (h : a < 2 ^ k) : a ||| b * 2 ^ k = a + b * 2 ^ k := by
  rw [Nat.or_comm, Nat.mul_comm b, ← Nat.two_pow_add_eq_or_of_lt h, Nat.add_comm]
theorem or_add' {a b k : Nat} (h : a < 2 ^ k) : b * 2 ^ k ||| a = b * 2 ^ k + a := by
  rw [Nat.mul_comm b, ← Nat.two_pow_add_eq_or_of_lt h]
theorem and_mask (x k : Nat) : x &&& (2 ^ k - 1) = x % 2 ^ k := Nat.and_two_pow_sub_one_eq_mod x k
/-- A list that is filled from the front. -/
theorem iter_fill (g : Nat → Nat) (n : Nat) : iter (fun i m => m.set i (g i)) n (List.replicate n 0) = (List.range n).map g := by
  have key : ∀ i, i ≤ n → iter (fun i m => m.set i (g i)) i (List.replicate n 0) = (List.range i).map g ++ List.replicate (n - i) 0 := by
    intro i
    induction i with
    | zero => intro _; simp [iter]
    | succ i ih =>
      intro hi
      rw [iterS, ih (by omega), set_fill _ _ _ _ (by omega)]
  rw [key n (Nat.le_refl n)]; simp
/-- Numbers bit by bit: byte by byte. -/
theorem and_val : ∀ {xs ys : List Nat}, Lt 256 xs → Lt 256 ys → xs.length = ys.length → val 256 xs &&& val 256 ys = val 256 (List.zipWith (· &&& ·) xs ys)
  | [], [], _, _, _ => rfl
  | x :: xs, y :: ys, hx, hy, hl => by
    have ih := and_val (xs := xs) (ys := ys) (fun j => hx (j + 1)) (fun j => hy (j + 1)) (by simpa using hl)
    have h1 : x < 256 := hx 0
    have h2 : y < 256 := hy 0
    have e1 := Nat.and_mod_two_pow (a := x + 256 * val 256 xs) (b := y + 256 * val 256 ys) (n := 8)
    have e2 := Nat.and_div_two_pow (a := x + 256 * val 256 xs) (b := y + 256 * val 256 ys) (n := 8)
    simp only [show (2 : Nat) ^ 8 = 256 from rfl] at e1 e2
    rw [show (x + 256 * val 256 xs) % 256 = x by omega, show (y + 256 * val 256 ys) % 256 = y by omega] at e1
    rw [show (x + 256 * val 256 xs) / 256 = val 256 xs by omega, show (y + 256 * val 256 ys) / 256 = val 256 ys by omega, ih] at e2
    show (x + 256 * val 256 xs) &&& (y + 256 * val 256 ys) = (x &&& y) + 256 * val 256 (List.zipWith (· &&& ·) xs ys)
    omega
/-- Eight bytes, one by one. -/
theorem eight {b : List Nat} {o : Nat} (h : o + 8 ≤ b.length) : (b.drop o).take 8 = [b.getD o 0, b.getD (o + 1) 0, b.getD (o + 2) 0, b.getD (o + 3) 0, b.getD (o + 4) 0, b.getD (o + 5) 0, b.getD (o + 6) 0, b.getD (o + 7) 0] := by
  refine ext_getD (by simp; omega) fun j hj => ?_
  have hj8 : j < 8 := by simp at hj; omega
  rw [getD_take hj8, getD_drop]
  match j, hj8 with
  | 0, _ | 1, _ | 2, _ | 3, _ | 4, _ | 5, _ | 6, _ | 7, _ => rfl
theorem val_split8 (b : List Nat) (h : 8 ≤ b.length) : val 256 b = val 256 (b.take 8) + 18446744073709551616 * val 256 (b.drop 8) := val_split 256 8 b h
theorem pow256 (i : Nat) : 2 ^ (8 * i) = 256 ^ i := by rw [Nat.pow_mul]
theorem u64pow : (18446744073709551616 : Nat) = 256 ^ 8 := by decide
/-- What a word is made of. -/
theorem word_step {b : List Nat} (hb : Lt 256 b) {i : Nat} (hi : i < 8) : val 256 (b.take i) ||| b.getD i 0 * 2 ^ (8 * i) % 18446744073709551616 = val 256 (b.take i) + 256 ^ i * b.getD i 0 := by
  have h1 : val 256 (b.take i) < 2 ^ (8 * i) := by
    rw [pow256]
    exact Nat.lt_of_lt_of_le (hb.take i).val_lt (Nat.pow_le_pow_right (by decide) (by rw [List.length_take]; omega))
  have h2 := hb i
  have h3 : b.getD i 0 * 2 ^ (8 * i) < 18446744073709551616 := by
    rw [u64pow, pow256]
    calc b.getD i 0 * 256 ^ i < 256 * 256 ^ i := Nat.mul_lt_mul_of_pos_right h2 (Nat.pow_pos (by decide))
      _ = 256 ^ (i + 1) := (pow_succ' 256 i).symm
      _ ≤ 256 ^ 8 := Nat.pow_le_pow_right (by decide) (by omega)
  rw [Nat.mod_eq_of_lt h3, or_add h1, pow256, Nat.mul_comm (b.getD i 0)]
/-- A product of two words: its high word and its low word. -/
theorem mul_hi {x y : Nat} (hx : x < 18446744073709551616) (hy : y < 18446744073709551616) :
    (((x / 2 ^ 32) * (y / 2 ^ 32) % 18446744073709551616 + (((x / 2 ^ 32) * (y &&& 4294967295) % 18446744073709551616 + ((x &&& 4294967295) * (y &&& 4294967295) % 18446744073709551616) / 2 ^ 32) % 18446744073709551616) / 2 ^ 32) % 18446744073709551616 +
      ((((((x / 2 ^ 32) * (y &&& 4294967295) % 18446744073709551616 + ((x &&& 4294967295) * (y &&& 4294967295) % 18446744073709551616) / 2 ^ 32) % 18446744073709551616) &&& 4294967295) + (x &&& 4294967295) * (y / 2 ^ 32) % 18446744073709551616) % 18446744073709551616) / 2 ^ 32) % 18446744073709551616 = x * y / 18446744073709551616 := by
  have e : ∀ z, z &&& 4294967295 = z % 4294967296 := fun z => and_mask z 32
  simp only [e, show (2 : Nat) ^ 32 = 4294967296 from rfl]
  obtain ⟨x1, x0, rfl, h0, h1⟩ : ∃ x1 x0, x = 4294967296 * x1 + x0 ∧ x0 < 4294967296 ∧ x1 < 4294967296 := ⟨x / 4294967296, x % 4294967296, by omega, by omega, by omega⟩
  obtain ⟨y1, y0, rfl, h2, h3⟩ : ∃ y1 y0, y = 4294967296 * y1 + y0 ∧ y0 < 4294967296 ∧ y1 < 4294967296 := ⟨y / 4294967296, y % 4294967296, by omega, by omega, by omega⟩
  rw [show (4294967296 * x1 + x0) / 4294967296 = x1 by omega, show (4294967296 * x1 + x0) % 4294967296 = x0 by omega, show (4294967296 * y1 + y0) / 4294967296 = y1 by omega, show (4294967296 * y1 + y0) % 4294967296 = y0 by omega]
  have b : ∀ {p q : Nat}, p < 4294967296 → q < 4294967296 → p * q ≤ 18446744065119617025 := fun hp hq => Nat.mul_le_mul (Nat.le_of_lt_succ hp) (Nat.le_of_lt_succ hq)
  have ha := b h0 h2
  have hb := b h1 h2
  have hc := b h0 h3
  have hd := b h1 h3
  rw [show (4294967296 * x1 + x0) * (4294967296 * y1 + y0) = 18446744073709551616 * (x1 * y1) + 4294967296 * (x1 * y0) + 4294967296 * (x0 * y1) + x0 * y0 by
    rw [Nat.add_mul, Nat.mul_add, Nat.mul_add]
    rw [show 4294967296 * x1 * (4294967296 * y1) = 18446744073709551616 * (x1 * y1) by rw [Nat.mul_mul_mul_comm], show 4294967296 * x1 * y0 = 4294967296 * (x1 * y0) by rw [Nat.mul_assoc], show x0 * (4294967296 * y1) = 4294967296 * (x0 * y1) by rw [Nat.mul_left_comm]]
    omega]
  generalize x0 * y0 = A at *
  generalize x1 * y0 = Bq at *
  generalize x0 * y1 = C at *
  generalize x1 * y1 = D at *
  omega
/-- A product of words, what came over, and what was there: again a word, and what goes over. -/
theorem mul_acc {x y o w hi lo : Nat} (hx : x < 18446744073709551616) (hy : y < 18446744073709551616) (ho : o < 18446744073709551616) (hw : w < 18446744073709551616) (h1 : hi = x * y / 18446744073709551616) (h2 : lo = x * y % 18446744073709551616) :
    (w + (lo + o + 0) % 18446744073709551616 + 0) % 18446744073709551616 + 18446744073709551616 * (((hi + (lo + o + 0) / 18446744073709551616) % 18446744073709551616 + (w + (lo + o + 0) % 18446744073709551616 + 0) / 18446744073709551616) % 18446744073709551616) = x * y + o + w := by
  have hxy : x * y ≤ 18446744073709551615 * 18446744073709551615 := Nat.mul_le_mul (Nat.le_of_lt_succ hx) (Nat.le_of_lt_succ hy)
  subst h1; subst h2
  generalize x * y = P at *
  omega
end Go.Fx

/- FxH: a part of a list of slices; a buffer of whatever bytes (bytealg.MakeNoZero). -/
namespace Go.Fx
set_option linter.unusedVariables false
set_option linter.unusedSimpArgs false
section
variable {cx : Cx} {ops : Array Oper} {o : Oper} {F : Nat → Option AV} {H : Nat → Option Bk}
theorem getD_take_drop' {α : Type} {xs : List α} {l h i : Nat} {z : α} (hi : i < h - l) : ((xs.drop l).take (h - l)).getD i z = xs.getD (l + i) z := by
  simp [List.getD_eq_getElem?_getD, List.getElem?_take_of_lt hi]
theorem Y.slBss {T E n by' bz l h : Nat} {d : TypeDesc} {z zz : Cs} {x : Operand} {lo hi : Option Operand} {ex : Bool} {xs : List (List Nat)} (hT : TyI cx.P T (.slice E) n by' z) (hE : TyI cx.P E d 1 bz zz) (hu : Up cx ops F o) (ho : o.op = .slice T x lo hi none) (hx : evF F x = some (.one (.bss ex xs)))
    (hlo : Bnd F lo 0 l) (hhi : Bnd F hi xs.length h) (h1 : l ≤ h) (h2 : h ≤ xs.length) : Doing cx ops o F H ⟨.one (.bss false ((xs.drop l).take (h - l))), [], []⟩ :=
  Doing.val hu fun ρ A a w hs => by
    obtain ⟨ad, cap, hv, hcap, _, h0⟩ := ev_rel hs hx
    have hr := run_bounds hs (len := xs.length) (cap := cap) hlo hhi h1 (by omega) true
    refine ⟨.slice (if cap = l then ad else ad.map (·.add (l * 1))) (h - l) (cap - l), ?_, ?_⟩
    · simp only [execOp, ho, hv, Instr.sliceAt, Instr.slice, Option.map_none, Sem.run_bind, Sem.run_pure, Result.andThen_ok, hT.run_und w, hr, hE.run_size w]
    · have := Imm.slice (ex := false) hcap h0 h1 h2 (cap' := cap) (by omega) (Nat.le_refl _) (fun h => nomatch h)
      simp only [AV.Rel, SV.Rel]
      rw [show ((xs.drop l).take (h - l)).length = h - l by simp; omega]
      exact this.mono (fun _ _ _ => rfl) (Nat.le_refl _) (fun _ _ h => h) (fun i u hi hc => by rw [getD_take_drop' hi]; exact hc)
end
section
variable {cx : Cx} {ops : Array Oper} {o : Oper} {F : Nat → Option AV} {H : Nat → Option Bk}
/-- A list of bytes that the text writes out is turned into itself. -/
theorem Y.cvS {T E n by' bz id off len : Nat} {z zz c : Cs} {x : Operand} (hT : TyI cx.P T (.slice E) n by' z) (hE : TyI cx.P E (.int .u8) 1 bz zz) (hu : Up cx ops F o) (ho : o.op = .convert T T x) (hx : evF F x = some (.one (.sg id off len))) (hb : H id = some (.own c)) (hl : len ≠ 0) :
    Doing cx ops o F H ⟨.one (.sg id off len), [(id, .own c)], []⟩ := by
  intro F' H' hF hH _ ρ A a w hst K Q hK
  have hst0 := hst.sub hF hH
  unfold StepOp
  rw [if_pos (hu.wanted hst0)]
  obtain ⟨ad, cap, hv, hcap, h0⟩ := ev_rel hst0 hx
  obtain ⟨rfl, hoff⟩ : ad = some ⟨(ρ id).blk, (ρ id).off + off, none⟩ ∧ off + cap ≤ (ρ id).size := by
    rcases h0 with h0 | h0
    · omega
    · exact h0
  have hown := hst0.hp id _ hb
  obtain ⟨r1, r2, cs, T', fz, r3, r4, r5, r6⟩ := OwnB.real hown (by omega)
  have hlt : (ρ id).blk < w.heap.size := by
    rcases Nat.lt_or_ge (ρ id).blk w.heap.size with h' | h'
    · exact h'
    · simp [Array.getElem?_eq_none h'] at r3
  have hsh : w.shape? (ρ id).blk = some (T', cs.size) := by simp [World.shape?, r3]
  obtain ⟨fz', hfz, hfr⟩ : ∃ fz', Unfrozen fz' cs.size ∧ w.freeze ⟨(ρ id).blk, cs.size, none⟩ 1 = { w with heap := w.heap.setIfInBounds (ρ id).blk (.cells cs T' fz') } := by
    refine ⟨if fz.1 == fz.2 then (cs.size, cs.size + 1) else (Min.min fz.1 cs.size, Max.max fz.2 (cs.size + 1)), ?_, ?_⟩
    · rcases r5 with h | h
      · rw [if_pos (by simpa using h)]; exact .inr (Nat.le_refl _)
      · split
        · exact .inr (Nat.le_refl _)
        · exact .inr (by simp; omega)
    · unfold World.freeze
      rw [if_neg (by decide)]
      have : ∀ (a : Array Obj) (i : Nat) (x : Obj) (f : Obj → Obj), a[i]? = some x → a.modify i f = a.setIfInBounds i (f x) := by
        intro a i x f hx
        have hi : i < a.size := by
          rcases Nat.lt_or_ge i a.size with h | h
          · exact h
          · simp [Array.getElem?_eq_none h] at hx
        apply Array.ext_getElem?
        intro j
        rw [Array.getElem?_modify, Array.getElem?_setIfInBounds]
        by_cases hij : i = j
        · subst hij
          have hx2 : a[i] = x := by rw [Array.getElem?_eq_getElem hi] at hx; exact Option.some.inj hx
          simp [hi, hx2]
        · simp [hij]
      rw [this _ _ _ _ r3]
  have hrun : (execOp a.eval o).run cx.P w = .ok (.value (a.eval x)) { w with heap := w.heap.setIfInBounds (ρ id).blk (.cells cs T' fz') } := by
    simp only [execOp, ho, hv, convert, Sem.run_bind, hT.run_und w, hE.run_und w, Result.andThen_ok, beq_self_eq_true, markStringish, run_shape, hsh, run_freeze, hfr, Sem.run_pure]
  unfold Oper.wp
  rw [hrun]
  refine hK _ _ ρ A ?_
  rw [ovr_cons, ovr_nil]
  refine (hst.writeF (hH _ _ hb) trivial r1 (by omega) (fz' := fz') (fun _ => hfz) r3 rfl rfl (c' := c) r2 (fun j hj => r6 j hj) (.inl rfl)).put hu.d ?_
  exact ⟨_, cap, hv, hcap, .inr ⟨rfl, hoff⟩⟩
end
/-- Own slices in a list of the call's own, each seen as bytes that nobody writes. -/
inductive Vs (H : Nat → Option Bk) : List SV → List (List Nat) → Prop
  | nil : Vs H [] []
  | cons (s : SV) (xs : List Nat) (l : List SV) (xss : List (List Nat)) : View H (.one s) (.one (.bs false .u8 xs)) → Vs H l xss → Vs H (s :: l) (xs :: xss)
theorem Vs.len {H : Nat → Option Bk} {l : List SV} {xss : List (List Nat)} (h : Vs H l xss) : xss.length = l.length := by
  induction h with
  | nil => rfl
  | cons s xs l xss _ _ ih => simp [ih]
theorem Vs.at {H : Nat → Option Bk} {l : List SV} {xss : List (List Nat)} (h : Vs H l xss) : ∀ i, i < l.length → View H (.one (l.getD i .u)) (.one (.bs false .u8 (xss.getD i []))) := by
  induction h with
  | nil => intro i hi; simp at hi
  | cons s xs l xss h _ ih =>
    intro i hi
    cases i with
    | zero => exact h
    | succ i => exact ih i (by simpa using hi)
theorem View.sgsL {H : Nat → Option Bk} {id len : Nat} {l : List SV} {xss : List (List Nat)} (hb : H id = some (.own (.mix l))) (hv : Vs H l xss) (hl : len = l.length) : View H (.one (.sg id 0 len)) (.one (.bss false xss)) := by
  subst hl
  exact .sgs id 0 l.length _ l xss hb (.inl rfl) (by omega) hv.len (fun i hi => by rw [Nat.zero_add]; exact hv.at i hi)
theorem Vs.map {H : Nat → Option Bk} : ∀ (xss : List (List Nat)), Vs H (xss.map fun xs => .bs false .u8 xs) xss
  | [] => .nil
  | xs :: xss => .cons _ _ _ _ (.same _) (Vs.map xss)
theorem View.mixl {H : Nat → Option Bk} {id len : Nat} {xss : List (List Nat)} (hb : H id = some (.own (.mix (xss.map fun xs => .bs false .u8 xs)))) (hl : len = xss.length) : View H (.one (.sg id 0 len)) (.one (.bss false xss)) :=
  .sgsL hb (Vs.map xss) (by rw [List.length_map]; exact hl)
theorem App.mL {xss : List (List Nat)} {z : List Nat} : App (.mix (xss.map fun xs => .bs false .u8 xs)) (.mix [.bs false .u8 z]) (.mix ((xss ++ [z]).map fun xs => .bs false .u8 xs)) := by
  rw [List.map_append]; exact App.m
theorem ids_mixl (xss : List (List Nat)) : (xss.map fun xs => SV.bs false .u8 xs).flatMap SV.ids = [] := by
  induction xss with
  | nil => rfl
  | cons x xss _ => simp [SV.ids]
theorem mlEq {xss yss : List (List Nat)} (h : xss = yss) {τ : List (Nat × Nat)} : some (Bk.own (.mix (xss.map fun xs => .bs false .u8 xs))) = some (Bk.ren τ (.own (.mix (yss.map fun xs => .bs false .u8 xs)))) := by
  rw [h]
  simp only [Bk.ren, Cs.ren, List.map_map]
  rfl
theorem digits_get : ∀ (n t : Nat) (acc : Array Value) (j : Nat), j < acc.size + n → (∀ i, i < acc.size → ∃ x : Nat, x < 256 ∧ acc[i]? = some (.int .u8 x)) → ∃ x : Nat, x < 256 ∧ (Extern.BytealgMakeNoZero.digits n t acc)[j]? = some (.int .u8 x)
  | 0, _, acc, j, hj, h => h j (by omega)
  | n + 1, t, acc, j, hj, h => by
    rw [Extern.BytealgMakeNoZero.digits]
    refine digits_get n (t / 256) _ j (by simp; omega) fun i hi => ?_
    rw [Array.getElem?_push]
    split
    · exact ⟨t % 256, Nat.mod_lt _ (by decide), rfl⟩
    · rw [Array.size_push] at hi
      exact h i (by omega)
theorem run_mnz {P : Program} (w : World) (ps : Array TypeId) (t e : TypeId) (ht : P.underlying t = some (.slice e)) (n : Nat) (hn : n ≤ 281474976710656) :
    ∃ cs : Array Value, (Extern.BytealgMakeNoZero.makeNoZero ps #[t] #[.int .i64 n]).run P w = .ok (.slice (some ⟨w.heap.size, 0, none⟩) n cs.size) (w.drew.drew.alloc (.cells cs e)) ∧ n ≤ cs.size ∧ ∀ j, j < cs.size → ∃ x : Nat, x < 256 ∧ cs[j]? = some (.int .u8 x) := by
  have hdef : Extern.BytealgMakeNoZero.makeNoZero ps #[t] #[.int .i64 n] =
      (do
        let .slice elem ← underlying t | stuck "bytealg.MakeNoZero: slice type expected"
        if (n : Int) < 0 || (n : Int) > 2 ^ 48 then runtimePanic (.error "makeslice: len out of range")
        let cap ← choose (.appendCap (n : Int).toNat 0 elem)
        askRoom cap
        let bytes ← choose (.extern "internal/bytealg.MakeNoZero.bytes" 0)
        let a ← newRow elem (Extern.BytealgMakeNoZero.digits cap bytes #[])
        pure (.slice (some a) (n : Int).toNat cap)) := rfl
  refine ⟨Extern.BytealgMakeNoZero.digits (grownCap w n 0 e) ((Question.extern "internal/bytealg.MakeNoZero.bytes" 0).cut (w.tape (w.drawn + 1) (.extern "internal/bytealg.MakeNoZero.bytes" 0))) #[], ?_, ?_, ?_⟩
  · rw [hdef]
    have h1 : ¬ (n : Int) < 0 := by omega
    have h2 : ¬ (281474976710656 : Int) < (n : Int) := by omega
    simp [run_underlying ht, h1, h2, Question.forced, newRow, Lib.size_digits, grownCap]
  · rw [Lib.size_digits]
    simpa using grownCap_ge w n 0 e
  · intro j hj
    rw [Lib.size_digits] at hj
    exact digits_get _ _ _ j hj fun i hi => by simp at hi
def byteOf : Option Value → Nat
  | some (.int _ x) => x.toNat
  | _ => 0
theorem OpsFrom.mnz {cx : Cx} {fr : List (Nat × AV)} {hp : List (Nat × Bk)} {ops rest : List Oper} {i d f n T E : Nat} {o : Oper} {q x : Operand} {ps ats : Array TypeId} {Q : Exit → Act → World → Prop}
    (hf : ExtOK cx.P f (Extern.BytealgMakeNoZero.makeNoZero ps #[T])) (hT : cx.P.underlying T = some (.slice E)) (hu : Up cx ops.toArray (Ls.F ⟨fr, hp⟩) o) (ho : o.op = .call { callee := .value q, args := #[x], argTypes := ats }) (hq : evF (Ls.F ⟨fr, hp⟩) q = some (.one (.fn f [])))
    (hx : evF (Ls.F ⟨fr, hp⟩) x = some (.one (.n .i64 n))) (hn : n ≤ 281474976710656) (hdst : o.dst = some d) (hfr : Ls.nomB ⟨fr, hp⟩ cx.E d = true)
    (k : ∀ ys : List Nat, ys.length = n → OpsFrom cx ⟨(d, .one (.sg d 0 n)) :: fr, (d, .own (.ints .u8 ys)) :: hp⟩ ops (i + 1) rest Q) : OpsFrom cx ⟨fr, hp⟩ ops i (o :: rest) Q := by
  intro hr
  have ho' : ops[i]? = some o := by
    have := congrArg (·[0]?) hr
    simpa using this
  have hr' : ops.drop (i + 1) = rest := by
    have := congrArg (List.drop 1) hr
    rw [List.drop_drop] at this
    simpa using this
  intro ρ A a w hs
  show wpOps cx.P ops.toArray Q (i :: List.range' (i + 1) rest.length) a w
  rw [wpOps_cons]
  refine StepOp.wpOp (by simpa using ho') ?_
  unfold StepOp
  rw [if_pos (hu.wanted hs)]
  have hqr := ev_rel hs hq
  simp only [AV.Rel, SV.Rel, List.map_nil] at hqr
  obtain ⟨h1, _⟩ := ev_rel hs hx
  obtain ⟨cs, hrun, hcn, hcell⟩ := run_mnz w ps T E hT n hn
  have hn' := Ls.nomB_spec hfr
  let ys : List Nat := (List.range n).map fun j => byteOf cs[j]?
  have hys : ys.length = n := by simp [ys]
  have hget : ∀ j, j < n → cs[j]? = some (.int .u8 (ys.getD j 0 : Nat)) ∧ ys.getD j 0 < 256 := by
    intro j hj
    obtain ⟨x, hx, hc⟩ := hcell j (by omega)
    have : ys.getD j 0 = x := by
      simp only [ys, List.getD_eq_getElem?_getD]
      rw [List.getElem?_map, List.getElem?_range hj]
      simp [hc, byteOf]
    rw [this]; exact ⟨hc, hx⟩
  have h2 : (execOp a.eval o).run cx.P w = .ok (.value (.slice (some ⟨w.heap.size, 0, none⟩) n cs.size)) (w.drew.drew.alloc (.cells cs E)) := by
    rw [run_call_ext (xs := [x]) hf ho hqr]
    simp only [List.map_cons, List.map_nil, h1]
    rw [hrun]
    rfl
  unfold Oper.wp
  rw [h2]
  refine k ys hys hr' (upd' ρ d ⟨w.heap.size, 0, cs.size, true⟩) (fun b => A b ∨ b = w.heap.size) _ _ ?_
  have hF : (Ls.F ⟨(d, .one (.sg d 0 n)) :: fr, (d, .own (.ints .u8 ys)) :: hp⟩) = updO (Ls.F ⟨fr, hp⟩) o.dst (.one (.sg d 0 n)) := by
    rw [hdst]; funext t; simp only [Ls.F, updO, upd, lk]
  have hH : (Ls.H ⟨(d, .one (.sg d 0 n)) :: fr, (d, .own (.ints .u8 ys)) :: hp⟩) = upd (Ls.H ⟨fr, hp⟩) d (.own (.ints .u8 ys)) := by
    funext t; simp only [Ls.H, upd, lk]
  rw [hF, hH]
  exact (hs.alloc hn' (w' := w.drew.drew.alloc (.cells cs E)) (fz := (0, 0)) ⟨rfl, rfl, rfl, rfl⟩ (unfrozen0 _) (c := .ints .u8 ys) (by simp only [Cs.len, hys]; exact hcn) (fun j hj => by
    simp only [Cs.len, hys] at hj
    obtain ⟨g1, g2⟩ := hget j hj
    exact ⟨_, g1, rfl, .inr g2⟩) List.not_mem_nil (.inl rfl)).put hu.d ((NewV.sli (d := d) w.heap.size cs.size n cs.size hcn (Nat.le_refl _)).rel (by simp [upd']))
end Go.Fx

/- FxI: what a call has made, and writes no more, is seen as what nobody writes. -/
namespace Go.Fx
set_option linter.unusedVariables false
set_option linter.unusedSimpArgs false
theorem Holds.freezeV {cx : Cx} {S : Ls} {G : Act → World → Prop} (t id : Nat) {x : AV} {y : SV} {c : Cs} (ht : lk t S.fr = some x) (hb : lk id S.hp = some (.own c)) (hv : View (fun i => if i = id then some (.own c) else none) x (.one y))
    (h : Holds cx ⟨(t, .one y) :: S.fr, (id, .dead) :: S.hp⟩ G) : Holds cx S G := by
  intro ρ A a w hs
  have hsub : ∀ i b, (if i = id then some (Bk.own c) else none) = some b → S.H i = some b := by
    intro i b hi
    split at hi
    · rename_i he; subst he; cases hi; exact hb
    · cases hi
  have hs' := hs.sub (F' := S.F) (H' := fun i => if i = id then some (.own c) else none) (fun _ _ h => h) hsub
  by_cases hz : (ρ id).own = true ∧ (ρ id).size ≠ 0
  · refine h ρ (fun i => A i ∧ i ≠ (ρ id).blk) a w ⟨hs.df, hs.sz, ?_, ?_, ?_, fun i hi => hs.A1 i hi.1, ?_, hs.fm, hs.E⟩
    · intro s v hv'
      simp only [Ls.F, lk] at hv'
      split at hv'
      · rename_i he
        subst he
        cases hv'
        refine View.rel hs' (A' := fun i => A i ∧ i ≠ (ρ id).blk) (fun _ h => h.1) (fun i b hi _ _ _ hA => ?_) hv (hs.fr s _ ht)
        split at hi
        · rename_i he; subst he; exact hA.2 rfl
        · cases hi
      · exact (hs.fr s v hv').mono (fun _ _ => rfl) (fun _ _ _ => rfl) (Nat.le_refl _) (fun _ _ h => h.1)
    · intro i b' hb'
      simp only [Ls.H, lk] at hb'
      split at hb'
      · cases hb'; trivial
      · rename_i hne
        refine (hs.hp i b' hb').mono (fun _ _ => rfl) (fun _ _ _ => rfl) (Nat.le_refl _) (fun _ _ h => h.1) (fun _ _ _ => rfl) (fun hl' ho' hz' => ⟨hs.liveA hb' hl' ho' hz', ?_⟩)
        exact hs.sep i id b' _ hb' hb hl' trivial hne ho' hz.1 hz' hz.2
    · intro i j bi bj hbi hbj li lj hne oi oj zi zj
      have f : ∀ i b, lk i ((id, Bk.dead) :: S.hp) = some b → b.live → S.H i = some b := by
        intro i b hb hl
        simp only [lk] at hb
        split at hb
        · cases hb; exact hl.elim
        · exact hb
      exact hs.sep i j bi bj (f i bi hbi li) (f j bj hbj lj) li lj hne oi oj zi zj
    · intro i hi
      refine ⟨hs.O i hi, ?_⟩
      rintro rfl
      rcases (hs.hp id _ hb).2 with h2 | h2
      · exact hz.2 h2
      · exact h2.2.2.1 hi
  · refine h ρ A a w ⟨hs.df, hs.sz, ?_, ?_, ?_, hs.A1, hs.O, hs.fm, hs.E⟩
    · intro s v hv'
      simp only [Ls.F, lk] at hv'
      split at hv'
      · rename_i he
        subst he
        cases hv'
        refine View.rel hs' (A' := A) (fun _ h => h) (fun i b hi _ ho hz' => ?_) hv (hs.fr s _ ht)
        split at hi
        · rename_i he; subst he; exact absurd ⟨ho, hz'⟩ hz
        · cases hi
      · exact hs.fr s v hv'
    · intro i b' hb'
      simp only [Ls.H, lk] at hb'
      split at hb'
      · cases hb'; trivial
      · exact hs.hp i b' hb'
    · intro i j bi bj hbi hbj li lj hne oi oj zi zj
      have f : ∀ i b, lk i ((id, Bk.dead) :: S.hp) = some b → b.live → S.H i = some b := by
        intro i b hb hl
        simp only [lk] at hb
        split at hb
        · cases hb; exact hl.elim
        · exact hb
      exact hs.sep i j bi bj (f i bi hbi li) (f j bj hbj lj) li lj hne oi oj zi zj
theorem OpsFrom.freezeV {cx : Cx} {fr : List (Nat × AV)} {hp : List (Nat × Bk)} {ops rest : List Oper} {i : Nat} {Q : Exit → Act → World → Prop} (t id : Nat) {x : AV} {y : SV} {c : Cs} (ht : lk t fr = some x) (hb : lk id hp = some (.own c)) (hv : View (fun i => if i = id then some (.own c) else none) x (.one y))
    (h : OpsFrom cx ⟨(t, .one y) :: fr, (id, .dead) :: hp⟩ ops i rest Q) : OpsFrom cx ⟨fr, hp⟩ ops i rest Q :=
  fun hr => Holds.freezeV (S := ⟨fr, hp⟩) t id ht hb hv (h hr)
theorem App.mL2 {xss : List (List Nat)} {z z' : List Nat} : App (.mix (xss.map fun xs => .bs false .u8 xs)) (.mix [.bs false .u8 z, .bs false .u8 z']) (.mix ((xss ++ [z, z']).map fun xs => .bs false .u8 xs)) := by
  rw [List.map_append]; exact App.m
/-- A block of the call's own is given up. -/
theorem StRel.giveUp {cx : Cx} {F : Nat → Option AV} {H : Nat → Option Bk} {a : Act} {w : World} {ρ : Nat → Loc} {A : Nat → Prop} (hs : StRel cx F H a w ρ A) {id : Nat} {c : Cs} (hb : H id = some (.own c)) :
    StRel cx F (upd H id .dead) a w ρ (fun i => A i ∧ ¬ ((ρ id).own = true ∧ (ρ id).size ≠ 0 ∧ i = (ρ id).blk)) := by
  refine ⟨hs.df, hs.sz, fun t v hv => (hs.fr t v hv).mono (fun _ _ => rfl) (fun _ _ _ => rfl) (Nat.le_refl _) (fun _ _ h => h.1), ?_, ?_, fun i hi => hs.A1 i hi.1, ?_, hs.fm, hs.E⟩
  · intro i b' hb'
    simp only [upd] at hb'
    split at hb'
    · cases hb'; trivial
    · rename_i hne
      refine (hs.hp i b' hb').mono (fun _ _ => rfl) (fun _ _ _ => rfl) (Nat.le_refl _) (fun _ _ h => h.1) (fun _ _ _ => rfl) (fun hl' ho' hz' => ⟨hs.liveA hb' hl' ho' hz', ?_⟩)
      rintro ⟨h1, h2, h3⟩
      exact hs.sep i id b' _ hb' hb hl' trivial hne ho' h1 hz' h2 h3
  · intro i j bi bj hbi hbj li lj hne oi oj zi zj
    have f : ∀ i b, upd H id .dead i = some b → b.live → H i = some b := by
      intro i b hb hl
      simp only [upd] at hb
      split at hb
      · cases hb; exact hl.elim
      · exact hb
    exact hs.sep i j bi bj (f i bi hbi li) (f j bj hbj lj) li lj hne oi oj zi zj
  · intro i hi
    refine ⟨hs.O i hi, ?_⟩
    rintro ⟨h1, h2, rfl⟩
    rcases (hs.hp id _ hb).2 with h3 | h3
    · exact h2 h3
    · exact h3.2.2.1 hi
section
variable {cx : Cx} {ops : Array Oper} {o : Oper} {F : Nat → Option AV} {H : Nat → Option Bk}
/-- ... whose answer may bear slices: a block that goes in is given up. -/
theorem Y.callK {f id : Nat} {c : Cs} {x : Operand} {xs : List Operand} {ats : Array TypeId} {us : List AV} {res : AV} (hc : VC cx.P f us res) (hf : FnOK cx.P f) (hu : Up cx ops F o) (ho : o.op = .call { callee := .value x, args := xs.toArray, argTypes := ats }) (hx : evF F x = some (.one (.fn f [])))
    {vs : List AV} (he : EvL F xs vs) (hb : H id = some (.own c)) (hv : ViewL (fun i => if i = id then some (.own c) else none) vs us) (hid : us.all (fun u => u.ids.isEmpty) = true) (hp : res.ids = []) : Doing cx ops o F H ⟨res, [(id, .dead)], []⟩ := by
  intro F' H' hF hH _ ρ A a w hst K Q hK
  have hst0 := hst.sub hF hH
  unfold StepOp
  rw [if_pos (hu.wanted hst0)]
  have hxr := ev_rel hst0 hx
  simp only [AV.Rel, SV.Rel, List.map_nil] at hxr
  have hst1 : StRel cx F (fun i => if i = id then some (.own c) else none) a w ρ A := hst0.sub (fun _ _ h => h) (fun i b h => by
    split at h
    · rename_i he; subst he; cases h; exact hb
    · cases h)
  have hst2 := hst.giveUp (hH _ _ hb)
  have hrl := relL_view hst1 (A' := fun i => A i ∧ ¬ ((ρ id).own = true ∧ (ρ id).size ≠ 0 ∧ i = (ρ id).blk)) (fun _ h => h.1) (fun i b h _ ho hz hA => by
    split at h
    · rename_i he; subst he; exact hA.2 ⟨ho, hz, rfl⟩
    · cases h) he hv (fun u hu => by simpa using List.all_eq_true.1 hid u hu)
  unfold Oper.wp
  rw [run_call hf ho hxr]
  simp only [Oper.upon, Array.append_empty]
  refine (hc _ w _ hst2.A1 hrl).mono ?_
  rintro e w' ⟨r, rfl, hr, hb'⟩
  refine hK r w' ρ (fun i => A i ∧ ¬ ((ρ id).own = true ∧ (ρ id).size ≠ 0 ∧ i = (ρ id).blk)) ?_
  rw [ovr_cons, ovr_nil]
  exact (hst2.below hb').put hu.d (hr.mono (fun i hi => by rw [hp] at hi; cases hi) (fun _ _ _ => rfl) (Nat.le_refl _) (fun _ _ h => h))
end
end Go.Fx

/- FxJ: what stands behind a guard that itself was left out, is left out. -/
namespace Go.Fx
set_option linter.unusedVariables false
set_option linter.unusedSimpArgs false
section
variable {cx : Cx} {ops : Array Oper} {o : Oper} {F : Nat → Option AV} {H : Nat → Option Bk}
theorem Doing.skipU (j : Nat) (want : Bool) (oj : Oper) (t : Nat) (hg : o.guard = some (j, want)) (h1 : ops[j]? = some oj) (h2 : oj.dst = some t) (h3 : F t = some (.one .u)) (hd : ∀ t, o.dst = some t → t < cx.nt) :
    Doing cx ops o F H ⟨.one .u, [], []⟩ := by
  intro F' H' hF hH _ ρ A a w hs K Q hK
  have hs' := hs.sub hF hH
  have hu : a.tmps.getD t undef = undef := hs'.fr t _ h3
  have hy : yielded ops a.tmps j = none := by
    have hg2 : a.tmps[t]? = none ∨ a.tmps[t]? = some undef := by
      rw [Array.getD_eq_getD_getElem?] at hu
      cases ht : a.tmps[t]? with
      | none => exact .inl rfl
      | some v => rw [ht] at hu; simp only [Option.getD_some] at hu; exact .inr (by rw [hu])
    rcases hg2 with h | h
    · simp [yielded, h1, h2, h]
    · simp [yielded, h1, h2, h, undef]
  unfold StepOp
  rw [if_neg (by simp [Region.wanted, hg, hy])]
  exact hK undef w ρ A (hs.put hd rfl)
end
theorem dT {p : Prop} [Decidable p] (h : p) : true = decide p := (decide_eq_true h).symm
theorem dF {p : Prop} [Decidable p] (h : ¬ p) : false = decide p := (decide_eq_false h).symm
theorem dOr {a b : Prop} [Decidable b] [Decidable (a ∨ b)] (h : ¬ a) : decide b = decide (a ∨ b) := decide_eq_decide.2 ⟨.inr, fun q => q.elim (fun k => absurd k h) id⟩
theorem dOrB {a : Prop} {b : Bool} [Decidable (a ∨ b = true)] (h : ¬ a) : b = decide (a ∨ b = true) := by cases b <;> simp [h]
theorem dAnd {a b : Prop} [Decidable b] [Decidable (a ∧ b)] (h : a) : decide b = decide (a ∧ b) := decide_eq_decide.2 ⟨fun q => ⟨h, q⟩, fun q => q.2⟩
theorem dAndB {a : Prop} {b : Bool} [Decidable (a ∧ b = true)] (h : a) : b = decide (a ∧ b = true) := by cases b <;> simp [h]
theorem dNOr {a b : Prop} [Decidable b] [Decidable (¬ a ∨ b)] (h : a) : decide b = decide (¬ a ∨ b) := dOr (fun k => k h)
theorem dNOrB {a : Prop} {b : Bool} [Decidable (¬ a ∨ b = true)] (h : a) : b = decide (¬ a ∨ b = true) := dOrB (fun k => k h)
theorem dNAnd {a b : Prop} [Decidable b] [Decidable (¬ a ∧ b)] (h : ¬ a) : decide b = decide (¬ a ∧ b) := dAnd h
theorem dNAndB {a : Prop} {b : Bool} [Decidable (¬ a ∧ b = true)] (h : ¬ a) : b = decide (¬ a ∧ b = true) := dAndB h
theorem dBL {a b c : Prop} [Decidable b] [Decidable ((a ∧ b) ∨ (¬ a ∧ c))] (h : a) : decide b = decide ((a ∧ b) ∨ (¬ a ∧ c)) := decide_eq_decide.2 ⟨fun q => .inl ⟨h, q⟩, fun q => q.elim (fun k => k.2) (fun k => absurd h k.1)⟩
theorem dBLB {a c : Prop} {b : Bool} [Decidable ((a ∧ b = true) ∨ (¬ a ∧ c))] (h : a) : b = decide ((a ∧ b = true) ∨ (¬ a ∧ c)) := by cases b <;> simp [h]
theorem dBR {a b c : Prop} [Decidable c] [Decidable ((a ∧ b) ∨ (¬ a ∧ c))] (h : ¬ a) : decide c = decide ((a ∧ b) ∨ (¬ a ∧ c)) := decide_eq_decide.2 ⟨fun q => .inr ⟨h, q⟩, fun q => q.elim (fun k => absurd k.1 h) (fun k => k.2)⟩
theorem dBRB {a b : Prop} {c : Bool} [Decidable ((a ∧ b) ∨ (¬ a ∧ c = true))] (h : ¬ a) : c = decide ((a ∧ b) ∨ (¬ a ∧ c = true)) := by cases c <;> simp [h]
end Go.Fx

/- FxL: structs that are built. -/
namespace Go.Fx
set_option linter.unusedVariables false
set_option linter.unusedSimpArgs false
theorem places_of {P : Program} {fs : Array Field} {pl : List (Nat × Nat)} (h : fs.toList.mapM (fun f => (P.info? f.type).map fun i => (f.offset, i.size)) = some pl) :
    ∀ w, (fs.mapM fun f => do pure (f.offset, ← sizeOf f.type) : Sem (Array (Nat × Nat))).run P w = .ok pl.toArray w := by
  intro w
  have h2 := run_places w _ _ h
  simp [Array.mapM_eq_mapM_toList, h2]
section
variable {cx : Cx} {ops : Array Oper} {o : Oper} {F : Nat → Option AV} {H : Nat → Option Bk}
theorem Y.buildT {T n by' : Nat} {fs : Array Field} {z c : Cs} {parts : List (Nat × Operand)} (pl : List (Nat × Nat)) (hT : TyI cx.P T (.struct fs) n by' z) (hz : z.plain = true)
    (hpl : fs.toList.mapM (fun f => (cx.P.info? f.type).map fun i => (f.offset, i.size)) = some pl) (hu : Up cx ops F o) (ho : o.op = .build T parts.toArray)
    (hf : Fill F (fun i => pl.toArray[i]?) parts z c) : Doing cx ops o F H ⟨.row c, [], []⟩ := Y.buildS hT hz (places_of hpl) hu ho hf
theorem Cs.sub_alln {c : Cs} {n : Nat} (h : c.len = n) : c.sub 0 n = c := by
  cases c with
  | ints k xs => simp only [Cs.len] at h; simp only [Cs.sub, List.drop_zero]; rw [List.take_of_length_le (by omega)]
  | mix l => simp only [Cs.len] at h; simp only [Cs.sub, List.drop_zero]; rw [List.take_of_length_le (by omega)]
theorem Y.fieldAll {T n by' m bz f : Nat} {fs : Array Field} {fld : Field} {d : TypeDesc} {z zz c : Cs} {x : Operand} (hT : TyI cx.P T (.struct fs) n by' z) (hf : fs[f]? = some fld) (h0 : fld.offset = 0) (hE : TyI cx.P fld.type d m bz zz) (hd : TypeDesc.isAgg d = true) (hu : Up cx ops F o)
    (ho : o.op = .field T x f) (hx : evF F x = some (.row c)) (hl : c.len = m) : Doing cx ops o F H ⟨.row c, [], []⟩ := by
  have h := Y.fieldRow (H := H) hT hf hE hd hu ho hx (by rw [h0, hl]; omega)
  rw [h0, Cs.sub_alln hl] at h
  exact h
end
section
variable {cx : Cx} {ops : Array Oper} {o : Oper} {F : Nat → Option AV} {H : Nat → Option Bk} {T E T' : TypeId} {x y : Operand} {n by' bz : Nat} {z zz : Cs} {xs ys : List Nat}
theorem Y.neqB {a b : Bool} (hT : TyI cx.P T .bool n by' z) (hu : Up cx ops F o) (ho : o.op = .binOp .neq T x y T') (hx : evF F x = some (.one (.b a))) (hy : evF F y = some (.one (.b b))) : Doing cx ops o F H ⟨.one (.b (!(a == b))), [], []⟩ :=
  Doing.val hu fun ρ A act w hst => by
    have h1 := ev_rel hst hx
    have h2 := ev_rel hst hy
    simp only [AV.Rel, SV.Rel] at h1 h2
    refine ⟨.bool (!(a == b)), ?_, rfl⟩
    have e : (binOp .neq T (.bool a) (.bool b)).run cx.P w = .ok (.bool (!(a == b))) w := by
      show ((Op.equal T (.bool a) (.bool b)).bind _).run cx.P w = _
      have := run_equal_bool (P := cx.P) w T a b hT.u
      exact (Sem.run_bind' _ _ _ _).trans (by rw [this]; rfl)
    have g : (eqGuard .neq T x y (.bool a) (.bool b)).run cx.P w = .ok () w := rfl
    simp only [execOp, ho, h1, h2, Sem.run_bind, g, e, Result.andThen_ok, Sem.run_pure]
theorem Y.neqR {k : IntKind} {N : Nat} (hT : TyI cx.P T (.array N E) n by' z) (hE : TyI cx.P E (.int k) 1 bz zz) (hg : cx.P.eqGuardType cx.P.depth T = false) (hu : Up cx ops F o) (ho : o.op = .binOp .neq T x y T') (hx : evF F x = some (.row (.ints k xs))) (hy : evF F y = some (.row (.ints k ys)))
    (h1 : xs.length = N) (h2 : ys.length = N) : Doing cx ops o F H ⟨.one (.b (decide (xs ≠ ys))), [], []⟩ :=
  Doing.val hu fun ρ A act w hst => by
    obtain ⟨cs, hv, hcs, hcc⟩ := ev_rel hst hx
    obtain ⟨ds, hw, hds, hdd⟩ := ev_rel hst hy
    have e1 := row_toList hcs hcc
    have e2 := row_toList hds hdd
    obtain ⟨i, _, hi, hsz, _⟩ := hE.info
    refine ⟨.bool (decide (xs ≠ ys)), ?_, rfl⟩
    have g : (eqGuard .neq T x y (.agg cs) (.agg ds)).run cx.P w = .ok () w := by
      unfold eqGuard
      simp [hg]
    have e : (Op.equal T (.agg cs) (.agg ds)).run cx.P w = .ok (decide (xs = ys)) w := by
      unfold Op.equal Op.maxDepth
      rw [run_equalIn_array w 9999 cs ds hT.u hi]
      have hcell : cx.P.cellsOf E = 1 := by simp [Program.cellsOf, hi, hsz]
      rw [hcell, List.range_eq_range', ← h1]
      have := run_eqItems_ints (P := cx.P) (w := w) (d := 9998) hE e1 e2 (by omega) xs.length 0 (by omega)
      simpa using this
    have e' : (binOp .neq T (.agg cs) (.agg ds)).run cx.P w = .ok (.bool (decide (xs ≠ ys))) w := by
      show ((Op.equal T (.agg cs) (.agg ds)).bind _).run cx.P w = _
      refine (Sem.run_bind' _ _ _ _).trans ?_
      rw [e, show decide (xs ≠ ys) = !decide (xs = ys) from decide_not]
      rfl
    simp only [execOp, ho, hv, hw, Sem.run_bind, g, e', Result.andThen_ok, Sem.run_pure]
end
/-- The caller's blocks may bear any numbers that differ. -/
theorem UC.rens {P : Program} {f : Nat} {args : List AV} {res : AV} {E E' : List (Nat × Cs)} (τ : List (Nat × Nat)) (h : UC P f args E res E') (hc : ∀ x ∈ E, x.2.ids = []) (hc' : ∀ x ∈ E', x.2.ids = []) (hres : res.pure = true)
    (hne : ∀ x ∈ E, ∀ y ∈ E, x.1 ≠ y.1 → rn τ x.1 ≠ rn τ y.1) : UC P f (args.map (AV.ren τ)) (E.map fun x => (rn τ x.1, x.2)) res (E'.map fun x => (rn τ x.1, x.2)) := by
  intro ρ O w vs hO hE hsep hr
  have noid : ∀ {c : Cs} {j : Nat}, c.ids = [] → j < c.len → ∀ i ∈ (c.at j).ids, ρ i = ρ (rn τ i) := by
    intro c j h hj i hi
    have := Cs.ids_at hj hi
    rw [h] at this; cases this
  have hA : ∀ b, (O b ∨ ∃ x ∈ E, (ρ (rn τ x.1)).blk = b) ↔ (O b ∨ ∃ x ∈ E.map (fun x => (rn τ x.1, x.2)), (ρ x.1).blk = b) := by
    intro b
    simp only [List.mem_map]
    constructor
    · rintro (k | ⟨x, hx, k⟩)
      · exact .inl k
      · exact .inr ⟨_, ⟨x, hx, rfl⟩, k⟩
    · rintro (k | ⟨_, ⟨x, hx, rfl⟩, k⟩)
      · exact .inl k
      · exact .inr ⟨x, hx, k⟩
  have hl : RelL (fun i => ρ (rn τ i)) (fun b => O b ∨ ∃ x ∈ E, (ρ (rn τ x.1)).blk = b) w args vs := by
    have key : ∀ (al : List AV) (vs : List Value), RelL ρ (fun b => O b ∨ ∃ x ∈ E.map (fun x => (rn τ x.1, x.2)), (ρ x.1).blk = b) w (al.map (AV.ren τ)) vs → RelL (fun i => ρ (rn τ i)) (fun b => O b ∨ ∃ x ∈ E, (ρ (rn τ x.1)).blk = b) w al vs := by
      intro al
      induction al with
      | nil => intro vs h; cases vs <;> exact h
      | cons a al ih =>
        intro vs h
        cases vs with
        | nil => exact h.elim
        | cons v vs => exact ⟨(AV.ren_rel' h.1).mono (fun _ _ => rfl) (fun _ _ _ => rfl) (Nat.le_refl _) (fun b _ hb => (hA b).1 hb), ih vs h.2⟩
    exact key args vs hr
  refine (h (fun i => ρ (rn τ i)) O w vs hO ?_ ?_ hl).mono ?_
  · intro x hx
    obtain ⟨h1, h2, h3, h4, cs, T, fz, h5, h6, h7, h8⟩ := hE (rn τ x.1, x.2) (List.mem_map.2 ⟨x, hx, rfl⟩)
    refine ⟨h1, h2, h3, h4, cs, T, fz, h5, h6, h7, fun j hj => ?_⟩
    obtain ⟨u, hu, hr⟩ := h8 j hj
    exact ⟨u, hu, hr.mono (fun i hi => (noid (hc x hx) hj i hi).symm) (fun _ _ _ => rfl) (Nat.le_refl _) (fun b _ hb => (hA b).1 hb)⟩
  · intro x hx y hy hxy
    exact hsep (rn τ x.1, x.2) (List.mem_map.2 ⟨x, hx, rfl⟩) (rn τ y.1, y.2) (List.mem_map.2 ⟨y, hy, rfl⟩) (hne x hx y hy hxy)
  · rintro e w' ⟨r, he, hr, hf, hE'⟩
    refine ⟨r, he, AV.pure_rel hres hr, ⟨hf.os, hf.tape, hf.output, hf.size, fun b hb hM => hf.block b hb fun ⟨x, hx, hx'⟩ => hM ⟨_, List.mem_map.2 ⟨x, hx, rfl⟩, hx'⟩⟩, fun x hx => ?_⟩
    obtain ⟨y, hy, rfl⟩ := List.mem_map.1 hx
    obtain ⟨cs, T, fz, h1, h2, h3, h4, h5⟩ := hE' y hy
    refine ⟨cs, T, fz, h1, h2, h3, h4, fun j hj => ?_⟩
    obtain ⟨u, hu, hr⟩ := h5 j hj
    exact ⟨u, hu, hr.mono (fun i hi => noid (hc' y hy) hj i hi) (fun _ _ _ => rfl) (Nat.le_refl _) (fun b _ hb => (hA b).2 hb)⟩
theorem rens2 {i j a b : Nat} {c d : Cs} (h : a ≠ b) (hij : i ≠ j) : ∀ x ∈ [(i, c), (j, d)], ∀ y ∈ [(i, c), (j, d)], x.1 ≠ y.1 → rn [(i, a), (j, b)] x.1 ≠ rn [(i, a), (j, b)] y.1 := by
  have e1 : rn [(i, a), (j, b)] i = a := by simp [rn, lk]
  have e2 : rn [(i, a), (j, b)] j = b := by simp [rn, lk, hij.symm]
  intro x hx y hy hxy
  simp only [List.mem_cons, List.not_mem_nil, or_false] at hx hy
  rcases hx with rfl | rfl <;> rcases hy with rfl | rfl
  · exact absurd rfl hxy
  · rw [e1, e2]; exact h
  · rw [e1, e2]; exact h.symm
  · exact absurd rfl hxy
theorem noids2 {i j : Nat} {c d : Cs} (h : c.ids = []) (h' : d.ids = []) : ∀ x ∈ [(i, c), (j, d)], x.2.ids = [] := by
  intro x hx
  simp only [List.mem_cons, List.not_mem_nil, or_false] at hx
  rcases hx with rfl | rfl
  · exact h
  · exact h'
theorem ownLn (H : Nat → Option Bk) : OwnL H [] := fun x hx => by cases hx
theorem ownLc {H : Nat → Option Bk} {i n : Nat} {c : Cs} {E : List (Nat × Cs)} (h : H i = some (.own c)) (hl : c.len = n) (hn : n ≠ 0) (r : OwnL H E) : OwnL H ((i, c) :: E) := by
  intro x hx
  rcases List.mem_cons.1 hx with rfl | hx
  · exact ⟨h, hl ▸ hn⟩
  · exact r x hx
theorem noidsN {E : List (Nat × Cs)} (h : E.all (fun x => x.2.ids.isEmpty) = true) : ∀ x ∈ E, x.2.ids = [] := fun x hx => by simpa using List.all_eq_true.1 h x hx
theorem rens4 {c0 c1 c2 c3 : Cs} {a b c d : Nat} (h : a ≠ b ∧ a ≠ c ∧ a ≠ d ∧ b ≠ c ∧ b ≠ d ∧ c ≠ d) : ∀ x ∈ [(1000, c0), (1001, c1), (1002, c2), (1003, c3)], ∀ y ∈ [(1000, c0), (1001, c1), (1002, c2), (1003, c3)], x.1 ≠ y.1 →
    rn [(1000, a), (1001, b), (1002, c), (1003, d)] x.1 ≠ rn [(1000, a), (1001, b), (1002, c), (1003, d)] y.1 := by
  obtain ⟨h1, h2, h3, h4, h5, h6⟩ := h
  have e0 : rn [(1000, a), (1001, b), (1002, c), (1003, d)] 1000 = a := rfl
  have e1 : rn [(1000, a), (1001, b), (1002, c), (1003, d)] 1001 = b := rfl
  have e2 : rn [(1000, a), (1001, b), (1002, c), (1003, d)] 1002 = c := rfl
  have e3 : rn [(1000, a), (1001, b), (1002, c), (1003, d)] 1003 = d := rfl
  intro x hx y hy hxy
  simp only [List.mem_cons, List.not_mem_nil, or_false] at hx hy
  rcases hx with rfl | rfl | rfl | rfl <;> rcases hy with rfl | rfl | rfl | rfl <;> simp only [e0, e1, e2, e3] <;> first | exact absurd rfl hxy | assumption | exact Ne.symm (by assumption)
end Go.Fx

/- Plain: primes, Fermat's theorem, Pocklington's test, powers modulo a number. -/
namespace Go.Fx
/-- A prime. -/
def Pr (n : Nat) : Prop := 2 ≤ n ∧ ∀ d, d ∣ n → d = 1 ∨ d = n
theorem Pr.coprime {p a : Nat} (h : Pr p) (ha : ¬ p ∣ a) : Nat.Coprime p a := by
  rcases h.2 (Nat.gcd p a) (Nat.gcd_dvd_left _ _) with e | e
  · exact e
  · exact absurd (e ▸ Nat.gcd_dvd_right p a) ha
theorem Pr.dvd_mul {p a b : Nat} (h : Pr p) (hd : p ∣ a * b) : p ∣ a ∨ p ∣ b := by
  by_cases ha : p ∣ a
  · exact .inl ha
  · exact .inr (Nat.Coprime.dvd_of_dvd_mul_left (h.coprime ha) hd)
theorem Pr.dvd_pow {p a : Nat} (h : Pr p) : ∀ {n : Nat}, p ∣ a ^ n → p ∣ a
  | 0, hd => by
    rw [Nat.pow_zero] at hd
    have := Nat.le_of_dvd (by decide) hd
    have := h.1
    omega
  | n + 1, hd => by
    rw [Nat.pow_succ] at hd
    rcases h.dvd_mul hd with k | k
    · exact h.dvd_pow k
    · exact k
theorem Pr.factor : ∀ n : Nat, 2 ≤ n → ∃ r, Pr r ∧ r ∣ n := by
  intro n
  induction n using Nat.strongRecOn with
  | _ n ih =>
    intro hn
    by_cases h : Pr n
    · exact ⟨n, h, Nat.dvd_refl n⟩
    · have : ∃ d, d ∣ n ∧ d ≠ 1 ∧ d ≠ n := by
        apply Classical.byContradiction
        intro hne
        refine h ⟨hn, fun d hd => ?_⟩
        by_cases h1 : d = 1
        · exact .inl h1
        · by_cases h2 : d = n
          · exact .inr h2
          · exact absurd ⟨d, hd, h1, h2⟩ hne
      obtain ⟨d, hd, h1, h2⟩ := this
      have hle := Nat.le_of_dvd (by omega) hd
      have h0 : d ≠ 0 := by
        intro h0
        rw [h0] at hd
        have := Nat.eq_zero_of_zero_dvd hd
        omega
      obtain ⟨r, hr, hrd⟩ := ih d (by omega) (by omega)
      exact ⟨r, hr, Nat.dvd_trans hrd hd⟩
def prodL : List Nat → Nat
  | [] => 1
  | x :: l => x * prodL l
theorem prodL_perm {l m : List Nat} (h : l.Perm m) : prodL l = prodL m := by
  induction h with
  | nil => rfl
  | cons x _ ih => simp only [prodL, ih]
  | swap x y l => simp only [prodL]; rw [← Nat.mul_assoc, ← Nat.mul_assoc, Nat.mul_comm x y]
  | trans _ _ h1 h2 => exact h1.trans h2
theorem perm_of_sub : ∀ {l m : List Nat}, l.Nodup → (∀ x ∈ l, x ∈ m) → m.length ≤ l.length → l.Perm m
  | [], m, _, _, h => by
    have : m = [] := List.length_eq_zero_iff.1 (by simpa using h)
    rw [this]
  | x :: l, m, hn, hs, h => by
    have hx : x ∈ m := hs x (List.mem_cons_self ..)
    have hn2 := List.nodup_cons.1 hn
    have hp : m.Perm (x :: m.erase x) := List.perm_cons_erase hx
    refine List.Perm.trans (List.Perm.cons x (perm_of_sub hn2.2 (fun y hy => ?_) ?_)) hp.symm
    · have hne : y ≠ x := fun e => hn2.1 (e ▸ hy)
      exact (List.mem_erase_of_ne hne).2 (hs y (List.mem_cons_of_mem _ hy))
    · rw [List.length_erase_of_mem hx]
      simp only [List.length_cons] at h
      omega
theorem prodL_map (p a : Nat) : ∀ l : List Nat, prodL (l.map fun i => a * i % p) % p = (a ^ l.length * prodL l) % p
  | [] => rfl
  | x :: l => by
    simp only [List.map_cons, prodL, List.length_cons]
    rw [Nat.mul_mod, prodL_map p a l, Nat.mod_mod, ← Nat.mul_mod]
    congr 1
    rw [Nat.pow_succ]
    simp only [Nat.mul_assoc, Nat.mul_comm, Nat.mul_left_comm]
theorem Pr.dvd_prodL {p : Nat} (h : Pr p) : ∀ {l : List Nat}, p ∣ prodL l → ∃ x ∈ l, p ∣ x
  | [], hd => by
    have := Nat.le_of_dvd (by decide) hd
    have := h.1
    simp only [prodL] at *
    omega
  | x :: l, hd => by
    rcases h.dvd_mul hd with k | k
    · exact ⟨x, List.mem_cons_self .., k⟩
    · obtain ⟨y, hy, hk⟩ := h.dvd_prodL k
      exact ⟨y, List.mem_cons_of_mem _ hy, hk⟩
theorem dvd_sub_of_mod {p x y : Nat} (h : x % p = y % p) (hle : y ≤ x) : p ∣ x - y := by
  refine ⟨x / p - y / p, ?_⟩
  have h1 := Nat.div_add_mod x p
  have h2 := Nat.div_add_mod y p
  rw [Nat.mul_sub]
  omega
theorem mod_of_dvd_sub {p x y : Nat} (h : p ∣ x - y) (hle : y ≤ x) : x % p = y % p := by
  obtain ⟨k, hk⟩ := h
  have : x = y + p * k := by omega
  rw [this, Nat.add_mul_mod_self_left]
/-- Fermat's theorem. -/
theorem Pr.fermat {p a : Nat} (h : Pr p) (ha : ¬ p ∣ a) : a ^ (p - 1) % p = 1 := by
  have h2 := h.1
  let L := (List.range (p - 1)).map (· + 1)
  have hL : ∀ x, x ∈ L ↔ 1 ≤ x ∧ x < p := by
    intro x
    simp only [L, List.mem_map, List.mem_range]
    constructor
    · rintro ⟨y, hy, rfl⟩; omega
    · intro hx; exact ⟨x - 1, by omega, by omega⟩
  have hnd : ∀ x, x ∈ L → ¬ p ∣ x := by
    intro x hx hd
    have := (hL x).1 hx
    have := Nat.le_of_dvd (by omega) hd
    omega
  have hlen : L.length = p - 1 := by simp [L]
  have hinj : ∀ x y, x ∈ L → y ∈ L → x < y → a * x % p = a * y % p → False := by
    intro x y hx hy hlt he
    have hd := dvd_sub_of_mod he.symm (Nat.mul_le_mul_left a (Nat.le_of_lt hlt))
    rw [← Nat.mul_sub] at hd
    rcases h.dvd_mul hd with k | k
    · exact ha k
    · have := (hL y).1 hy
      have := Nat.le_of_dvd (by omega) k
      omega
  have hperm : (L.map fun i => a * i % p).Perm L := by
    refine perm_of_sub ?_ ?_ ?_
    · have hLn : L.Pairwise (· < ·) := by
        simp only [L]
        refine List.Pairwise.map _ (fun x y (h : x < y) => Nat.succ_lt_succ h) List.pairwise_lt_range
      refine List.pairwise_map.2 ?_
      refine List.Pairwise.imp_of_mem ?_ hLn
      intro x y hx hy hlt he
      exact hinj x y hx hy hlt he
    · intro x hx
      obtain ⟨y, hy, rfl⟩ := List.mem_map.1 hx
      refine (hL _).2 ⟨?_, Nat.mod_lt _ (by omega)⟩
      rcases Nat.eq_zero_or_pos (a * y % p) with e | e
      · rcases h.dvd_mul (Nat.dvd_of_mod_eq_zero e) with k | k
        · exact absurd k ha
        · exact absurd k (hnd y hy)
      · exact e
    · simp [L]
  have he := prodL_map p a L
  rw [prodL_perm hperm, hlen] at he
  have hpos : 1 ≤ a ^ (p - 1) := by
    rcases Nat.eq_zero_or_pos (a ^ (p - 1)) with e | e
    · have : p ∣ a ^ (p - 1) := e ▸ Nat.dvd_zero p
      exact absurd (h.dvd_pow this) ha
    · exact e
  have hd := dvd_sub_of_mod he.symm (Nat.le_mul_of_pos_left _ hpos)
  have hd2 : p ∣ (a ^ (p - 1) - 1) * prodL L := by rw [Nat.sub_mul, Nat.one_mul]; exact hd
  rcases h.dvd_mul hd2 with k | k
  · have := mod_of_dvd_sub k hpos
    rw [this]
    exact Nat.mod_eq_of_lt (by omega)
  · obtain ⟨x, hx, hk⟩ := h.dvd_prodL k
    exact absurd hk (hnd x hx)
theorem pow_mod_one {a k r : Nat} (hr : 2 ≤ r) (h : a ^ k % r = 1) (m : Nat) : a ^ (k * m) % r = 1 := by
  rw [Nat.pow_mul, Nat.pow_mod, h, Nat.one_pow]
  exact Nat.mod_eq_of_lt (by omega)
/-- Where two powers are 1, so is that of their common divisor. -/
theorem pow_gcd_one {a r : Nat} (hr : 2 ≤ r) : ∀ {x y : Nat}, a ^ x % r = 1 → a ^ y % r = 1 → a ^ (Nat.gcd x y) % r = 1 := by
  intro x
  induction x using Nat.strongRecOn with
  | _ x ih =>
    intro y hx hy
    rcases Nat.eq_zero_or_pos x with e | e
    · rw [e, Nat.gcd_zero_left]; exact hy
    · rw [Nat.gcd_rec]
      refine ih (y % x) (Nat.mod_lt _ e) ?_ hx
      have h1 : a ^ (x * (y / x) + y % x) % r = 1 := by rw [Nat.div_add_mod]; exact hy
      rw [Nat.pow_add, Nat.mul_mod, pow_mod_one hr hx, Nat.one_mul, Nat.mod_mod] at h1
      exact h1
theorem Pr.pock {N q R a r : Nat} (hq : Pr q) (hN : N = q * R + 1) (h1 : a ^ (N - 1) % N = 1) (h2 : Nat.gcd (a ^ R % N + (N - 1)) N = 1) (hr : Pr r) (hrN : r ∣ N) : q ∣ r - 1 := by
  have hr2 := hr.1
  have hNe : N - 1 = q * R := by omega
  have h1r : a ^ (N - 1) % r = 1 := by
    have := congrArg (· % r) h1
    simp only [Nat.mod_mod_of_dvd _ hrN] at this
    rw [this]
    exact Nat.mod_eq_of_lt (by omega)
  have har : ¬ r ∣ a := by
    intro hd
    have h3 : N - 1 ≠ 0 := by
      intro e
      have hz : N = 1 := by omega
      rw [hz] at hrN
      have := Nat.le_of_dvd (by decide) hrN
      omega
    obtain ⟨m, hm⟩ : ∃ m, N - 1 = m + 1 := ⟨N - 1 - 1, by omega⟩
    rw [hm, Nat.pow_succ, Nat.mul_mod, Nat.mod_eq_zero_of_dvd hd, Nat.mul_zero, Nat.zero_mod] at h1r
    cases h1r
  have hf := hr.fermat har
  apply Classical.byContradiction
  intro hnd
  have hg : Nat.gcd (r - 1) (N - 1) ∣ R := by
    rw [hNe]
    have hc : Nat.Coprime (Nat.gcd (r - 1) (q * R)) q := by
      rw [Nat.coprime_comm]
      refine hq.coprime ?_
      intro hd
      exact hnd (Nat.dvd_trans hd (Nat.gcd_dvd_left _ _))
    exact Nat.Coprime.dvd_of_dvd_mul_left hc (Nat.gcd_dvd_right _ _)
  have hp := pow_gcd_one hr2 hf h1r
  obtain ⟨m, hm⟩ := hg
  have hR : a ^ R % r = 1 := by rw [hm]; exact pow_mod_one hr2 hp m
  have h3 : r ∣ a ^ R % N + (N - 1) := by
    refine Nat.dvd_of_mod_eq_zero ?_
    have hNpos : 1 ≤ N := by omega
    rw [Nat.add_mod, Nat.mod_mod_of_dvd _ hrN, hR]
    have e : (1 + (N - 1) % r) % r = (1 + (N - 1)) % r := by
      rw [Nat.add_mod 1 (N - 1), Nat.mod_eq_of_lt (show 1 < r by omega)]
    rw [e, show 1 + (N - 1) = N by omega]
    exact Nat.mod_eq_zero_of_dvd hrN
  have h4 := Nat.dvd_gcd h3 hrN
  rw [h2] at h4
  have := Nat.le_of_dvd (by decide) h4
  omega
theorem Pr.of_factor {N F : Nat} (h2 : 2 ≤ N) (hF : N < F * F) (h : ∀ r, Pr r → r ∣ N → F ∣ r - 1) : Pr N := by
  obtain ⟨r, hr, hrN⟩ := Pr.factor N h2
  refine ⟨h2, fun d hd => ?_⟩
  obtain ⟨e, he⟩ := hd
  by_cases h1 : d = 1
  · exact .inl h1
  · by_cases h3 : e = 1
    · right; rw [h3, Nat.mul_one] at he; exact he.symm
    · exfalso
      have hd0 : d ≠ 0 := by intro z; rw [z, Nat.zero_mul] at he; omega
      have he0 : e ≠ 0 := by intro z; rw [z, Nat.mul_zero] at he; omega
      have big : ∀ d, 2 ≤ d → d ∣ N → F < d := by
        intro d hd2 hdN
        obtain ⟨s, hs, hsd⟩ := Pr.factor d hd2
        have := Nat.le_of_dvd (by have := hs.1; omega) (h s hs (Nat.dvd_trans hsd hdN))
        have := Nat.le_of_dvd (by omega) hsd
        have := hs.1
        omega
      have b1 := big d (by omega) ⟨e, he⟩
      have b2 := big e (by omega) ⟨d, by rw [Nat.mul_comm]; exact he⟩
      have := Nat.mul_lt_mul_of_lt_of_le b1 (Nat.le_of_lt b2) (by omega)
      omega
theorem Pr.pock1 {N q R a : Nat} (hq : Pr q) (h2 : 2 ≤ N) (hN : N = q * R + 1) (hF : N < q * q) (h1 : a ^ (N - 1) % N = 1) (hg : Nat.gcd (a ^ R % N + (N - 1)) N = 1) : Pr N :=
  Pr.of_factor h2 hF fun _ hr hrN => Pr.pock hq hN h1 hg hr hrN
theorem Pr.pock2 {N q R a q' R' a' : Nat} (hq : Pr q) (hq' : Pr q') (hne : ¬ q ∣ q') (h2 : 2 ≤ N) (hN : N = q * R + 1) (hN' : N = q' * R' + 1) (hF : N < q * q' * (q * q')) (h1 : a ^ (N - 1) % N = 1) (hg : Nat.gcd (a ^ R % N + (N - 1)) N = 1)
    (h1' : a' ^ (N - 1) % N = 1) (hg' : Nat.gcd (a' ^ R' % N + (N - 1)) N = 1) : Pr N :=
  Pr.of_factor h2 hF fun _ hr hrN => Nat.Coprime.mul_dvd_of_dvd_of_dvd (hq.coprime hne) (Pr.pock hq hN h1 hg hr hrN) (Pr.pock hq' hN' h1' hg' hr hrN)
/-- A small prime, by trial. -/
theorem Pr.small {n : Nat} (h2 : 2 ≤ n) (h : (List.range n).all (fun d => Nat.ble d 1 || !(Nat.beq (n % d) 0)) = true) : Pr n := by
  refine ⟨h2, fun d hd => ?_⟩
  by_cases h1 : d = 1
  · exact .inl h1
  · right
    have hle := Nat.le_of_dvd (by omega) hd
    by_cases h3 : d = n
    · exact h3
    · exfalso
      have h0 : d ≠ 0 := by intro z; rw [z] at hd; have := Nat.eq_zero_of_zero_dvd hd; omega
      have := List.all_eq_true.1 h d (List.mem_range.2 (by omega))
      rw [Nat.mod_eq_zero_of_dvd hd] at this
      have hb : Nat.ble d 1 = false := by
        cases hq : Nat.ble d 1
        · rfl
        · have := Nat.le_of_ble_eq_true hq; omega
      rw [hb] at this
      cases this
/-- A power modulo m, by squares (n bits at the most). -/
def pwm (m : Nat) : Nat → Nat → Nat → Nat
  | 0, _, _ => 1
  | f + 1, a, e => bif Nat.beq (e % 2) 1 then a * pwm m f (a * a % m) (e / 2) % m else pwm m f (a * a % m) (e / 2)
theorem pwm_eq (m : Nat) : ∀ f a e, e < 2 ^ f → pwm m f a e % m = a ^ e % m
  | 0, a, e, h => by
    have : e = 0 := by simpa using h
    rw [this]
    rfl
  | f + 1, a, e, h => by
    have h2 : e / 2 < 2 ^ f := by rw [Nat.pow_succ] at h; omega
    have ih := pwm_eq m f (a * a % m) (e / 2) h2
    have hsq : ∀ k, (a * a % m) ^ k % m = a ^ (2 * k) % m := by
      intro k
      rw [← Nat.pow_mod, Nat.pow_mul, Nat.pow_succ, Nat.pow_one]
    unfold pwm
    by_cases hb : e % 2 = 1
    · rw [hb, show Nat.beq 1 1 = true from rfl, cond_true, Nat.mod_mod, Nat.mul_mod, ih, hsq, ← Nat.mul_mod, Nat.mul_comm, ← Nat.pow_succ]
      congr 2
      omega
    · have hz : e % 2 = 0 := by omega
      rw [hz, show Nat.beq 0 1 = false from rfl, cond_false, ih, hsq]
      congr 2
      omega
theorem pwm_mod {m f a e r : Nat} (h : e < 2 ^ f) (hp : pwm m f a e % m = r) : a ^ e % m = r := (pwm_eq m f a e h).symm.trans hp
theorem Pr.pockA {N q R f a : Nat} (hq : Pr q) (h2 : 2 ≤ N) (hN : N = q * R + 1) (hF : N < q * q) (hf : N < 2 ^ f) (h1 : pwm N f a (N - 1) % N = 1) (hg : Nat.gcd (pwm N f a R % N + (N - 1)) N = 1) : Pr N := by
  have hR : R < N := by
    have := Nat.le_mul_of_pos_left R (show 0 < q by have := hq.1; omega)
    omega
  rw [pwm_eq _ _ _ _ (by omega)] at h1
  rw [pwm_eq _ _ _ _ (by omega)] at hg
  exact Pr.pock1 hq h2 hN hF h1 hg
theorem Pr.pockB {N q R f a q' R' : Nat} (hq : Pr q) (hq' : Pr q') (hne : ¬ q ∣ q') (h2 : 2 ≤ N) (hN : N = q * R + 1) (hN' : N = q' * R' + 1) (hF : N < q * q' * (q * q')) (hf : N < 2 ^ f) (h1 : pwm N f a (N - 1) % N = 1)
    (hg : Nat.gcd (pwm N f a R % N + (N - 1)) N = 1) (hg' : Nat.gcd (pwm N f a R' % N + (N - 1)) N = 1) : Pr N := by
  have hR : R < N := by
    have := Nat.le_mul_of_pos_left R (show 0 < q by have := hq.1; omega)
    omega
  have hR' : R' < N := by
    have := Nat.le_mul_of_pos_left R' (show 0 < q' by have := hq'.1; omega)
    omega
  rw [pwm_eq _ _ _ _ (by omega)] at h1
  rw [pwm_eq _ _ _ _ (by omega)] at hg
  rw [pwm_eq _ _ _ _ (by omega)] at hg'
  exact Pr.pock2 hq hq' hne h2 hN hN' hF h1 hg h1 hg'
theorem pr991 : Pr 991 := .small (by decide) (by decide +kernel)
theorem pr103 : Pr 103 := .small (by decide) (by decide +kernel)
theorem pr8574133 : Pr 8574133 := .pockB (R := 8652) (f := 24) (a := 2) (R' := 83244) pr991 pr103 (by decide +kernel) (by decide +kernel) (by decide +kernel) (by decide +kernel) (by decide +kernel) (by decide +kernel) (by decide +kernel) (by decide +kernel) (by decide +kernel)
theorem pr127 : Pr 127 := .small (by decide) (by decide +kernel)
theorem pr1919519569386763 : Pr 1919519569386763 := .pockB (R := 223873314) (f := 51) (a := 2) (R' := 15114327318006) pr8574133 pr127 (by decide +kernel) (by decide +kernel) (by decide +kernel) (by decide +kernel) (by decide +kernel) (by decide +kernel) (by decide +kernel) (by decide +kernel) (by decide +kernel)
theorem pr419 : Pr 419 := .small (by decide) (by decide +kernel)
theorem pr97 : Pr 97 := .small (by decide) (by decide +kernel)
theorem pr569003 : Pr 569003 := .pockB (R := 1358) (f := 20) (a := 2) (R' := 5866) pr419 pr97 (by decide +kernel) (by decide +kernel) (by decide +kernel) (by decide +kernel) (by decide +kernel) (by decide +kernel) (by decide +kernel) (by decide +kernel) (by decide +kernel)
theorem pr2773320623 : Pr 2773320623 := .pockA (R := 4874) (f := 32) (a := 2) pr569003 (by decide +kernel) (by decide +kernel) (by decide +kernel) (by decide +kernel) (by decide +kernel) (by decide +kernel)
theorem pr72106336199 : Pr 72106336199 := .pockA (R := 26) (f := 37) (a := 2) pr2773320623 (by decide +kernel) (by decide +kernel) (by decide +kernel) (by decide +kernel) (by decide +kernel) (by decide +kernel)
theorem pr75445702479781427272750846543864801 : Pr 75445702479781427272750846543864801 := .pockB (R := 39304471641247389600) (f := 116) (a := 2) (R' := 1046311689884858398375200) pr1919519569386763 pr72106336199 (by decide +kernel) (by decide +kernel) (by decide +kernel) (by decide +kernel) (by decide +kernel) (by decide +kernel) (by decide +kernel) (by decide +kernel) (by decide +kernel)
theorem pr1723 : Pr 1723 := .small (by decide) (by decide +kernel)
theorem pr430751 : Pr 430751 := .pockA (R := 250) (f := 19) (a := 2) pr1723 (by decide +kernel) (by decide +kernel) (by decide +kernel) (by decide +kernel) (by decide +kernel) (by decide +kernel)
theorem pr173 : Pr 173 := .small (by decide) (by decide +kernel)
theorem pr4153 : Pr 4153 := .pockA (R := 24) (f := 13) (a := 2) pr173 (by decide +kernel) (by decide +kernel) (by decide +kernel) (by decide +kernel) (by decide +kernel) (by decide +kernel)
theorem pr31757755568855353 : Pr 31757755568855353 := .pockB (R := 73726481352) (f := 55) (a := 2) (R' := 7646943310584) pr430751 pr4153 (by decide +kernel) (by decide +kernel) (by decide +kernel) (by decide +kernel) (by decide +kernel) (by decide +kernel) (by decide +kernel) (by decide +kernel) (by decide +kernel)
theorem pr74058212732561358302231226437062788676166966415465897661863160754340907 : Pr 74058212732561358302231226437062788676166966415465897661863160754340907 := .pockB (R := 981609426360740691344999861639072106) (f := 236) (a := 2) (R' := 2331972502653487852620185443007392165117953542933313402) pr75445702479781427272750846543864801 pr31757755568855353 (by decide +kernel) (by decide +kernel) (by decide +kernel) (by decide +kernel) (by decide +kernel) (by decide +kernel) (by decide +kernel) (by decide +kernel) (by decide +kernel)
theorem prP : Pr 57896044618658097711785492504343953926634992332820282019728792003956564819949 := .pockA (R := 781764) (f := 255) (a := 2) pr74058212732561358302231226437062788676166966415465897661863160754340907 (by decide +kernel) (by decide +kernel) (by decide +kernel) (by decide +kernel) (by decide +kernel) (by decide +kernel)
end Go.Fx

/- FxV: what a row's closing facts ask of the program's head, by its first three words. -/
namespace Go.Fx

theorem words_split (r : List Char) : ∀ (l : List Char), (l.all fun c => c != Char.ofNat 32) = true → wordsSigns (l ++ Char.ofNat 32 :: r) = l :: wordsSigns r
  | [], _ => rfl
  | c :: l, h => by
    simp only [List.all_cons, Bool.and_eq_true, bne_iff_ne, ne_eq] at h
    have ih := words_split r l h.2
    rw [List.cons_append, wordsSigns, ih]
    exact h.1

/-- The head says: a harness of this sum, cut. -/
structure CutHead (P : Program) : Prop where
  w : ∃ s r, isSumSigns s = true ∧ wordsSigns P.initOrder.toList = "harness".toList :: s :: "cut".toList :: r
theorem CutHead.mk' {P : Program} (s r : List Nat) (h : P.initOrder = String.ofList ([104, 97, 114, 110, 101, 115, 115].map Char.ofNat ++ Char.ofNat 32 :: (s.map Char.ofNat ++ Char.ofNat 32 :: ([99, 117, 116].map Char.ofNat ++ Char.ofNat 32 :: r.map Char.ofNat))))
    (hs : isSumSigns (s.map Char.ofNat) = true) (hl : ((s.map Char.ofNat).all fun c => c != Char.ofNat 32) = true) : CutHead P := by
  refine ⟨s.map Char.ofNat, wordsSigns (r.map Char.ofNat), hs, ?_⟩
  rw [h, String.toList_ofList, words_split _ _ (by decide), words_split _ _ hl, words_split _ _ (by decide)]
  rfl
theorem CutHead.behind {P : Program} (h : CutHead P) : ∃ r, behindMainWord (wordsSigns P.initOrder.toList) = "cut".toList :: r := by
  obtain ⟨s, r, hs, hw⟩ := h.w
  refine ⟨r, ?_⟩
  rw [hw, behindMainWord, hs]
  rfl
theorem strip_cut (r : List (List Char)) : stripLifts liftWords ("cut".toList :: r) = ([], "cut".toList :: r) := rfl
theorem CutHead.mayEnter {P : Program} (h : CutHead P) (h1 : (!P.laysLater && !P.bearsReflect && P.doorFits []) = true) : P.mayEnter = true := by
  obtain ⟨r, hr⟩ := h.behind
  simp only [Bool.and_eq_true] at h1
  unfold Program.mayEnter
  rw [hr]
  simp only [strip_cut, h1.1.1, h1.1.2, h1.2]
  rfl
theorem CutHead.liftsFinal {P : Program} (h : CutHead P) : P.liftsFinal = false := by
  obtain ⟨r, hr⟩ := h.behind
  unfold Program.liftsFinal Program.headLifts
  rw [hr]
  simp only [strip_cut]
  rfl
theorem CutHead.make {P : Program} (h : CutHead P) : P.make = some .cut := by
  obtain ⟨r, hr⟩ := h.behind
  unfold Program.make
  rw [hr]
  rfl
end Go.Fx

/- FxU: the top of a law: what came in, read as the framework reads it. -/
namespace Go.Fx
open Go.RowKit (Below)
open Go.ChangeShapes Go.WideShapes Go.ChangeAt

def none' : Nat → Prop := fun _ => False

theorem fits_wf {k : IntKind} {n : Int} (hk : k.signed = false) (h : (Lit.int k n).wf = true) : ∃ x : Nat, n = x ∧ x < 2 ^ k.bits := by
  simp only [Lit.wf, IntKind.min, IntKind.max, hk, Bool.false_eq_true, if_false, Bool.and_eq_true, decide_eq_true_eq] at h
  refine ⟨n.toNat, by omega, ?_⟩
  have h1 : (n.toNat : Int) = n := Int.toNat_of_nonneg h.1
  have h2 : (n.toNat : Int) < ((2 ^ k.bits : Nat) : Int) := by
    rw [h1]; have := h.2; simp only [Int.natCast_pow, Int.cast_ofNat_Int]; omega
  exact Int.ofNat_lt.1 h2

section
variable {H : Type} {enc : TypeId × Value → H} {P : Program} {W : World} {base : Nat} {t e : TypeId} {v : Value} {d : DataW H} {ps : List MemPlace}

theorem top_int {k : IntKind} (ht : P.underlying t = some (.int k)) (hk : k.signed = false) (hval : Value.okWide P W .any base t v) (hd : DataW.Trod enc P W 0 (fun _ => true) true t v d ps) :
    ∃ x : Nat, x < 2 ^ k.bits ∧ (AV.one (.n k x)).Rel ρz none' W v := by
  obtain ⟨n, rfl, _, _, hw⟩ := open_int ht hval hd
  obtain ⟨x, rfl, hx⟩ := fits_wf hk hw
  exact ⟨x, hx, rfl, .inr hx⟩
theorem top_i64 (ht : P.underlying t = some (.int .i64)) (hval : Value.okWide P W .any base t v) (hd : DataW.Trod enc P W 0 (fun _ => true) true t v d ps) :
    ∃ x : Int, -9223372036854775808 ≤ x ∧ x < 9223372036854775808 ∧ (AV.one (.z x)).Rel ρz none' W v := by
  obtain ⟨n, rfl, _, _, hw⟩ := open_int ht hval hd
  simp only [Lit.wf, IntKind.min, IntKind.max, IntKind.signed, IntKind.bits, Bool.and_eq_true, decide_eq_true_eq] at hw
  exact ⟨n, by simpa using hw.1, by have := hw.2; simp at this; omega, rfl⟩
theorem top_bool (ht : P.underlying t = some .bool) (hval : Value.okWide P W .any base t v) (hd : DataW.Trod enc P W 0 (fun _ => true) true t v d ps) :
    ∃ x : Bool, (AV.one (.b x)).Rel ρz none' W v := by
  obtain ⟨b, rfl, _⟩ := Go.RowKit.open_bool ht hval hd
  exact ⟨b, rfl⟩
theorem top_arr {N : Nat} {k : IntKind} (ht : P.underlying t = some (.array N e)) (he : P.underlying e = some (.int k)) (hc : P.cellsOf e = 1) (hct : P.cellsOf t = N) (hk : k.signed = false)
    (hval : Value.okWide P W .any base t v) (hd : DataW.Trod enc P W 0 (fun _ => true) true t v d ps) : ∃ xs : List Nat, xs.length = N ∧ Lt (2 ^ k.bits) xs ∧ (AV.row (.ints k xs)).Rel ρz none' W v := by
  simp only [Value.okWide, ht] at hval
  obtain ⟨cs, rfl, hsz, _⟩ := hval
  obtain ⟨fuel, hf⟩ := hd
  obtain ⟨ys, m, _, _, hlen, hl, hel⟩ := DataW.trod_array ht hf
  have hcl : cs.size = N := by rw [hsz, hct]
  have each : ∀ i, i < N → ∃ x : Nat, cs[i]? = some (.int k x) ∧ x < 2 ^ k.bits := by
    intro i hi
    have h1 := hel i hi
    rw [hc, List.getElem?_eq_getElem (by omega)] at h1
    obtain ⟨n, hn, _, hw⟩ := DataW.trod_int he h1
    obtain ⟨x, rfl, hx⟩ := fits_wf hk hw
    refine ⟨x, ?_, hx⟩
    have h2 := congrArg (·[0]?) hn
    simp only [List.getElem?_take, List.getElem?_drop, Nat.lt_one_iff, if_true, Nat.mul_one, Nat.add_zero, List.getElem?_cons_zero, Value.cells, Array.getElem?_toList] at h2
    exact h2
  refine ⟨cs.toList.map fun v => match v with | .int _ n => n.toNat | _ => 0, by simp [hcl], ?_, cs, rfl, by simp [Cs.len], fun j hj => ?_⟩
  · intro i
    by_cases hi : i < N
    · obtain ⟨x, hx, hlt⟩ := each i hi
      simp only [List.getD_eq_getElem?_getD, List.getElem?_map, Array.getElem?_toList, hx, Option.map_some, Option.getD_some, Int.toNat_natCast]
      exact hlt
    · rw [getD_ge (by simp [hcl]; omega)]; exact Nat.two_pow_pos _
  · simp only [Cs.len, List.length_map, Array.length_toList, hcl] at hj
    obtain ⟨x, hx, hlt⟩ := each j hj
    have e1 : (cs.toList.map fun v => match v with | .int _ n => n.toNat | _ => 0).getD j 0 = x := by
      simp only [List.getD_eq_getElem?_getD, List.getElem?_map, Array.getElem?_toList, hx, Option.map_some, Option.getD_some, Int.toNat_natCast]
    refine ⟨_, hx, ?_⟩
    show Value.int k x = .int k ((cs.toList.map fun v => match v with | .int _ n => n.toNat | _ => 0).getD j 0 : Nat) ∧ fits k ((cs.toList.map fun v => match v with | .int _ n => n.toNat | _ => 0).getD j 0)
    rw [e1]
    exact ⟨rfl, .inr hlt⟩
theorem top_slice {k : IntKind} (ht : P.underlying t = some (.slice e)) (he : P.underlying e = some (.int k)) (hc : P.cellsOf e = 1) (hk : k.signed = false)
    (hval : Value.okWide P W .any base t v) (hd : DataW.Trod enc P W 0 (fun _ => true) true t v d ps) : ∃ xs : List Nat, xs.length ≤ maxLen ∧ Lt (2 ^ k.bits) xs ∧ (AV.one (.bs false k xs)).Rel ρz none' W v := by
  obtain ⟨a, len, cap, rfl⟩ := okWide_slice ht hval
  obtain ⟨fuel, hf⟩ := hd
  rcases open_ints ht he hc hf with ⟨hcs, _⟩ | ⟨x, l, c, zs, hcs, _, hl, hm, hz, _, hcell, hwz⟩
  · simp [Value.cells] at hcs
    obtain ⟨rfl, rfl, rfl⟩ := hcs
    exact ⟨[], Nat.zero_le _, fun i => Nat.two_pow_pos _, none, 0, rfl, Nat.le_refl _, (fun h => nomatch h), .inl rfl⟩
  · simp [Value.cells] at hcs
    obtain ⟨rfl, rfl, rfl⟩ := hcs
    have hzl : zs.length = cap := by simpa using hz
    have each : ∀ i, i < len → ∃ x : Nat, zs[i]? = some (x : Int) ∧ x < 2 ^ k.bits := by
      intro i hi
      have hi' : i < zs.length := by omega
      obtain ⟨y, hy, hlt⟩ := fits_wf hk (hwz _ (List.getElem_mem hi'))
      exact ⟨y, by rw [List.getElem?_eq_getElem hi', hy], hlt⟩
    have hlen : ((zs.take len).map Int.toNat).length = len := by simp; omega
    refine ⟨(zs.take len).map Int.toNat, by rw [hlen]; omega, ?_, some x, cap, by rw [hlen], by rw [hlen]; exact hl, (fun h => nomatch h), ?_⟩
    · intro i
      by_cases hi : i < len
      · obtain ⟨y, hy, hlt⟩ := each i hi
        simp only [List.getD_eq_getElem?_getD, List.getElem?_map, List.getElem?_take, hi, if_true, hy, Option.map_some, Option.getD_some, Int.toNat_natCast]
        exact hlt
      · rw [getD_ge (by omega)]; exact Nat.two_pow_pos _
    · by_cases hc0 : cap = 0
      · exact .inl hc0
      have h0 := hcell 0 (by omega)
      have hadd0 : x.add 0 = x := by simp [Addr.add]
      rw [hadd0] at h0
      obtain ⟨b, o, s⟩ := x
      have hs : s = none := by
        unfold World.cell? at h0
        split at h0
        · cases s with
          | none => rfl
          | some q => simp at h0
        · cases h0
      subst hs
      refine .inr ⟨b, o, rfl, fun h => h, World.block_lt_of_cell? _ _ h0, fun i hi => ?_⟩
      rw [hlen] at hi
      obtain ⟨y, hy, hlt⟩ := each i hi
      have h1 := hcell i (by omega)
      rw [addr_add] at h1
      have e1 : ((zs.take len).map Int.toNat).getD i 0 = y := by
        simp only [List.getD_eq_getElem?_getD, List.getElem?_map, List.getElem?_take, hi, if_true, hy, Option.map_some, Option.getD_some, Int.toNat_natCast]
      have e2 : zs.getD i 0 = (y : Int) := by simp [List.getD_eq_getElem?_getD, hy]
      rw [e2] at h1
      exact ⟨_, h1, by rw [e1], by rw [e1]; exact .inr hlt⟩
end

theorem VC.law {P : Program} {f : Nat} {args : List AV} (h : VC P f args (.one (.b true))) {W : World} {vs : List Value} (hr : RelL ρz none' W args vs) :
    Calls P f vs.toArray W fun e w' => e = .returned (.bool true) ∧ Below W.heap.size W w' := by
  refine (h none' W vs (fun _ h => h.elim) hr).mono ?_
  rintro e w' ⟨r, rfl, hr, hb⟩
  simp only [AV.Rel, SV.Rel] at hr
  subst hr
  exact ⟨rfl, hb⟩

end Go.Fx
