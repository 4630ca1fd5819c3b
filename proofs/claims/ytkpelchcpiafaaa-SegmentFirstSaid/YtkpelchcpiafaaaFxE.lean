/-
  FxE: what operations do that only compute, or only read.
-/
import Derived.Test.YtkpelchcpiafaaaFxD
import Derived.Deep.MidRow
namespace Go.Fx
open Go.RowKit (Below)

def cst : Value → Option AV
  | .int k (.ofNat n) => if fits k n then some (.one (.n k n)) else none
  | .int .i64 (.negSucc n) => some (.one (.z (.negSucc n)))
  | .bool b => some (.one (.b b))
  | .slice none 0 0 => some (.one .nil)
  | .string s => some (.one (.str (s.data.toList.map UInt8.toNat)))
  | _ => none

def evF (F : Nat → Option AV) : Operand → Option AV
  | .tmp t => F t
  | .const v => cst v
  | .func f => some (.one (.fn f []))
  | .global _ => none

theorem strOf_toNat (s : ByteArray) : strOf (s.data.toList.map UInt8.toNat) = s := by
  unfold strOf
  rw [List.map_map]
  have : (UInt8.ofNat ∘ UInt8.toNat) = id := by funext x; simp
  rw [this, List.map_id]

theorem cst_rel {v : Value} {x : AV} (h : cst v = some x) (ρ : Nat → Loc) (A : Nat → Prop) (w : World) : x.Rel ρ A w v := by
  unfold cst at h
  split at h
  · split at h
    · rename_i hf; cases h; exact ⟨rfl, hf⟩
    · cases h
  · cases h; rfl
  · cases h; rfl
  · cases h; exact ⟨none, rfl⟩
  · cases h
    refine ⟨by rw [strOf_toNat], fun x hx => ?_⟩
    obtain ⟨u, _, rfl⟩ := List.mem_map.1 hx
    exact u.toNat_lt
  · cases h

section
variable {cx : Cx} {ops : Array Oper} {o : Oper} {F : Nat → Option AV} {H : Nat → Option Bk}

theorem ev_rel {a : Act} {w : World} {ρ : Nat → Loc} {A : Nat → Prop} (hs : StRel cx F H a w ρ A) {x : Operand} {v : AV} (h : evF F x = some v) : v.Rel ρ A w (a.eval x) := by
  cases x with
  | tmp t => exact hs.fr t v h
  | const c => exact cst_rel h ρ A w
  | func f => simp only [evF, Option.some.injEq] at h; subst h; rfl
  | global g => cases h

theorem evF_mono {F' : Nat → Option AV} (h : ∀ t v, F t = some v → F' t = some v) {x : Operand} {v : AV} (hx : evF F x = some v) : evF F' x = some v := by
  cases x with
  | tmp t => exact h t v hx
  | const c => exact hx
  | func f => exact hx
  | global g => exact hx

/-- The operation is wanted, and its slot is there. -/
structure Up (cx : Cx) (ops : Array Oper) (F : Nat → Option AV) (o : Oper) : Prop where
  g : o.guard = none ∨ ∃ j want oj t, o.guard = some (j, want) ∧ ops[j]? = some oj ∧ oj.dst = some t ∧ F t = some (.one (.b want))
  d : ∀ t, o.dst = some t → t < cx.nt

theorem dlt {o : Oper} {n t : Nat} (h : o.dst = some t) (hlt : t < n) : ∀ t, o.dst = some t → t < n := by
  intro s hs; rw [h] at hs; cases hs; exact hlt
theorem dno {o : Oper} {n : Nat} (h : o.dst = none) : ∀ t, o.dst = some t → t < n := by
  intro s hs; rw [h] at hs; cases hs

theorem getD_of_bool {tmps : Array Value} {t : Nat} {b : Bool} (h : tmps.getD t undef = .bool b) : tmps[t]? = some (.bool b) := by
  rw [Array.getD_eq_getD_getElem?] at h
  cases ht : tmps[t]? with
  | none => rw [ht] at h; cases h
  | some v => rw [ht] at h; simp only [Option.getD_some] at h; rw [h]

theorem yielded_of {a : Act} {w : World} {ρ : Nat → Loc} {A : Nat → Prop} (hs : StRel cx F H a w ρ A) {j t : Nat} {b : Bool} {oj : Oper} (h1 : ops[j]? = some oj) (h2 : oj.dst = some t) (h3 : F t = some (.one (.b b))) :
    yielded ops a.tmps j = some b := by
  have := getD_of_bool (hs.fr t _ h3)
  simp [yielded, h1, h2, this]

theorem Up.wanted (h : Up cx ops F o) {a : Act} {w : World} {ρ : Nat → Loc} {A : Nat → Prop} (hs : StRel cx F H a w ρ A) : Region.wanted o (yielded ops a.tmps) = true := by
  rcases h.g with h | ⟨j, want, oj, t, h1, h2, h3, h4⟩
  · simp [Region.wanted, h]
  · simp [Region.wanted, h1, yielded_of hs h2 h3 h4]

theorem Up.mono (h : Up cx ops F o) {F' : Nat → Option AV} (hF : ∀ t v, F t = some v → F' t = some v) : Up cx ops F' o :=
  ⟨h.g.imp id fun ⟨j, want, oj, t, h1, h2, h3, h4⟩ => ⟨j, want, oj, t, h1, h2, h3, hF _ _ h4⟩, h.d⟩

/-- One that yields a value and leaves the world alone. -/
theorem Doing.val {av : AV} (hu : Up cx ops F o)
    (h : ∀ ρ A a w, StRel cx F H a w ρ A → ∃ v, (execOp a.eval o).run cx.P w = .ok (.value v) w ∧ av.Rel ρ A w v) : Doing cx ops o F H ⟨av, [], []⟩ := by
  intro F' H' hF hH _ ρ A a w hs K Q hK
  have hs' := hs.sub hF hH
  unfold StepOp
  rw [if_pos (hu.wanted hs')]
  obtain ⟨v, h1, h2⟩ := h ρ A a w hs'
  unfold Oper.wp
  rw [h1]
  exact hK v w ρ A (hs.put hu.d h2)

theorem Doing.skip (j : Nat) (want : Bool) (oj : Oper) (t : Nat) (hg : o.guard = some (j, want)) (h1 : ops[j]? = some oj) (h2 : oj.dst = some t) (h3 : F t = some (.one (.b (!want)))) (hd : ∀ t, o.dst = some t → t < cx.nt) :
    Doing cx ops o F H ⟨.one .u, [], []⟩ := by
  intro F' H' hF hH _ ρ A a w hs K Q hK
  have hs' := hs.sub hF hH
  unfold StepOp
  rw [if_neg (by simp [Region.wanted, hg, yielded_of hs' h1 h2 h3])]
  exact hK undef w ρ A (hs.put hd rfl)

/-! ### Moves -/
theorem Y.move {x : Operand} {v : AV} (hu : Up cx ops F o) (ho : o.op = .move x) (hx : evF F x = some v) : Doing cx ops o F H ⟨v, [], []⟩ :=
  Doing.val hu fun _ _ a w hs => ⟨_, by simp only [execOp, ho]; rfl, ev_rel hs hx⟩
theorem Y.assign {x : Operand} {v : AV} (hu : Up cx ops F o) (ho : o.op = .assign x) (hx : evF F x = some v) : Doing cx ops o F H ⟨v, [], []⟩ :=
  Doing.val hu fun _ _ a w hs => ⟨_, by simp only [execOp, ho]; rfl, ev_rel hs hx⟩
theorem Y.pick {c x y : Operand} {v u : AV} (b : Bool) (hu : Up cx ops F o) (ho : o.op = .pick c x y) (hc : evF F c = some (.one (.b b))) (hx : b = true → evF F x = some v) (hy : b = false → evF F y = some v) (_ : u = v := by rfl) :
    Doing cx ops o F H ⟨v, [], []⟩ :=
  Doing.val hu fun _ _ a w hs => by
    have h := ev_rel hs hc
    simp only [AV.Rel, SV.Rel] at h
    cases b with
    | true => exact ⟨a.eval x, by simp only [execOp, ho, h]; rfl, ev_rel hs (hx rfl)⟩
    | false => exact ⟨a.eval y, by simp only [execOp, ho, h]; rfl, ev_rel hs (hy rfl)⟩
theorem Y.ext0 {x : Operand} {v u : AV} (hu : Up cx ops F o) (ho : o.op = .extract x 0) (hx : evF F x = some (.two v u)) : Doing cx ops o F H ⟨v, [], []⟩ :=
  Doing.val hu fun _ _ a w hs => by
    obtain ⟨p, q, h, hp, _⟩ := ev_rel hs hx
    exact ⟨p, by simp only [execOp, ho, h]; rfl, hp⟩
theorem Y.ext1 {x : Operand} {v u : AV} (hu : Up cx ops F o) (ho : o.op = .extract x 1) (hx : evF F x = some (.two v u)) : Doing cx ops o F H ⟨u, [], []⟩ :=
  Doing.val hu fun _ _ a w hs => by
    obtain ⟨p, q, h, _, hq⟩ := ev_rel hs hx
    exact ⟨q, by simp only [execOp, ho, h]; rfl, hq⟩

/-! ### Whole numbers -/
theorem eqGuard_int {P : Program} {w : World} (op : BinOp) (T : TypeId) (x y : Operand) (k k' : IntKind) (m n : Int) : (eqGuard op T x y (.int k m) (.int k' n)).run P w = .ok () w := by
  cases op <;> rfl
theorem wrap_u {k : IntKind} {m : Nat} (hk : k.signed = false) (hm : 2 ^ k.bits = m) (x : Int) : k.wrap x = x % (m : Int) := by
  unfold IntKind.wrap
  rw [hk]
  simp only [Bool.false_and, Bool.false_eq_true, if_false]
  rw [← hm]; simp
theorem wrap_u_nat {k : IntKind} {m : Nat} (hk : k.signed = false) (hm : 2 ^ k.bits = m) (x : Nat) : k.wrap (x : Int) = ((x % m : Nat) : Int) := by
  rw [wrap_u hk hm]; simp
theorem wrap_i64 (x : Int) (h1 : -9223372036854775808 ≤ x) (h2 : x < 9223372036854775808) : IntKind.i64.wrap x = x := by
  have e : IntKind.i64.wrap x = (if x % 18446744073709551616 ≥ 9223372036854775808 then x % 18446744073709551616 - 18446744073709551616 else x % 18446744073709551616) := by
    simp [IntKind.wrap, IntKind.signed, IntKind.bits]
  rw [e]; split <;> omega

theorem fits.lt {k : IntKind} {M a : Nat} (h : fits k a) (hk : k.signed = false) (hm : 2 ^ k.bits = M) : a < M := by
  rcases h with h | h
  · rw [hk] at h; cases h
  · rw [← hm]; exact h
theorem fits.mk {k : IntKind} {M a : Nat} (hm : 2 ^ k.bits = M) (h : a < M) : fits k a := .inr (by rw [hm]; exact h)
theorem fits.i64 {a : Nat} : fits .i64 a := .inl rfl
theorem fits.le {k : IntKind} {a b : Nat} (h : fits k a) (hb : b ≤ a) : fits k b := h.imp id fun h => Nat.lt_of_le_of_lt hb h
theorem modlt {k : IntKind} {M : Nat} (hm : 2 ^ k.bits = M) (x : Nat) : x % M < M := Nat.mod_lt _ (by rw [← hm]; exact Nat.two_pow_pos _)

/-- Both operands are whole numbers of one kind. -/
theorem Y.bin {op : BinOp} {T T' : TypeId} {x y : Operand} {k : IntKind} {m n : Nat} {av : AV} (hu : Up cx ops F o) (ho : o.op = .binOp op T x y T') (hx : evF F x = some (.one (.n k m))) (hy : evF F y = some (.one (.n k n)))
    (h : fits k m → fits k n → ∀ (P : Program) (w : World) (ρ : Nat → Loc) (A : Nat → Prop), ∃ v, (binOp op T (.int k m) (.int k n)).run P w = .ok v w ∧ av.Rel ρ A w v) : Doing cx ops o F H ⟨av, [], []⟩ :=
  Doing.val hu fun ρ A a w hs => by
    obtain ⟨h1, f1⟩ := ev_rel hs hx
    obtain ⟨h2, f2⟩ := ev_rel hs hy
    obtain ⟨v, hv, hr⟩ := h f1 f2 cx.P w ρ A
    exact ⟨v, by simp only [execOp, ho, h1, h2, Sem.run_bind, eqGuard_int, Result.andThen_ok, hv, Sem.run_pure], hr⟩

theorem binOp_int {op : BinOp} {T : TypeId} {k : IntKind} {m n : Int} (h : op ≠ .shl ∧ op ≠ .shr) : binOp op T (.int k m) (.int k n) =
    match op with
    | .add | .sub | .mul => Op.intArith op k m n
    | .quo | .rem => Op.intDiv op k m n
    | .and | .or | .xor | .andNot => Op.intBits op k m n
    | _ => Op.intCmp op m n := by
  cases op <;> first | (simp [binOp]; done) | exact absurd rfl h.1 | exact absurd rfl h.2

section u
variable {T T' : TypeId} {x y : Operand} {k : IntKind} {M a b : Nat} (hk : k.signed = false) (hm : 2 ^ k.bits = M)
include hk hm
theorem Y.add (hu : Up cx ops F o) (ho : o.op = .binOp .add T x y T') (hx : evF F x = some (.one (.n k a))) (hy : evF F y = some (.one (.n k b))) : Doing cx ops o F H ⟨.one (.n k ((a + b) % M)), [], []⟩ :=
  Y.bin hu ho hx hy fun _ _ P w _ _ => ⟨_, by rw [binOp_int (by simp)]; rfl, by rw [← Int.natCast_add, wrap_u_nat hk hm], fits.mk hm (modlt hm _)⟩
theorem Y.mul (hu : Up cx ops F o) (ho : o.op = .binOp .mul T x y T') (hx : evF F x = some (.one (.n k a))) (hy : evF F y = some (.one (.n k b))) : Doing cx ops o F H ⟨.one (.n k (a * b % M)), [], []⟩ :=
  Y.bin hu ho hx hy fun _ _ P w _ _ => ⟨_, by rw [binOp_int (by simp)]; rfl, by rw [← Int.natCast_mul, wrap_u_nat hk hm], fits.mk hm (modlt hm _)⟩
theorem Y.sub (hu : Up cx ops F o) (ho : o.op = .binOp .sub T x y T') (hx : evF F x = some (.one (.n k a))) (hy : evF F y = some (.one (.n k b))) : Doing cx ops o F H ⟨.one (.n k ((a + (M - b)) % M)), [], []⟩ :=
  Y.bin hu ho hx hy fun _ fb P w _ _ => ⟨_, by rw [binOp_int (by simp)]; rfl, by
    have hb : b ≤ M := Nat.le_of_lt (fb.lt hk hm)
    rw [wrap_u hk hm]
    congr 1
    rw [Int.natCast_emod, Int.natCast_add, Int.ofNat_sub hb, show (a : Int) + ((M : Int) - b) = (a - b) + M by omega, Int.add_emod_right], fits.mk hm (modlt hm _)⟩
theorem Y.subLe (hu : Up cx ops F o) (ho : o.op = .binOp .sub T x y T') (hx : evF F x = some (.one (.n k a))) (hy : evF F y = some (.one (.n k b))) (hb : b ≤ a) : Doing cx ops o F H ⟨.one (.n k (a - b)), [], []⟩ :=
  Y.bin hu ho hx hy fun fa _ P w _ _ => ⟨_, by rw [binOp_int (by simp)]; rfl, by
    have ha := fa.lt hk hm
    rw [wrap_u hk hm, Int.ofNat_sub hb, Int.emod_eq_of_lt (by omega) (by omega)], fa.le (Nat.sub_le _ _)⟩
theorem Y.quo (hu : Up cx ops F o) (ho : o.op = .binOp .quo T x y T') (hx : evF F x = some (.one (.n k a))) (hy : evF F y = some (.one (.n k b))) (hb : b ≠ 0) : Doing cx ops o F H ⟨.one (.n k (a / b)), [], []⟩ :=
  Y.bin hu ho hx hy fun fa _ P w _ _ => ⟨_, by
    rw [binOp_int (by simp)]; simp only [Op.intDiv]; rw [if_neg (by omega)]; rfl, by
    rw [show (a : Int).tdiv (b : Int) = ((a / b : Nat) : Int) from (Int.ofNat_tdiv a b).symm, wrap_u_nat hk hm, Nat.mod_eq_of_lt (Nat.lt_of_le_of_lt (Nat.div_le_self a b) (fa.lt hk hm))], fa.le (Nat.div_le_self _ _)⟩
omit hk in
theorem bitsN (hM : a < M) : (BitVec.ofInt k.bits (a : Int)).toNat = a := by
  rw [BitVec.toNat_ofInt]
  rw [hm, ← Int.natCast_emod, Int.toNat_natCast, Nat.mod_eq_of_lt hM]
theorem Y.and (hu : Up cx ops F o) (ho : o.op = .binOp .and T x y T') (hx : evF F x = some (.one (.n k a))) (hy : evF F y = some (.one (.n k b))) : Doing cx ops o F H ⟨.one (.n k (a &&& b)), [], []⟩ :=
  Y.bin hu ho hx hy fun fa fb P w _ _ => ⟨_, by rw [binOp_int (by simp)]; rfl, by
    have ha := fa.lt hk hm
    have hb := fb.lt hk hm
    simp only [BitVec.toNat_and]
    rw [bitsN hm ha, bitsN hm hb, wrap_u_nat hk hm, Nat.mod_eq_of_lt (Nat.lt_of_le_of_lt Nat.and_le_left ha)], fa.le Nat.and_le_left⟩
omit hk in
theorem lt_pow (hM : a < M) : a < 2 ^ k.bits := by rw [hm]; exact hM
theorem Y.or (hu : Up cx ops F o) (ho : o.op = .binOp .or T x y T') (hx : evF F x = some (.one (.n k a))) (hy : evF F y = some (.one (.n k b))) : Doing cx ops o F H ⟨.one (.n k (a ||| b)), [], []⟩ :=
  Y.bin hu ho hx hy fun fa fb P w _ _ => ⟨_, by rw [binOp_int (by simp)]; rfl, by
    have ha := fa.lt hk hm
    have hb := fb.lt hk hm
    simp only [BitVec.toNat_or]
    rw [bitsN hm ha, bitsN hm hb, wrap_u_nat hk hm, Nat.mod_eq_of_lt (by rw [← hm]; exact Nat.or_lt_two_pow (lt_pow hm ha) (lt_pow hm hb))], .inr (Nat.or_lt_two_pow (lt_pow hm (fa.lt hk hm)) (lt_pow hm (fb.lt hk hm)))⟩
theorem Y.xor (hu : Up cx ops F o) (ho : o.op = .binOp .xor T x y T') (hx : evF F x = some (.one (.n k a))) (hy : evF F y = some (.one (.n k b))) : Doing cx ops o F H ⟨.one (.n k (a ^^^ b)), [], []⟩ :=
  Y.bin hu ho hx hy fun fa fb P w _ _ => ⟨_, by rw [binOp_int (by simp)]; rfl, by
    have ha := fa.lt hk hm
    have hb := fb.lt hk hm
    simp only [BitVec.toNat_xor]
    rw [bitsN hm ha, bitsN hm hb, wrap_u_nat hk hm, Nat.mod_eq_of_lt (by rw [← hm]; exact Nat.xor_lt_two_pow (lt_pow hm ha) (lt_pow hm hb))], .inr (Nat.xor_lt_two_pow (lt_pow hm (fa.lt hk hm)) (lt_pow hm (fb.lt hk hm)))⟩
theorem Y.andNot (hu : Up cx ops F o) (ho : o.op = .binOp .andNot T x y T') (hx : evF F x = some (.one (.n k a))) (hy : evF F y = some (.one (.n k b))) : Doing cx ops o F H ⟨.one (.n k (a &&& (M - 1 - b))), [], []⟩ :=
  Y.bin hu ho hx hy fun fa fb P w _ _ => ⟨_, by rw [binOp_int (by simp)]; rfl, by
    have ha := fa.lt hk hm
    have hb := fb.lt hk hm
    simp only [BitVec.toNat_and, BitVec.toNat_not]
    rw [bitsN hm ha, bitsN hm hb, wrap_u_nat hk hm, hm, Nat.mod_eq_of_lt (Nat.lt_of_le_of_lt Nat.and_le_left ha)], fa.le Nat.and_le_left⟩
theorem Y.compl {o : Oper} (hu : Up cx ops F o) (ho : o.op = .unOp .xor T x) (hx : evF F x = some (.one (.n k a))) : Doing cx ops o F H ⟨.one (.n k (M - 1 - a)), [], []⟩ :=
  Doing.val hu fun _ _ act w hs => by
    obtain ⟨h1, fa⟩ := ev_rel hs hx
    have ha := fa.lt hk hm
    refine ⟨_, by simp only [execOp, ho, h1, Op.unary, hk, Bool.false_eq_true, if_false]; rfl, ?_, fits.mk hm (by omega)⟩
    simp only [BitVec.toNat_xor]
    have hmax : k.max = ((M - 1 : Nat) : Int) := by
      have hM : 1 ≤ M := by omega
      rw [Int.ofNat_sub hM, ← hm]
      simp [IntKind.max, hk]
    have hx : a ^^^ (2 ^ k.bits - 1) = M - 1 - a := by
      have h0 := BitVec.toNat_not (x := BitVec.ofNat k.bits a)
      have e1 : (~~~ (BitVec.ofNat k.bits a)).toNat = a ^^^ (2 ^ k.bits - 1) := by
        rw [← BitVec.xor_allOnes, BitVec.toNat_xor, BitVec.toNat_ofNat, BitVec.toNat_allOnes, Nat.mod_eq_of_lt (by rw [hm]; exact ha)]
      rw [← e1, h0, BitVec.toNat_ofNat, hm, Nat.mod_eq_of_lt ha]
    rw [hmax, bitsN hm (by omega), bitsN hm ha, wrap_u_nat hk hm]
    rw [← hm, Nat.xor_comm, hx, hm, Nat.mod_eq_of_lt (by omega)]
end u

section sh
variable {T T' : TypeId} {x y : Operand} {k k' : IntKind} {M a b : Nat} (hk : k.signed = false) (hm : 2 ^ k.bits = M)
include hk hm
theorem Y.shl (hu : Up cx ops F o) (ho : o.op = .binOp .shl T x y T') (hx : evF F x = some (.one (.n k a))) (hy : evF F y = some (.one (.n k' b))) : Doing cx ops o F H ⟨.one (.n k (a * 2 ^ b % M)), [], []⟩ :=
  Doing.val hu fun ρ A act w hs => by
    obtain ⟨h1, f1⟩ := ev_rel hs hx
    obtain ⟨h2, f2⟩ := ev_rel hs hy
    refine ⟨.int k (k.wrap ((a : Int) * 2 ^ (min b k.bits))), ?_, ?_, fits.mk hm (modlt hm _)⟩
    · simp only [execOp, ho, h1, h2, Sem.run_bind, eqGuard_int, Result.andThen_ok, binOp, Op.shift]
      rw [if_neg (by omega)]
      simp
    · have e : ((a : Int) * 2 ^ (min b k.bits)) = ((a * 2 ^ (min b k.bits) : Nat) : Int) := by simp
      rw [e, wrap_u_nat hk hm]
      congr 2
      rcases Nat.le_total b k.bits with h | h
      · rw [Nat.min_eq_left h]
      · rw [Nat.min_eq_right h, ← hm, Nat.mul_mod_left, show b = k.bits + (b - k.bits) by omega, Nat.pow_add, ← Nat.mul_assoc, Nat.mul_right_comm, Nat.mul_mod_left]
theorem Y.shr (hu : Up cx ops F o) (ho : o.op = .binOp .shr T x y T') (hx : evF F x = some (.one (.n k a))) (hy : evF F y = some (.one (.n k' b))) : Doing cx ops o F H ⟨.one (.n k (a / 2 ^ b)), [], []⟩ :=
  Doing.val hu fun ρ A act w hs => by
    obtain ⟨h1, f1⟩ := ev_rel hs hx
    obtain ⟨h2, f2⟩ := ev_rel hs hy
    have ha := f1.lt hk hm
    refine ⟨.int k ((a : Int).fdiv (2 ^ (min b k.bits))), ?_, ?_, f1.le (Nat.div_le_self _ _)⟩
    · simp only [execOp, ho, h1, h2, Sem.run_bind, eqGuard_int, Result.andThen_ok, binOp, Op.shift]
      rw [if_neg (by omega)]
      simp
    · have e : ((2 : Int) ^ (min b k.bits)) = ((2 ^ (min b k.bits) : Nat) : Int) := by simp
      rw [e, ← Int.ofNat_fdiv]
      congr 2
      rcases Nat.le_total b k.bits with h | h
      · rw [Nat.min_eq_left h]
      · rw [Nat.min_eq_right h, hm, Nat.div_eq_of_lt ha, Nat.div_eq_of_lt]
        exact Nat.lt_of_lt_of_le ha (by rw [← hm]; exact Nat.pow_le_pow_right (by omega) h)
end sh

section i
variable {T T' : TypeId} {x y : Operand} {k : IntKind} {a b : Nat}
theorem Y.rem (hu : Up cx ops F o) (ho : o.op = .binOp .rem T x y T') (hx : evF F x = some (.one (.n k a))) (hy : evF F y = some (.one (.n k b))) (hb : b ≠ 0) : Doing cx ops o F H ⟨.one (.n k (a % b)), [], []⟩ :=
  Y.bin hu ho hx hy fun fa fb P w _ _ => ⟨_, by
    rw [binOp_int (by simp)]; simp only [Op.intDiv]; rw [if_neg (by omega)]; rfl, by
    rw [show (a : Int).tmod (b : Int) = ((a % b : Nat) : Int) from (Int.ofNat_tmod a b).symm], fa.le (Nat.mod_le _ _)⟩
theorem Y.eql (hu : Up cx ops F o) (ho : o.op = .binOp .eql T x y T') (hx : evF F x = some (.one (.n k a))) (hy : evF F y = some (.one (.n k b))) : Doing cx ops o F H ⟨.one (.b (decide (a = b))), [], []⟩ :=
  Y.bin hu ho hx hy fun fa fb P w _ _ => ⟨_, by rw [binOp_int (by simp)]; rfl, by
    simp only [AV.Rel, SV.Rel]; by_cases h : a = b
    · simp [h]
    · have : (a : Int) ≠ b := by omega
      simp [h, this]⟩
theorem Y.neq (hu : Up cx ops F o) (ho : o.op = .binOp .neq T x y T') (hx : evF F x = some (.one (.n k a))) (hy : evF F y = some (.one (.n k b))) : Doing cx ops o F H ⟨.one (.b (decide (a ≠ b))), [], []⟩ :=
  Y.bin hu ho hx hy fun fa fb P w _ _ => ⟨_, by rw [binOp_int (by simp)]; rfl, by
    simp only [AV.Rel, SV.Rel]; by_cases h : a = b
    · simp [h]
    · have : (a : Int) ≠ b := by omega
      simp [h, this]⟩
theorem Y.lss (hu : Up cx ops F o) (ho : o.op = .binOp .lss T x y T') (hx : evF F x = some (.one (.n k a))) (hy : evF F y = some (.one (.n k b))) : Doing cx ops o F H ⟨.one (.b (decide (a < b))), [], []⟩ :=
  Y.bin hu ho hx hy fun fa fb P w _ _ => ⟨_, by rw [binOp_int (by simp)]; rfl, by simp only [AV.Rel, SV.Rel]; congr 1; simp⟩
theorem Y.leq (hu : Up cx ops F o) (ho : o.op = .binOp .leq T x y T') (hx : evF F x = some (.one (.n k a))) (hy : evF F y = some (.one (.n k b))) : Doing cx ops o F H ⟨.one (.b (decide (a ≤ b))), [], []⟩ :=
  Y.bin hu ho hx hy fun fa fb P w _ _ => ⟨_, by rw [binOp_int (by simp)]; rfl, by simp only [AV.Rel, SV.Rel]; congr 1; simp⟩
theorem Y.gtr (hu : Up cx ops F o) (ho : o.op = .binOp .gtr T x y T') (hx : evF F x = some (.one (.n k a))) (hy : evF F y = some (.one (.n k b))) : Doing cx ops o F H ⟨.one (.b (decide (b < a))), [], []⟩ :=
  Y.bin hu ho hx hy fun fa fb P w _ _ => ⟨_, by rw [binOp_int (by simp)]; rfl, by simp only [AV.Rel, SV.Rel]; congr 1; simp⟩
theorem Y.geq (hu : Up cx ops F o) (ho : o.op = .binOp .geq T x y T') (hx : evF F x = some (.one (.n k a))) (hy : evF F y = some (.one (.n k b))) : Doing cx ops o F H ⟨.one (.b (decide (b ≤ a))), [], []⟩ :=
  Y.bin hu ho hx hy fun fa fb P w _ _ => ⟨_, by rw [binOp_int (by simp)]; rfl, by simp only [AV.Rel, SV.Rel]; congr 1; simp⟩
/-- On int, as long as nothing wraps. -/
theorem Y.addI (hu : Up cx ops F o) (ho : o.op = .binOp .add T x y T') (hx : evF F x = some (.one (.n .i64 a))) (hy : evF F y = some (.one (.n .i64 b))) (h : a + b < 9223372036854775808) : Doing cx ops o F H ⟨.one (.n .i64 (a + b)), [], []⟩ :=
  Y.bin hu ho hx hy fun fa fb P w _ _ => ⟨_, by rw [binOp_int (by simp)]; rfl, by
    rw [← Int.natCast_add, wrap_i64 _ (by omega) (by omega)], fits.i64⟩
theorem Y.mulI (hu : Up cx ops F o) (ho : o.op = .binOp .mul T x y T') (hx : evF F x = some (.one (.n .i64 a))) (hy : evF F y = some (.one (.n .i64 b))) (h : a * b < 9223372036854775808) : Doing cx ops o F H ⟨.one (.n .i64 (a * b)), [], []⟩ :=
  Y.bin hu ho hx hy fun fa fb P w _ _ => ⟨_, by rw [binOp_int (by simp)]; rfl, by
    rw [← Int.natCast_mul, wrap_i64 _ (by omega) (by omega)], fits.i64⟩
theorem Y.subI (hu : Up cx ops F o) (ho : o.op = .binOp .sub T x y T') (hx : evF F x = some (.one (.n .i64 a))) (hy : evF F y = some (.one (.n .i64 b))) (hb : b ≤ a) (ha : a < 9223372036854775808) : Doing cx ops o F H ⟨.one (.n .i64 (a - b)), [], []⟩ :=
  Y.bin hu ho hx hy fun fa fb P w _ _ => ⟨_, by rw [binOp_int (by simp)]; rfl, by
    rw [wrap_i64 _ (by omega) (by omega), Int.ofNat_sub hb], fits.i64⟩
theorem Y.quoI (hu : Up cx ops F o) (ho : o.op = .binOp .quo T x y T') (hx : evF F x = some (.one (.n .i64 a))) (hy : evF F y = some (.one (.n .i64 b))) (ha : a < 9223372036854775808) (hb : b ≠ 0) : Doing cx ops o F H ⟨.one (.n .i64 (a / b)), [], []⟩ :=
  Y.bin hu ho hx hy fun fa fb P w _ _ => ⟨_, by
    rw [binOp_int (by simp)]; simp only [Op.intDiv]; rw [if_neg (by omega)]; rfl, by
    have := Nat.div_le_self a b
    rw [show (a : Int).tdiv (b : Int) = ((a / b : Nat) : Int) from (Int.ofNat_tdiv a b).symm]
    generalize a / b = c at *
    rw [wrap_i64 _ (by omega) (by omega)], fits.i64⟩
end i

/-! ### ints that may be below 0 -/
def SV.int? : SV → Option Int
  | .n .i64 x => some x
  | .z x => some x
  | _ => none
theorem SV.int_rel {s : SV} {x : Int} (h : s.int? = some x) {ρ : Nat → Loc} {A : Nat → Prop} {w : World} {v : Value} (hv : s.Rel ρ A w v) : v = .int .i64 x := by
  cases s with
  | n k y => cases k <;> simp [SV.int?] at h; subst h; exact hv.1
  | z y => simp only [SV.int?, Option.some.injEq] at h; subst h; exact hv
  | _ => simp [SV.int?] at h
section z
variable {T T' : TypeId} {x y : Operand} {s t : SV} {a b : Int}
theorem Y.binZ {op : BinOp} {av : AV} (hu : Up cx ops F o) (ho : o.op = .binOp op T x y T') (hx : evF F x = some (.one s)) (hs : s.int? = some a) (hy : evF F y = some (.one t)) (ht : t.int? = some b)
    (h : ∀ (P : Program) (w : World) (ρ : Nat → Loc) (A : Nat → Prop), ∃ v, (binOp op T (.int .i64 a) (.int .i64 b)).run P w = .ok v w ∧ av.Rel ρ A w v) : Doing cx ops o F H ⟨av, [], []⟩ :=
  Doing.val hu fun ρ A act w hst => by
    have h1 := SV.int_rel hs (ev_rel hst hx)
    have h2 := SV.int_rel ht (ev_rel hst hy)
    obtain ⟨v, hv, hr⟩ := h cx.P w ρ A
    exact ⟨v, by simp only [execOp, ho, h1, h2, Sem.run_bind, eqGuard_int, Result.andThen_ok, hv, Sem.run_pure], hr⟩
theorem Y.addZ (hu : Up cx ops F o) (ho : o.op = .binOp .add T x y T') (hx : evF F x = some (.one s)) (hs : s.int? = some a) (hy : evF F y = some (.one t)) (ht : t.int? = some b) (h1 : -9223372036854775808 ≤ a + b) (h2 : a + b < 9223372036854775808) :
    Doing cx ops o F H ⟨.one (.z (a + b)), [], []⟩ :=
  Y.binZ hu ho hx hs hy ht fun P w _ _ => ⟨_, by rw [binOp_int (by simp)]; rfl, by simp only [AV.Rel, SV.Rel]; rw [wrap_i64 _ h1 h2]⟩
theorem Y.subZ (hu : Up cx ops F o) (ho : o.op = .binOp .sub T x y T') (hx : evF F x = some (.one s)) (hs : s.int? = some a) (hy : evF F y = some (.one t)) (ht : t.int? = some b) (h1 : -9223372036854775808 ≤ a - b) (h2 : a - b < 9223372036854775808) :
    Doing cx ops o F H ⟨.one (.z (a - b)), [], []⟩ :=
  Y.binZ hu ho hx hs hy ht fun P w _ _ => ⟨_, by rw [binOp_int (by simp)]; rfl, by simp only [AV.Rel, SV.Rel]; rw [wrap_i64 _ h1 h2]⟩
theorem Y.lssZ (hu : Up cx ops F o) (ho : o.op = .binOp .lss T x y T') (hx : evF F x = some (.one s)) (hs : s.int? = some a) (hy : evF F y = some (.one t)) (ht : t.int? = some b) : Doing cx ops o F H ⟨.one (.b (decide (a < b))), [], []⟩ :=
  Y.binZ hu ho hx hs hy ht fun P w _ _ => ⟨_, by rw [binOp_int (by simp)]; rfl, rfl⟩
theorem Y.gtrZ (hu : Up cx ops F o) (ho : o.op = .binOp .gtr T x y T') (hx : evF F x = some (.one s)) (hs : s.int? = some a) (hy : evF F y = some (.one t)) (ht : t.int? = some b) : Doing cx ops o F H ⟨.one (.b (decide (b < a))), [], []⟩ :=
  Y.binZ hu ho hx hs hy ht fun P w _ _ => ⟨_, by rw [binOp_int (by simp)]; rfl, rfl⟩
theorem Y.leqZ (hu : Up cx ops F o) (ho : o.op = .binOp .leq T x y T') (hx : evF F x = some (.one s)) (hs : s.int? = some a) (hy : evF F y = some (.one t)) (ht : t.int? = some b) : Doing cx ops o F H ⟨.one (.b (decide (a ≤ b))), [], []⟩ :=
  Y.binZ hu ho hx hs hy ht fun P w _ _ => ⟨_, by rw [binOp_int (by simp)]; rfl, rfl⟩
theorem Y.geqZ (hu : Up cx ops F o) (ho : o.op = .binOp .geq T x y T') (hx : evF F x = some (.one s)) (hs : s.int? = some a) (hy : evF F y = some (.one t)) (ht : t.int? = some b) : Doing cx ops o F H ⟨.one (.b (decide (b ≤ a))), [], []⟩ :=
  Y.binZ hu ho hx hs hy ht fun P w _ _ => ⟨_, by rw [binOp_int (by simp)]; rfl, rfl⟩
theorem Y.eqlZ (hu : Up cx ops F o) (ho : o.op = .binOp .eql T x y T') (hx : evF F x = some (.one s)) (hs : s.int? = some a) (hy : evF F y = some (.one t)) (ht : t.int? = some b) : Doing cx ops o F H ⟨.one (.b (decide (a = b))), [], []⟩ :=
  Y.binZ hu ho hx hs hy ht fun P w _ _ => ⟨_, by rw [binOp_int (by simp)]; rfl, rfl⟩
theorem Y.negZ (hu : Up cx ops F o) (ho : o.op = .unOp .neg T x) (hx : evF F x = some (.one s)) (hs : s.int? = some a) (h1 : -9223372036854775808 < a) (h2 : a ≤ 9223372036854775808) : Doing cx ops o F H ⟨.one (.z (-a)), [], []⟩ :=
  Doing.val hu fun ρ A act w hst => by
    have h := SV.int_rel hs (ev_rel hst hx)
    refine ⟨_, by simp only [execOp, ho, h, Op.unary, Op.intArith]; rfl, ?_⟩
    simp only [AV.Rel, SV.Rel]
    rw [wrap_i64 _ (by omega) (by omega), Int.zero_sub]
end z
theorem Y.not {T : TypeId} {x : Operand} {b : Bool} (hu : Up cx ops F o) (ho : o.op = .unOp .not T x) (hx : evF F x = some (.one (.b b))) : Doing cx ops o F H ⟨.one (.b (!b)), [], []⟩ :=
  Doing.val hu fun ρ A act w hst => by
    have h := ev_rel hst hx
    simp only [AV.Rel, SV.Rel] at h
    exact ⟨_, by simp only [execOp, ho, h, Op.unary]; rfl, rfl⟩

/-- A number that is not below 0 is one of the others. -/
theorem Holds.nat {S : Ls} {G : Act → World → Prop} (t : Nat) {x : Int} (ht : lk t S.fr = some (.one (.z x))) (n : Nat) (hn : x = n) (h : Holds cx ⟨(t, .one (.n .i64 n)) :: S.fr, S.hp⟩ G) : Holds cx S G := by
  intro ρ A a w hs
  refine h ρ A a w ⟨hs.df, hs.sz, ?_, hs.hp, hs.sep, hs.A1, hs.O, hs.fm, hs.E⟩
  intro s v hv
  simp only [Ls.F, lk] at hv
  split at hv
  · rename_i he
    subst he
    cases hv
    have := hs.fr s _ ht
    simp only [AV.Rel, SV.Rel] at this ⊢
    rw [this, hn]
    exact ⟨rfl, fits.i64⟩
  · exact hs.fr s v hv

/-! ### Conversions of whole numbers -/
section conv
variable {T T' : TypeId} {x : Operand} {k k' : IntKind} {M a : Nat}
theorem run_convert_int {P : Program} {w : World} {src dst : TypeId} {d : TypeDesc} (hsrc : P.underlying src = some d) (hd : P.underlying dst = some (.int k')) (n : Int) : (convert src dst (.int k n)).run P w = .ok (.int k' (k'.wrap n)) w := by
  unfold convert
  simp only [Sem.run_bind, run_underlying hsrc, run_underlying hd, Result.andThen_ok]
  cases d <;> rfl
theorem Y.conv {dS : TypeDesc} (hS : cx.P.underlying T = some dS) (hT : cx.P.underlying T' = some (.int k')) (hk : k'.signed = false) (hm : 2 ^ k'.bits = M) (hu : Up cx ops F o) (ho : o.op = .convert T T' x) (hx : evF F x = some (.one (.n k a))) :
    Doing cx ops o F H ⟨.one (.n k' (a % M)), [], []⟩ :=
  Doing.val hu fun ρ A act w hst => by
    obtain ⟨h, _⟩ := ev_rel hst hx
    exact ⟨_, by simp only [execOp, ho, h, Sem.run_bind, run_convert_int hS hT, Result.andThen_ok, Sem.run_pure]; rfl, by rw [wrap_u_nat hk hm], fits.mk hm (modlt hm _)⟩
/-- ... that fits. -/
theorem Y.convLt {dS : TypeDesc} (hS : cx.P.underlying T = some dS) (hT : cx.P.underlying T' = some (.int k')) (hk : k'.signed = false) (hm : 2 ^ k'.bits = M) (hu : Up cx ops F o) (ho : o.op = .convert T T' x) (hx : evF F x = some (.one (.n k a))) (ha : a < M) :
    Doing cx ops o F H ⟨.one (.n k' a), [], []⟩ := by
  have := Y.conv (H := H) hS hT hk hm hu ho hx
  rwa [Nat.mod_eq_of_lt ha] at this
theorem Y.convI {dS : TypeDesc} (hS : cx.P.underlying T = some dS) (hT : cx.P.underlying T' = some (.int .i64)) (hu : Up cx ops F o) (ho : o.op = .convert T T' x) (hx : evF F x = some (.one (.n k a))) (ha : a < 9223372036854775808) :
    Doing cx ops o F H ⟨.one (.n .i64 a), [], []⟩ :=
  Doing.val hu fun ρ A act w hst => by
    obtain ⟨h, _⟩ := ev_rel hst hx
    exact ⟨_, by simp only [execOp, ho, h, Sem.run_bind, run_convert_int hS hT, Result.andThen_ok, Sem.run_pure]; rfl, by rw [wrap_i64 _ (by omega) (by omega)], fits.i64⟩
/-- To a wider kind. -/
theorem Y.convUp {dS : TypeDesc} (hS : cx.P.underlying T = some dS) (hT : cx.P.underlying T' = some (.int k')) (hk : k.signed = false) (hk' : k'.signed = false) (hb : k.bits ≤ k'.bits) (hu : Up cx ops F o) (ho : o.op = .convert T T' x) (hx : evF F x = some (.one (.n k a))) :
    Doing cx ops o F H ⟨.one (.n k' a), [], []⟩ :=
  Doing.val hu fun ρ A act w hst => by
    obtain ⟨h, hf⟩ := ev_rel hst hx
    have hlt : a < 2 ^ k'.bits := Nat.lt_of_lt_of_le (hf.lt hk rfl) (Nat.pow_le_pow_right (by omega) hb)
    exact ⟨_, by simp only [execOp, ho, h, Sem.run_bind, run_convert_int hS hT, Result.andThen_ok, Sem.run_pure]; rfl, by rw [wrap_u_nat hk' rfl, Nat.mod_eq_of_lt hlt], .inr hlt⟩
theorem Y.convUpI {dS : TypeDesc} (hS : cx.P.underlying T = some dS) (hT : cx.P.underlying T' = some (.int .i64)) (hk : k.signed = false) (hb : k.bits < 64) (hu : Up cx ops F o) (ho : o.op = .convert T T' x) (hx : evF F x = some (.one (.n k a))) :
    Doing cx ops o F H ⟨.one (.n .i64 a), [], []⟩ :=
  Doing.val hu fun ρ A act w hst => by
    obtain ⟨h, hf⟩ := ev_rel hst hx
    have hlt : a < 2 ^ 63 := Nat.lt_of_lt_of_le (hf.lt hk rfl) (Nat.pow_le_pow_right (by omega) (by omega))
    exact ⟨_, by simp only [execOp, ho, h, Sem.run_bind, run_convert_int hS hT, Result.andThen_ok, Sem.run_pure]; rfl, by rw [wrap_i64 _ (by omega) (by omega)], fits.i64⟩
theorem Y.convZ {dS : TypeDesc} {z : Int} (hS : cx.P.underlying T = some dS) (hT : cx.P.underlying T' = some (.int k')) (hk : k'.signed = false) (hm : 2 ^ k'.bits = M) (hu : Up cx ops F o) (ho : o.op = .convert T T' x) (hx : evF F x = some (.one (.z z))) :
    Doing cx ops o F H ⟨.one (.n k' (z % (M : Int)).toNat), [], []⟩ :=
  Doing.val hu fun ρ A act w hst => by
    have h := ev_rel hst hx
    simp only [AV.Rel, SV.Rel] at h
    have hM0 : 0 < M := by rw [← hm]; exact Nat.two_pow_pos _
    have hM : (M : Int) ≠ 0 := by omega
    exact ⟨_, by simp only [execOp, ho, h, Sem.run_bind, run_convert_int hS hT, Result.andThen_ok, Sem.run_pure]; rfl, by
      rw [wrap_u hk hm, Int.toNat_of_nonneg (Int.emod_nonneg _ hM)], fits.mk hm (by have := Int.emod_lt_of_pos z (show (0 : Int) < M by omega); omega)⟩
end conv

end
end Go.Fx
