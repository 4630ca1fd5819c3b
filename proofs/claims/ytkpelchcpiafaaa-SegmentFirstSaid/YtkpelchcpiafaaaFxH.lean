/-
  FxH: a part of a list of slices; a buffer of whatever bytes (bytealg.MakeNoZero).
-/
import Derived.Test.YtkpelchcpiafaaaFxF
import Derived.Lib.MakeNoZero
namespace Go.Fx
set_option linter.unusedVariables false
set_option linter.unusedSimpArgs false
section
variable {cx : Cx} {ops : Array Oper} {o : Oper} {F : Nat → Option AV} {H : Nat → Option Bk}
theorem getD_take_drop' {α : Type} {xs : List α} {l h i : Nat} {z : α} (hi : i < h - l) : ((xs.drop l).take (h - l)).getD i z = xs.getD (l + i) z := by
  simp [List.getD_eq_getElem?_getD, List.getElem?_take_of_lt hi]
theorem Y.slBss {T E n by' bz l h : Nat} {d : TypeDesc} {z zz : Cs} {x : Operand} {lo hi : Option Operand} {ex : Bool} {xs : List (List Nat)} (hT : TyI cx.P T (.slice E) n by' z) (hE : TyI cx.P E d 1 bz zz) (hu : Up cx ops F o) (ho : o.op = .slice T x lo hi none) (hx : evF F x = some (.one (.bss ex xs)))
    (hlo : Bnd F lo 0 l) (hhi : Bnd F hi xs.length h) (h1 : l ≤ h) (h2 : h ≤ xs.length) : Doing cx ops o F H ⟨.one (.bss false ((xs.drop l).take (h - l))), [], []⟩ :=
  Doing.val hu fun ρ A a w hs => by
    obtain ⟨ad, cap, hv, hcap, _, h0⟩ := ev_rel hs hx
    have hr := run_bounds hs (len := xs.length) (cap := cap) hlo hhi h1 (by omega) true
    refine ⟨.slice (if cap = l then ad else ad.map (·.add (l * 1))) (h - l) (cap - l), ?_, ?_⟩
    · simp only [execOp, ho, hv, Instr.sliceAt, Instr.slice, Option.map_none, Sem.run_bind, Sem.run_pure, Result.andThen_ok, hT.run_und w, hr, hE.run_size w]
    · have := Imm.slice (ex := false) hcap h0 h1 h2 (cap' := cap) (by omega) (Nat.le_refl _) (fun h => nomatch h)
      simp only [AV.Rel, SV.Rel]
      rw [show ((xs.drop l).take (h - l)).length = h - l by simp; omega]
      exact this.mono (fun _ _ _ => rfl) (Nat.le_refl _) (fun _ _ h => h) (fun i u hi hc => by rw [getD_take_drop' hi]; exact hc)
end
section
variable {cx : Cx} {ops : Array Oper} {o : Oper} {F : Nat → Option AV} {H : Nat → Option Bk}
/-- A list of bytes that the text writes out is turned into itself. -/
theorem Y.cvS {T E n by' bz id off len : Nat} {z zz c : Cs} {x : Operand} (hT : TyI cx.P T (.slice E) n by' z) (hE : TyI cx.P E (.int .u8) 1 bz zz) (hu : Up cx ops F o) (ho : o.op = .convert T T x) (hx : evF F x = some (.one (.sg id off len))) (hb : H id = some (.own c)) (hl : len ≠ 0) :
    Doing cx ops o F H ⟨.one (.sg id off len), [(id, .own c)], []⟩ := by
  intro F' H' hF hH _ ρ A a w hst K Q hK
  have hst0 := hst.sub hF hH
  unfold StepOp
  rw [if_pos (hu.wanted hst0)]
  obtain ⟨ad, cap, hv, hcap, h0⟩ := ev_rel hst0 hx
  obtain ⟨rfl, hoff⟩ : ad = some ⟨(ρ id).blk, (ρ id).off + off, none⟩ ∧ off + cap ≤ (ρ id).size := by
    rcases h0 with h0 | h0
    · omega
    · exact h0
  have hown := hst0.hp id _ hb
  obtain ⟨r1, r2, cs, T', fz, r3, r4, r5, r6⟩ := OwnB.real hown (by omega)
  have hlt : (ρ id).blk < w.heap.size := by
    rcases Nat.lt_or_ge (ρ id).blk w.heap.size with h' | h'
    · exact h'
    · simp [Array.getElem?_eq_none h'] at r3
  have hsh : w.shape? (ρ id).blk = some (T', cs.size) := by simp [World.shape?, r3]
  obtain ⟨fz', hfz, hfr⟩ : ∃ fz', Unfrozen fz' cs.size ∧ w.freeze ⟨(ρ id).blk, cs.size, none⟩ 1 = { w with heap := w.heap.setIfInBounds (ρ id).blk (.cells cs T' fz') } := by
    refine ⟨if fz.1 == fz.2 then (cs.size, cs.size + 1) else (Min.min fz.1 cs.size, Max.max fz.2 (cs.size + 1)), ?_, ?_⟩
    · rcases r5 with h | h
      · rw [if_pos (by simpa using h)]; exact .inr (Nat.le_refl _)
      · split
        · exact .inr (Nat.le_refl _)
        · exact .inr (by simp; omega)
    · unfold World.freeze
      rw [if_neg (by decide)]
      have : ∀ (a : Array Obj) (i : Nat) (x : Obj) (f : Obj → Obj), a[i]? = some x → a.modify i f = a.setIfInBounds i (f x) := by
        intro a i x f hx
        have hi : i < a.size := by
          rcases Nat.lt_or_ge i a.size with h | h
          · exact h
          · simp [Array.getElem?_eq_none h] at hx
        apply Array.ext_getElem?
        intro j
        rw [Array.getElem?_modify, Array.getElem?_setIfInBounds]
        by_cases hij : i = j
        · subst hij
          have hx2 : a[i] = x := by rw [Array.getElem?_eq_getElem hi] at hx; exact Option.some.inj hx
          simp [hi, hx2]
        · simp [hij]
      rw [this _ _ _ _ r3]
  have hrun : (execOp a.eval o).run cx.P w = .ok (.value (a.eval x)) { w with heap := w.heap.setIfInBounds (ρ id).blk (.cells cs T' fz') } := by
    simp only [execOp, ho, hv, convert, Sem.run_bind, hT.run_und w, hE.run_und w, Result.andThen_ok, beq_self_eq_true, markStringish, run_shape, hsh, run_freeze, hfr, Sem.run_pure]
  unfold Oper.wp
  rw [hrun]
  refine hK _ _ ρ A ?_
  rw [ovr_cons, ovr_nil]
  refine (hst.writeF (hH _ _ hb) trivial r1 (by omega) (fz' := fz') (fun _ => hfz) r3 rfl rfl (c' := c) r2 (fun j hj => r6 j hj) (.inl rfl)).put hu.d ?_
  exact ⟨_, cap, hv, hcap, .inr ⟨rfl, hoff⟩⟩
end
/-- Own slices in a list of the call's own, each seen as bytes that nobody writes. -/
inductive Vs (H : Nat → Option Bk) : List SV → List (List Nat) → Prop
  | nil : Vs H [] []
  | cons (s : SV) (xs : List Nat) (l : List SV) (xss : List (List Nat)) : View H (.one s) (.one (.bs false .u8 xs)) → Vs H l xss → Vs H (s :: l) (xs :: xss)
theorem Vs.len {H : Nat → Option Bk} {l : List SV} {xss : List (List Nat)} (h : Vs H l xss) : xss.length = l.length := by
  induction h with
  | nil => rfl
  | cons s xs l xss _ _ ih => simp [ih]
theorem Vs.at {H : Nat → Option Bk} {l : List SV} {xss : List (List Nat)} (h : Vs H l xss) : ∀ i, i < l.length → View H (.one (l.getD i .u)) (.one (.bs false .u8 (xss.getD i []))) := by
  induction h with
  | nil => intro i hi; simp at hi
  | cons s xs l xss h _ ih =>
    intro i hi
    cases i with
    | zero => exact h
    | succ i => exact ih i (by simpa using hi)
theorem View.sgsL {H : Nat → Option Bk} {id len : Nat} {l : List SV} {xss : List (List Nat)} (hb : H id = some (.own (.mix l))) (hv : Vs H l xss) (hl : len = l.length) : View H (.one (.sg id 0 len)) (.one (.bss false xss)) := by
  subst hl
  exact .sgs id 0 l.length _ l xss hb (.inl rfl) (by omega) hv.len (fun i hi => by rw [Nat.zero_add]; exact hv.at i hi)
theorem Vs.map {H : Nat → Option Bk} : ∀ (xss : List (List Nat)), Vs H (xss.map fun xs => .bs false .u8 xs) xss
  | [] => .nil
  | xs :: xss => .cons _ _ _ _ (.same _) (Vs.map xss)
theorem View.mixl {H : Nat → Option Bk} {id len : Nat} {xss : List (List Nat)} (hb : H id = some (.own (.mix (xss.map fun xs => .bs false .u8 xs)))) (hl : len = xss.length) : View H (.one (.sg id 0 len)) (.one (.bss false xss)) :=
  .sgsL hb (Vs.map xss) (by rw [List.length_map]; exact hl)
theorem App.mL {xss : List (List Nat)} {z : List Nat} : App (.mix (xss.map fun xs => .bs false .u8 xs)) (.mix [.bs false .u8 z]) (.mix ((xss ++ [z]).map fun xs => .bs false .u8 xs)) := by
  rw [List.map_append]; exact App.m
theorem ids_mixl (xss : List (List Nat)) : (xss.map fun xs => SV.bs false .u8 xs).flatMap SV.ids = [] := by
  induction xss with
  | nil => rfl
  | cons x xss _ => simp [SV.ids]
theorem mlEq {xss yss : List (List Nat)} (h : xss = yss) {τ : List (Nat × Nat)} : some (Bk.own (.mix (xss.map fun xs => .bs false .u8 xs))) = some (Bk.ren τ (.own (.mix (yss.map fun xs => .bs false .u8 xs)))) := by
  rw [h]
  simp only [Bk.ren, Cs.ren, List.map_map]
  rfl
theorem digits_get : ∀ (n t : Nat) (acc : Array Value) (j : Nat), j < acc.size + n → (∀ i, i < acc.size → ∃ x : Nat, x < 256 ∧ acc[i]? = some (.int .u8 x)) → ∃ x : Nat, x < 256 ∧ (Extern.BytealgMakeNoZero.digits n t acc)[j]? = some (.int .u8 x)
  | 0, _, acc, j, hj, h => h j (by omega)
  | n + 1, t, acc, j, hj, h => by
    rw [Extern.BytealgMakeNoZero.digits]
    refine digits_get n (t / 256) _ j (by simp; omega) fun i hi => ?_
    rw [Array.getElem?_push]
    split
    · exact ⟨t % 256, Nat.mod_lt _ (by decide), rfl⟩
    · rw [Array.size_push] at hi
      exact h i (by omega)
theorem run_mnz {P : Program} (w : World) (ps : Array TypeId) (t e : TypeId) (ht : P.underlying t = some (.slice e)) (n : Nat) (hn : n ≤ 281474976710656) :
    ∃ cs : Array Value, (Extern.BytealgMakeNoZero.makeNoZero ps #[t] #[.int .i64 n]).run P w = .ok (.slice (some ⟨w.heap.size, 0, none⟩) n cs.size) (w.drew.drew.alloc (.cells cs e)) ∧ n ≤ cs.size ∧ ∀ j, j < cs.size → ∃ x : Nat, x < 256 ∧ cs[j]? = some (.int .u8 x) := by
  have hdef : Extern.BytealgMakeNoZero.makeNoZero ps #[t] #[.int .i64 n] =
      (do
        let .slice elem ← underlying t | stuck "bytealg.MakeNoZero: slice type expected"
        if (n : Int) < 0 || (n : Int) > 2 ^ 48 then runtimePanic (.error "makeslice: len out of range")
        let cap ← choose (.appendCap (n : Int).toNat 0 elem)
        askRoom cap
        let bytes ← choose (.extern "internal/bytealg.MakeNoZero.bytes" 0)
        let a ← newRow elem (Extern.BytealgMakeNoZero.digits cap bytes #[])
        pure (.slice (some a) (n : Int).toNat cap)) := rfl
  refine ⟨Extern.BytealgMakeNoZero.digits (grownCap w n 0 e) ((Question.extern "internal/bytealg.MakeNoZero.bytes" 0).cut (w.tape (w.drawn + 1) (.extern "internal/bytealg.MakeNoZero.bytes" 0))) #[], ?_, ?_, ?_⟩
  · rw [hdef]
    have h1 : ¬ (n : Int) < 0 := by omega
    have h2 : ¬ (281474976710656 : Int) < (n : Int) := by omega
    simp [run_underlying ht, h1, h2, Question.forced, newRow, Lib.size_digits, grownCap]
  · rw [Lib.size_digits]
    simpa using grownCap_ge w n 0 e
  · intro j hj
    rw [Lib.size_digits] at hj
    exact digits_get _ _ _ j hj fun i hi => by simp at hi
def byteOf : Option Value → Nat
  | some (.int _ x) => x.toNat
  | _ => 0
theorem OpsFrom.mnz {cx : Cx} {fr : List (Nat × AV)} {hp : List (Nat × Bk)} {ops rest : List Oper} {i d f n T E : Nat} {o : Oper} {q x : Operand} {ps ats : Array TypeId} {Q : Exit → Act → World → Prop}
    (hf : ExtOK cx.P f (Extern.BytealgMakeNoZero.makeNoZero ps #[T])) (hT : cx.P.underlying T = some (.slice E)) (hu : Up cx ops.toArray (Ls.F ⟨fr, hp⟩) o) (ho : o.op = .call { callee := .value q, args := #[x], argTypes := ats }) (hq : evF (Ls.F ⟨fr, hp⟩) q = some (.one (.fn f [])))
    (hx : evF (Ls.F ⟨fr, hp⟩) x = some (.one (.n .i64 n))) (hn : n ≤ 281474976710656) (hdst : o.dst = some d) (hfr : Ls.nomB ⟨fr, hp⟩ cx.E d = true)
    (k : ∀ ys : List Nat, ys.length = n → OpsFrom cx ⟨(d, .one (.sg d 0 n)) :: fr, (d, .own (.ints .u8 ys)) :: hp⟩ ops (i + 1) rest Q) : OpsFrom cx ⟨fr, hp⟩ ops i (o :: rest) Q := by
  intro hr
  have ho' : ops[i]? = some o := by
    have := congrArg (·[0]?) hr
    simpa using this
  have hr' : ops.drop (i + 1) = rest := by
    have := congrArg (List.drop 1) hr
    rw [List.drop_drop] at this
    simpa using this
  intro ρ A a w hs
  show wpOps cx.P ops.toArray Q (i :: List.range' (i + 1) rest.length) a w
  rw [wpOps_cons]
  refine StepOp.wpOp (by simpa using ho') ?_
  unfold StepOp
  rw [if_pos (hu.wanted hs)]
  have hqr := ev_rel hs hq
  simp only [AV.Rel, SV.Rel, List.map_nil] at hqr
  obtain ⟨h1, _⟩ := ev_rel hs hx
  obtain ⟨cs, hrun, hcn, hcell⟩ := run_mnz w ps T E hT n hn
  have hn' := Ls.nomB_spec hfr
  let ys : List Nat := (List.range n).map fun j => byteOf cs[j]?
  have hys : ys.length = n := by simp [ys]
  have hget : ∀ j, j < n → cs[j]? = some (.int .u8 (ys.getD j 0 : Nat)) ∧ ys.getD j 0 < 256 := by
    intro j hj
    obtain ⟨x, hx, hc⟩ := hcell j (by omega)
    have : ys.getD j 0 = x := by
      simp only [ys, List.getD_eq_getElem?_getD]
      rw [List.getElem?_map, List.getElem?_range hj]
      simp [hc, byteOf]
    rw [this]; exact ⟨hc, hx⟩
  have h2 : (execOp a.eval o).run cx.P w = .ok (.value (.slice (some ⟨w.heap.size, 0, none⟩) n cs.size)) (w.drew.drew.alloc (.cells cs E)) := by
    rw [run_call_ext (xs := [x]) hf ho hqr]
    simp only [List.map_cons, List.map_nil, h1]
    rw [hrun]
    rfl
  unfold Oper.wp
  rw [h2]
  refine k ys hys hr' (upd' ρ d ⟨w.heap.size, 0, cs.size, true⟩) (fun b => A b ∨ b = w.heap.size) _ _ ?_
  have hF : (Ls.F ⟨(d, .one (.sg d 0 n)) :: fr, (d, .own (.ints .u8 ys)) :: hp⟩) = updO (Ls.F ⟨fr, hp⟩) o.dst (.one (.sg d 0 n)) := by
    rw [hdst]; funext t; simp only [Ls.F, updO, upd, lk]
  have hH : (Ls.H ⟨(d, .one (.sg d 0 n)) :: fr, (d, .own (.ints .u8 ys)) :: hp⟩) = upd (Ls.H ⟨fr, hp⟩) d (.own (.ints .u8 ys)) := by
    funext t; simp only [Ls.H, upd, lk]
  rw [hF, hH]
  exact (hs.alloc hn' (w' := w.drew.drew.alloc (.cells cs E)) (fz := (0, 0)) ⟨rfl, rfl, rfl, rfl⟩ (unfrozen0 _) (c := .ints .u8 ys) (by simp only [Cs.len, hys]; exact hcn) (fun j hj => by
    simp only [Cs.len, hys] at hj
    obtain ⟨g1, g2⟩ := hget j hj
    exact ⟨_, g1, rfl, .inr g2⟩) List.not_mem_nil (.inl rfl)).put hu.d ((NewV.sli (d := d) w.heap.size cs.size n cs.size hcn (Nat.le_refl _)).rel (by simp [upd']))
end Go.Fx
