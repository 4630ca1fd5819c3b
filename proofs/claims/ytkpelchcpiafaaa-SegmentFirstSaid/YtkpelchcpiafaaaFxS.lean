/-
  FxS: the same rules in the form in which a printed walk uses them: one step, one line.
-/
import Derived.Test.YtkpelchcpiafaaaFxR
namespace Go.Fx
open Go.RowKit (Below)

theorem u8s : IntKind.signed .u8 = false := rfl
theorem u16s : IntKind.signed .u16 = false := rfl
theorem u32s : IntKind.signed .u32 = false := rfl
theorem u64s : IntKind.signed .u64 = false := rfl
theorem u8m : 2 ^ IntKind.bits .u8 = 256 := rfl
theorem u16m : 2 ^ IntKind.bits .u16 = 65536 := rfl
theorem u32m : 2 ^ IntKind.bits .u32 = 4294967296 := rfl
theorem u64m : 2 ^ IntKind.bits .u64 = 18446744073709551616 := rfl

/-- A fold over the numbers below n, the last one outermost. -/
def iter {α : Type} (f : Nat → α → α) : Nat → α → α
  | 0, a => a
  | n + 1, a => f n (iter f n a)

section
variable {cx : Cx} {ops : Array Oper} {o : Oper} {F : Nat → Option AV} {H : Nat → Option Bk}
theorem up0 {d : Nat} (hg : o.guard = none) (hd : o.dst = some d) (hlt : Nat.ble (d + 1) cx.nt = true) : Up cx ops F o := ⟨.inl hg, dlt hd (Nat.le_of_ble_eq_true hlt)⟩
theorem upN (hg : o.guard = none) (hd : o.dst = none) : Up cx ops F o := ⟨.inl hg, dno hd⟩
theorem up1 {d j t : Nat} {want : Bool} {oj : Oper} (hg : o.guard = some (j, want)) (hj : ops[j]? = some oj) (hjd : oj.dst = some t) (ht : F t = some (.one (.b want))) (hd : o.dst = some d) (hlt : Nat.ble (d + 1) cx.nt = true) : Up cx ops F o := ⟨.inr ⟨j, want, oj, t, hg, hj, hjd, ht⟩, dlt hd (Nat.le_of_ble_eq_true hlt)⟩
theorem upN1 {j t : Nat} {want : Bool} {oj : Oper} (hg : o.guard = some (j, want)) (hj : ops[j]? = some oj) (hjd : oj.dst = some t) (ht : F t = some (.one (.b want))) (hd : o.dst = none) : Up cx ops F o := ⟨.inr ⟨j, want, oj, t, hg, hj, hjd, ht⟩, dno hd⟩
end

/-- How long what is made of lists is. -/
theorem lens : (∀ (k : IntKind) (xs : List Nat), (Cs.ints k xs).len = xs.length) ∧ (∀ (k : IntKind) (xs : List Nat) (o n : Nat), (Cs.ints k xs).sub o n = .ints k ((xs.drop o).take n)) ∧ (∀ (xs : List Nat) (i v : Nat), (xs.set i v).length = xs.length) ∧
    (∀ (xs : List Nat) (n : Nat), (xs.take n).length = min n xs.length) ∧ (∀ (xs : List Nat) (n : Nat), (xs.drop n).length = xs.length - n) ∧ (∀ (xs ys : List Nat), (xs ++ ys).length = xs.length + ys.length) ∧ (∀ (n v : Nat), (List.replicate n v).length = n) ∧
    (∀ (x : Nat) (xs : List Nat), (x :: xs).length = xs.length + 1) ∧ (([] : List Nat).length = 0) ∧ (∀ (f : Nat → Nat) (xs : List Nat), (xs.map f).length = xs.length) ∧ (∀ (n : Nat), (List.range n).length = n) :=
  ⟨fun _ _ => rfl, fun _ _ _ _ => rfl, fun _ _ _ => List.length_set, fun _ _ => List.length_take, fun _ _ => List.length_drop, fun _ _ => List.length_append, fun _ _ => List.length_replicate, fun _ _ => rfl, rfl, fun _ _ => List.length_map _, fun _ => List.length_range⟩

/-! ### A region in the text's order -/
def OpsFrom (cx : Cx) (S : Ls) (ops : List Oper) (i : Nat) (rest : List Oper) (Q : Exit → Act → World → Prop) : Prop :=
  ops.drop i = rest → Holds cx S (wpOps cx.P ops.toArray Q (List.range' i rest.length))

section
variable {cx : Cx} {fr : List (Nat × AV)} {hp : List (Nat × Bk)} {ops rest : List Oper} {i d : Nat} {o : Oper} {av : AV} {up : List (Nat × Bk)} {fresh : List Nat} {Q : Exit → Act → World → Prop}
theorem Holds.reg {S : Ls} {id : Nat} {l : List Oper} (h : OpsFrom cx S l 0 l Q) : Holds cx S ((Code.region id l.toArray false).wp cx.P Q) := by
  refine Holds.region ?_
  rw [List.range_eq_range']
  exact h rfl
theorem OpsFrom.nil {S : Ls} (h : Holds cx S (Q .normal)) : OpsFrom cx S ops i [] Q := fun _ => Holds.ops_nil h
theorem OpsFrom.gen {S : Ls} {e : Ent} (hd : Doing cx ops.toArray o S.F S.H e) (hf : e.fresh.all (S.nomB cx.E) = true) (k : OpsFrom cx (S.eff o.dst e) ops (i + 1) rest Q) : OpsFrom cx S ops i (o :: rest) Q := by
  intro hr
  have ho : ops[i]? = some o := by
    have := congrArg (·[0]?) hr
    simpa using this
  have hr' : ops.drop (i + 1) = rest := by
    have := congrArg (List.drop 1) hr
    rw [List.drop_drop] at this
    simpa using this
  exact Holds.op (by simpa using ho) hd hf (k hr')
/-- A value for a slot. -/
theorem OpsFrom.v (hd : Doing cx ops.toArray o (Ls.F ⟨fr, hp⟩) (Ls.H ⟨fr, hp⟩) ⟨av, [], []⟩) (hdst : o.dst = some d) (k : OpsFrom cx ⟨(d, av) :: fr, hp⟩ ops (i + 1) rest Q) : OpsFrom cx ⟨fr, hp⟩ ops i (o :: rest) Q :=
  OpsFrom.gen hd rfl (by simpa only [Ls.eff, hdst, List.nil_append] using k)
/-- Nothing for a slot. -/
theorem OpsFrom.n (hd : Doing cx ops.toArray o (Ls.F ⟨fr, hp⟩) (Ls.H ⟨fr, hp⟩) ⟨av, up, []⟩) (hdst : o.dst = none) {hp' : List (Nat × Bk)} (he : up ++ hp = hp') (k : OpsFrom cx ⟨fr, hp'⟩ ops (i + 1) rest Q) : OpsFrom cx ⟨fr, hp⟩ ops i (o :: rest) Q :=
  OpsFrom.gen hd rfl (by subst he; simpa only [Ls.eff, hdst] using k)
/-- A value, and blocks. -/
theorem OpsFrom.u (hd : Doing cx ops.toArray o (Ls.F ⟨fr, hp⟩) (Ls.H ⟨fr, hp⟩) ⟨av, up, fresh⟩) (hdst : o.dst = some d) (hf : fresh.all (Ls.nomB ⟨fr, hp⟩ cx.E) = true) {hp' : List (Nat × Bk)} (he : up ++ hp = hp') (k : OpsFrom cx ⟨(d, av) :: fr, hp'⟩ ops (i + 1) rest Q) : OpsFrom cx ⟨fr, hp⟩ ops i (o :: rest) Q :=
  OpsFrom.gen hd hf (by subst he; simpa only [Ls.eff, hdst] using k)

/-! ### A region that draws -/
def CertK (cx : Cx) (ops : List Oper) (k : Nat) (S : Ls) (rest : List Oper) (info : List (List Nat × List Nat)) (G : Act → World → Prop) : Prop :=
  ops.drop k = rest → k ≤ ops.length → ∃ es, es.map (·.2) = info ∧ Cert cx ops.toArray k S es ∧ Holds cx (effAll ops.toArray k S es) G

theorem Holds.dr {S : Ls} {id : Nat} {l : List Oper} (hm : cx.P.follows .mixedOrders = true) (info : List (List Nat × List Nat)) (hchk : chkB l (befL l) info = true)
    (h : CertK cx l 0 S l info (Q .normal)) : Holds cx S ((Code.region id l.toArray true).wp cx.P Q) := by
  obtain ⟨es, h1, h2, h3⟩ := h rfl (Nat.zero_le _)
  exact Holds.draw hm es (befL l) info h1 hchk h2 h3

theorem Ls.del_nil (S : Ls) : S.del [] = S := by
  have e : ∀ {α : Type} (l : List (Nat × α)), l.filter (fun x => !([] : List Nat).contains x.1) = l := fun l => by simp
  cases S
  simp only [Ls.del, e]

section
variable {ks ds : List Nat} {info : List (List Nat × List Nat)} {G : Act → World → Prop}
theorem CertK.nil {S : Ls} (h : Holds cx S G) : CertK cx ops i S [] [] G := by
  intro hr hl
  have : i = ops.length := by
    have := congrArg List.length hr
    simp at this; omega
  exact ⟨[], rfl, by simp [Cert, this], h⟩
theorem CertK.gen {S : Ls} {e : Ent} (hd : Doing cx ops.toArray o (S.del ds).F (S.del ds).H e) (hf : e.fresh.all (S.nomB cx.E) = true)
    (h2 : ((match o.dst with | some d => ks.contains d | none => true) && e.fresh.all ks.contains && e.up.all (fun x => ks.contains x.1)) = true)
    (h3 : (ds.all (fun d => !e.av.ids.contains d && e.up.all (fun x => x.1 != d && !x.2.ids.contains d)) && (match o.dst with | some d => !ds.contains d | none => true)) = true)
    (k : CertK cx ops (i + 1) (S.eff o.dst e) rest info G) : CertK cx ops i S (o :: rest) ((ks, ds) :: info) G := by
  intro hr hl
  have ho : ops[i]? = some o := by
    have := congrArg (·[0]?) hr
    simpa using this
  have hr' : ops.drop (i + 1) = rest := by
    have := congrArg (List.drop 1) hr
    rw [List.drop_drop] at this
    simpa using this
  have hlt : i < ops.length := by
    rcases Nat.lt_or_ge i ops.length with h | h
    · exact h
    · simp [List.getElem?_eq_none h] at ho
  obtain ⟨es, g1, g2, g3⟩ := k hr' hlt
  refine ⟨(e, ks, ds) :: es, by simp [g1], ⟨o, by simpa using ho, hd, ⟨hf, h2, h3⟩, g2⟩, ?_⟩
  have : (ops.toArray[i]?).bind (·.dst) = o.dst := by simp [ho]
  simp only [effAll, this]
  exact g3
/-- A value, in order with all. -/
theorem CertK.v (hd : Doing cx ops.toArray o (Ls.F ⟨fr, hp⟩) (Ls.H ⟨fr, hp⟩) ⟨av, [], []⟩) (hdst : o.dst = some d) (k : CertK cx ops (i + 1) ⟨(d, av) :: fr, hp⟩ rest info G) : CertK cx ops i ⟨fr, hp⟩ (o :: rest) (([d], []) :: info) G :=
  CertK.gen (e := ⟨av, [], []⟩) (by rw [Ls.del_nil]; exact hd) rfl (by simp [hdst]) (by simp [hdst]) (by simpa only [Ls.eff, hdst, List.nil_append] using k)
/-- A value that knows nothing of the slots and blocks 'ds'. -/
theorem CertK.vd (hd : Doing cx ops.toArray o (Ls.F (Ls.del ⟨fr, hp⟩ ds)) (Ls.H (Ls.del ⟨fr, hp⟩ ds)) ⟨av, [], []⟩) (hdst : o.dst = some d) (h3 : (ds.all (fun d => !av.ids.contains d) && !ds.contains d) = true) (k : CertK cx ops (i + 1) ⟨(d, av) :: fr, hp⟩ rest info G) : CertK cx ops i ⟨fr, hp⟩ (o :: rest) (([d], ds) :: info) G :=
  CertK.gen (e := ⟨av, [], []⟩) hd rfl (by simp [hdst]) (by simpa [hdst] using h3) (by simpa only [Ls.eff, hdst, List.nil_append] using k)
theorem CertK.n (hd : Doing cx ops.toArray o (Ls.F (Ls.del ⟨fr, hp⟩ ds)) (Ls.H (Ls.del ⟨fr, hp⟩ ds)) ⟨av, up, []⟩) (hdst : o.dst = none) (h2 : (up.all fun x => ks.contains x.1) = true) (h3 : (ds.all fun d => !av.ids.contains d && up.all (fun x => x.1 != d && !x.2.ids.contains d)) = true) {hp' : List (Nat × Bk)} (he : up ++ hp = hp')
    (k : CertK cx ops (i + 1) ⟨fr, hp'⟩ rest info G) : CertK cx ops i ⟨fr, hp⟩ (o :: rest) ((ks, ds) :: info) G :=
  CertK.gen (e := ⟨av, up, []⟩) hd rfl (by simpa [hdst] using h2) (by simpa [hdst] using h3) (by subst he; simpa only [Ls.eff, hdst] using k)
theorem CertK.u (hd : Doing cx ops.toArray o (Ls.F (Ls.del ⟨fr, hp⟩ ds)) (Ls.H (Ls.del ⟨fr, hp⟩ ds)) ⟨av, up, fresh⟩) (hdst : o.dst = some d) (hf : fresh.all (Ls.nomB ⟨fr, hp⟩ cx.E) = true) (h2 : (ks.contains d && fresh.all ks.contains && up.all fun x => ks.contains x.1) = true)
    (h3 : (ds.all (fun d => !av.ids.contains d && up.all (fun x => x.1 != d && !x.2.ids.contains d)) && !ds.contains d) = true) {hp' : List (Nat × Bk)} (he : up ++ hp = hp')
    (k : CertK cx ops (i + 1) ⟨(d, av) :: fr, hp'⟩ rest info G) : CertK cx ops i ⟨fr, hp⟩ (o :: rest) ((ks, ds) :: info) G :=
  CertK.gen (e := ⟨av, up, fresh⟩) hd hf (by simpa only [hdst] using h2) (by simpa only [hdst] using h3) (by subst he; simpa only [Ls.eff, hdst] using k)
end

/-! ### Tests -/
theorem Holds.condD {S : Ls} {t : Nat} {x y : Code} {p : Prop} [Decidable p] (hc : lk t S.fr = some (.one (.b (decide p)))) (ht : p → Holds cx S (x.wp cx.P Q)) (hf : ¬ p → Holds cx S (y.wp cx.P Q)) : Holds cx S ((Code.cond (.tmp t) x y).wp cx.P Q) :=
  Holds.cond _ hc (fun h => ht (of_decide_eq_true h)) (fun h => hf (of_decide_eq_false h))
end

section
variable {cx : Cx} {S : Ls} {Q : Exit → Act → World → Prop}
theorem Holds.condDT {t : Nat} {x y : Code} {b : Bool} (hc : lk t S.fr = some (.one (.b b))) (hb : b = true) (h : Holds cx S (x.wp cx.P Q)) : Holds cx S ((Code.cond (.tmp t) x y).wp cx.P Q) := by
  subst hb; exact Holds.condT hc h
theorem Holds.condDF {t : Nat} {x y : Code} {b : Bool} (hc : lk t S.fr = some (.one (.b b))) (hb : b = false) (h : Holds cx S (y.wp cx.P Q)) : Holds cx S ((Code.cond (.tmp t) x y).wp cx.P Q) := by
  subst hb; exact Holds.condF hc h
end

section
variable {cx : Cx} {ops : Array Oper} {o : Oper} {F : Nat → Option AV} {H : Nat → Option Bk}
theorem Doing.cast {e e' : Ent} (h : e = e') (hd : Doing cx ops o F H e) : Doing cx ops o F H e' := h ▸ hd
theorem Doing.isB {b c : Bool} (h : b = c) (hd : Doing cx ops o F H ⟨.one (.b b), [], []⟩) : Doing cx ops o F H ⟨.one (.b c), [], []⟩ := h ▸ hd
theorem Y.pickT {c x y : Operand} {v : AV} (hu : Up cx ops F o) (ho : o.op = .pick c x y) (hc : evF F c = some (.one (.b true))) (hx : evF F x = some v) : Doing cx ops o F H ⟨v, [], []⟩ :=
  Y.pick (u := v) true hu ho hc (fun _ => hx) (fun h => nomatch h)
theorem Y.pickF {c x y : Operand} {v : AV} (hu : Up cx ops F o) (ho : o.op = .pick c x y) (hc : evF F c = some (.one (.b false))) (hy : evF F y = some v) : Doing cx ops o F H ⟨v, [], []⟩ :=
  Y.pick (u := v) false hu ho hc (fun h => nomatch h) (fun _ => hy)
theorem Y.pickB {c x y : Operand} {b p q : Bool} (hu : Up cx ops F o) (ho : o.op = .pick c x y) (hc : evF F c = some (.one (.b b))) (hx : evF F x = some (.one (.b p))) (hy : evF F y = some (.one (.b q))) : Doing cx ops o F H ⟨.one (.b (bif b then p else q)), [], []⟩ := by
  cases b
  · exact Y.pickF hu ho hc hy
  · exact Y.pickT hu ho hc hx
theorem ownL1 {id n : Nat} {c : Cs} (h : H id = some (.own c)) (hl : c.len = n) (hn : n ≠ 0) : OwnL H [(id, c)] := by
  intro x hx
  simp only [List.mem_singleton] at hx
  subst hx
  exact ⟨h, hl ▸ hn⟩
theorem Y.stM {T _n by' id off : Nat} {d : TypeDesc} {z : Cs} {l : List SV} {x y : Operand} {s : SV} (hT : TyI cx.P T d 1 by' z) (hu : Up cx ops F o) (ho : o.op = .store T x y) (hx : evF F x = some (.one (.p id off))) (hy : evF F y = some (.one s)) (hv : s.cell = true) (hb : H id = some (.own (.mix l))) (hl : off < l.length) :
    Doing cx ops o F H ⟨.one .u, [(id, .own (.mix (l.set off s)))], []⟩ := Y.st hT hu ho hx hy hv rfl hb (Spl.m hl) (by decide)
end

theorem ResIs.rowN {P : Program} {S : Ls} {t T id n by' : Nat} {c : Cs} {d : TypeDesc} {z : Cs} (h1 : lk t S.fr = some (.one (.p id 0))) (h2 : lk id S.hp = some (.own c)) (hT : TyI P T d n by' z) (hd : TypeDesc.isAgg d = true) (hl : c.len = n) (hn : n ≠ 0) : ResIs P S (.cell t T) (.row c) := by
  subst hl; exact ResIs.row t T id c d by' z h1 h2 hT hd hn

theorem iter0 {α : Type} (f : Nat → α → α) (a : α) : iter f 0 a = a := rfl
theorem iterS {α : Type} (f : Nat → α → α) (n : Nat) (a : α) : iter f (n + 1) a = f n (iter f n a) := rfl
theorem hEq {k : IntKind} {xs ys : List Nat} (h : xs = ys) {τ : List (Nat × Nat)} : some (Bk.own (.ints k xs)) = some (Bk.ren τ (.own (.ints k ys))) := by rw [h]; rfl
theorem nEq {k : IntKind} {x y : Nat} (h : x = y) {τ : List (Nat × Nat)} : some (AV.one (.n k x)) = some (AV.ren τ (.one (.n k y))) := by rw [h]; rfl
theorem rEq {k : IntKind} {xs ys : List Nat} (h : xs = ys) {τ : List (Nat × Nat)} : some (AV.row (.ints k xs)) = some (AV.ren τ (.row (.ints k ys))) := by rw [h]; rfl

theorem iter_len {α : Type} {f : Nat → List α → List α} {a : List α} (h : ∀ i l, (f i l).length = l.length) : ∀ n, (iter f n a).length = a.length
  | 0 => rfl
  | n + 1 => by rw [iter, h, iter_len h n]

/-- The caller's block may bear any number. -/
theorem UC.ren1 {P : Program} {f : Nat} {args : List AV} {res : AV} {c c' : Cs} (h : UC P f args [(1000, c)] res [(1000, c')]) (hc : c.ids = []) (hc' : c'.ids = []) (hres : res.pure = true) (id : Nat) :
    UC P f (args.map (AV.ren [(1000, id)])) [(id, c)] res [(id, c')] := by
  intro ρ O w vs hO hE hsep hr
  have hrn : rn [(1000, id)] 1000 = id := rfl
  have noid : ∀ {c : Cs} {j : Nat}, c.ids = [] → j < c.len → ∀ i ∈ (c.at j).ids, ρ i = ρ (rn [(1000, id)] i) := by
    intro c j h hj i hi
    have := Cs.ids_at hj hi
    rw [h] at this; cases this
  have hA : ∀ b, (O b ∨ ∃ x ∈ [(1000, c)], (ρ (rn [(1000, id)] x.1)).blk = b) ↔ (O b ∨ ∃ x ∈ [(id, c)], (ρ x.1).blk = b) := by
    intro b; simp [hrn]
  have hl : RelL (fun i => ρ (rn [(1000, id)] i)) (fun b => O b ∨ ∃ x ∈ [(1000, c)], (ρ (rn [(1000, id)] x.1)).blk = b) w args vs := by
    have key : ∀ (as : List AV) (vs : List Value), RelL ρ (fun b => O b ∨ ∃ x ∈ [(id, c)], (ρ x.1).blk = b) w (as.map (AV.ren [(1000, id)])) vs → RelL (fun i => ρ (rn [(1000, id)] i)) (fun b => O b ∨ ∃ x ∈ [(1000, c)], (ρ (rn [(1000, id)] x.1)).blk = b) w as vs := by
      intro as
      induction as with
      | nil => intro vs h; cases vs <;> exact h
      | cons a as ih =>
        intro vs h
        cases vs with
        | nil => exact h.elim
        | cons v vs => exact ⟨(AV.ren_rel' h.1).mono (fun _ _ => rfl) (fun _ _ _ => rfl) (Nat.le_refl _) (fun b _ hb => (hA b).1 hb), ih vs h.2⟩
    exact key args vs hr
  refine (h (fun i => ρ (rn [(1000, id)] i)) O w vs hO ?_ ?_ hl).mono ?_
  · intro x hx
    simp only [List.mem_singleton] at hx
    subst hx
    obtain ⟨h1, h2, h3, h4, cs, T, fz, h5, h6, h7, h8⟩ := hE (id, c) (by simp)
    refine ⟨h1, h2, h3, h4, cs, T, fz, h5, h6, h7, fun j hj => ?_⟩
    obtain ⟨u, hu, hr⟩ := h8 j hj
    exact ⟨u, hu, hr.mono (fun i hi => (noid hc hj i hi).symm) (fun _ _ _ => rfl) (Nat.le_refl _) (fun b _ hb => (hA b).1 hb)⟩
  · intro x hx y hy hne
    simp only [List.mem_singleton] at hx hy
    subst hx; subst hy; exact absurd rfl hne
  · rintro e w' ⟨r, he, hr, hf, hE'⟩
    refine ⟨r, he, AV.pure_rel hres hr, ⟨hf.os, hf.tape, hf.output, hf.size, fun b hb hM => hf.block b hb fun ⟨x, hx, hx'⟩ => hM ?_⟩, fun x hx => ?_⟩
    · simp only [List.mem_singleton] at hx
      subst hx
      exact ⟨(id, c), by simp, hx'⟩
    · simp only [List.mem_singleton] at hx
      subst hx
      obtain ⟨cs, T, fz, h1, h2, h3, h4, h5⟩ := hE' (1000, c') (by simp)
      refine ⟨cs, T, fz, h1, h2, h3, h4, fun j hj => ?_⟩
      obtain ⟨u, hu, hr⟩ := h5 j hj
      exact ⟨u, hu, hr.mono (fun i hi => noid hc' hj i hi) (fun _ _ _ => rfl) (Nat.le_refl _) (fun b _ hb => (hA b).2 hb)⟩

/-- A LABEL that is jumped back to, by what stands behind it. -/
theorem Holds.scopeL {cx : Cx} {S : Ls} {Q : Exit → Act → World → Prop} {c rest : Code} {α : Type} (l : Nat) (I : α → Ls) (Ok : α → Prop) (μ : α → Nat) (hf : findLabel c l = some (.seq .skip rest))
    (pass : ∀ x, Ok x → Holds cx (I x) (rest.wp cx.P (Exit.jump l (fun a w => ∃ y, (Ok y ∧ Rep cx (I y) a w) ∧ μ y < μ x) Q)))
    (first : (∀ (S' : Ls) (x : α) (τ : List (Nat × Nat)), Ok x → Sub cx τ S' (I x) → Holds cx S' (rest.wp cx.P (Exit.jump l (fun a w => ∃ x, Ok x ∧ Rep cx (I x) a w) Q))) →
      Holds cx S (c.wp cx.P (Exit.jump l (fun a w => ∃ x, Ok x ∧ Rep cx (I x) a w) Q))) : Holds cx S ((Code.scope c).wp cx.P Q) := by
  refine Holds.scope l I Ok μ hf (fun x h => Holds.seq (Holds.skip (pass x h))) fun _ => first ?_
  intro S' x τ hok hsub ρ' A' a' w' hs'
  obtain ⟨ρ2, A2, hs2⟩ := hsub.rep ⟨ρ', A', hs'⟩
  refine wp_mono (pass x hok ρ2 A2 a' w' hs2) ?_
  intro e a w hq
  cases e with
  | goto l' => obtain ⟨h1, y, h2, _⟩ := hq; exact ⟨h1, y, h2⟩
  | _ => exact hq
/-- A number may be taken for one that could be below 0. -/
theorem Holds.toZ {cx : Cx} {S : Ls} {G : Act → World → Prop} (t : Nat) {x : Nat} (ht : lk t S.fr = some (.one (.n .i64 x))) (z : Int) (hz : (x : Int) = z) (h : Holds cx ⟨(t, .one (.z z)) :: S.fr, S.hp⟩ G) : Holds cx S G := by
  intro ρ A a w hs
  refine h ρ A a w ⟨hs.df, hs.sz, ?_, hs.hp, hs.sep, hs.A1, hs.O, hs.fm, hs.E⟩
  intro s v hv
  simp only [Ls.F, lk] at hv
  split at hv
  · rename_i he
    subst he
    cases hv
    have := hs.fr s _ ht
    simp only [AV.Rel, SV.Rel] at this ⊢
    rw [this.1, hz]
  · exact hs.fr s v hv

/-! ### Begin -/
theorem VC.go {P : Program} {f nt : Nat} {fn : Func} {c : Code} {args : List AV} {res : AV} {fr : List (Nat × AV)} (hf : P.funcs[f]? = some fn) (hb : fn.body = some c) (hnt : fn.ntmps = nt) (hn : Nat.ble args.length nt = true) (hfr : argsFr 0 args = fr)
    (h : ∀ (O : Nat → Prop) (w : World), Holds (cxV P nt w O) ⟨fr, []⟩ (c.wp P (bodyPost P fn fun e w' => ∃ r, e = .returned r ∧ res.Rel ρz O w' r ∧ Below w.heap.size w w'))) : VC P f args res := by
  subst hnt; subst hfr
  exact VC.enter hf hb (Nat.le_of_ble_eq_true hn) h
theorem VF.go {P : Program} {f nt : Nat} {fn : Func} {c : Code} {args : List AV} {res : AV} {k : IntKind} {xs : List Nat} {fr : List (Nat × AV)} (hf : P.funcs[f]? = some fn) (hb : fn.body = some c) (hnt : fn.ntmps = nt) (hn : Nat.ble args.length nt = true) (hfr : argsFr 0 args = fr)
    (h : ∀ (O : Nat → Prop) (w : World), Holds (cxV P nt w O) ⟨fr, []⟩ (c.wp P (bodyPost P fn fun e w' => ∃ r l, e = .returned r ∧ res.Rel (fun _ => l) O w' r ∧ Below w.heap.size w w' ∧ FreshB w.heap.size w' l k xs))) : VF P f args res k xs := by
  subst hnt; subst hfr
  exact VF.enter hf hb (Nat.le_of_ble_eq_true hn) h
theorem UC.go {P : Program} {f nt : Nat} {fn : Func} {c : Code} {args : List AV} {res : AV} {E E' : List (Nat × Cs)} {fr : List (Nat × AV)} {hp : List (Nat × Bk)} (hf : P.funcs[f]? = some fn) (hb : fn.body = some c) (hnt : fn.ntmps = nt) (hn : Nat.ble args.length nt = true) (hfr : argsFr 0 args = fr) (hhp : (E.map fun x => (x.1, Bk.own x.2)) = hp)
    (h : ∀ (ρ : Nat → Loc) (O : Nat → Prop) (w : World), Holds (cxU P nt w O ρ E) ⟨fr, hp⟩ (c.wp P (bodyPost P fn fun e w' => ∃ r, e = .returned r ∧
      res.Rel ρ (fun b => O b ∨ ∃ x ∈ E, (ρ x.1).blk = b) w' r ∧ FrameOK (fun b => ∃ x ∈ E, (ρ x.1).blk = b) w w' ∧
      (∀ x ∈ E', ∃ cs T fz, w'.heap[(ρ x.1).blk]? = some (.cells cs T fz) ∧ (ρ x.1).off + (ρ x.1).size ≤ cs.size ∧ Unfrozen fz cs.size ∧ x.2.len ≤ (ρ x.1).size ∧
        ∀ j, j < x.2.len → ∃ u, cs[(ρ x.1).off + j]? = some u ∧ (x.2.at j).Rel ρ (fun b => O b ∨ ∃ y ∈ E, (ρ y.1).blk = b) w' u)))) : UC P f args E res E' := by
  subst hnt; subst hfr; subst hhp
  exact UC.enter hf hb (Nat.le_of_ble_eq_true hn) h

/-! ### Reading and writing rows of integers -/
section
variable {cx : Cx} {ops : Array Oper} {o : Oper} {F : Nat → Option AV} {H : Nat → Option Bk}
variable {T E : TypeId} {x y : Operand} {N n by' bz i id off : Nat} {d : TypeDesc} {z zz : Cs} {k ki : IntKind} {xs : List Nat}
theorem Y.idxI (hT : TyI cx.P T (.array N E) n by' z) (hE : TyI cx.P E d 1 bz zz) (hd : TypeDesc.isAgg d = false) (hu : Up cx ops F o) (ho : o.op = .index T x y) (hx : evF F x = some (.row (.ints k xs))) (hy : evF F y = some (.one (.n ki i))) (hi : i < N) (hl : i < xs.length) :
    Doing cx ops o F H ⟨.one (.n k (xs.getD i 0)), [], []⟩ := Y.idx hT hE hd hu ho hx hy hi hl
theorem Y.ldI (hT : TyI cx.P T d n by' z) (hd : TypeDesc.isAgg d = false) (hu : Up cx ops F o) (ho : o.op = .load T x) (hx : evF F x = some (.one (.p id off))) (hb : H id = some (.own (.ints k xs))) (hl : off < xs.length) :
    Doing cx ops o F H ⟨.one (.n k (xs.getD off 0)), [], []⟩ := Y.ld hT hd hu ho hx hb hl
theorem Y.ldRI (hT : TyI cx.P T d n by' z) (hd : TypeDesc.isAgg d = true) (hu : Up cx ops F o) (ho : o.op = .load T x) (hx : evF F x = some (.one (.p id 0))) (hb : H id = some (.own (.ints k xs))) (hl : xs.length = n) (hn : n ≠ 0) :
    Doing cx ops o F H ⟨.row (.ints k xs), [], []⟩ := Y.ldAll hT hd hu ho hx hb hl hn
theorem Y.stI {v : Nat} (hT : TyI cx.P T d 1 by' z) (hu : Up cx ops F o) (ho : o.op = .store T x y) (hx : evF F x = some (.one (.p id off))) (hy : evF F y = some (.one (.n k v))) (hb : H id = some (.own (.ints k xs))) (hl : off < xs.length) :
    Doing cx ops o F H ⟨.one .u, [(id, .own (.ints k (xs.set off v)))], []⟩ := Y.st hT hu ho hx hy rfl rfl hb (Spl.n hl) (by decide)
/-- A whole row is put in another's place. -/
theorem Y.stR {c c' : Cs} (hT : TyI cx.P T d n by' z) (hu : Up cx ops F o) (ho : o.op = .store T x y) (hx : evF F x = some (.one (.p id 0))) (hy : evF F y = some (.row c')) (hc : (AV.row c').cells? = true) (hb : H id = some (.own c)) (hl : c'.len = n) (hl' : c.len = n) (hn : n ≠ 0) :
    Doing cx ops o F H ⟨.one .u, [(id, .own c')], []⟩ := Y.st hT hu ho hx hy hc hl hb (Spl.all (by rw [hl, hl'])) hn
theorem Y.ia0 (hT : TyI cx.P T (.array N E) n by' z) (hE : TyI cx.P E d 1 bz zz) (hu : Up cx ops F o) (ho : o.op = .indexAddr T x y) (hx : evF F x = some (.one (.p id 0))) (hy : evF F y = some (.one (.n k i))) (hi : i < N) :
    Doing cx ops o F H ⟨.one (.p id i), [], []⟩ := by
  have := Y.ia (H := H) hT hE hu ho hx hy hi
  rwa [Nat.zero_add] at this
theorem Y.iaN0 {sz : Nat} (hT : TyI cx.P T (.array N E) n by' z) (hE : TyI cx.P E d sz bz zz) (hu : Up cx ops F o) (ho : o.op = .indexAddr T x y) (hx : evF F x = some (.one (.p id 0))) (hy : evF F y = some (.one (.n k i))) (hi : i < N) :
    Doing cx ops o F H ⟨.one (.p id (i * sz)), [], []⟩ := by
  have := Y.iaN (H := H) hT hE hu ho hx hy hi
  rwa [Nat.zero_add] at this
theorem Y.iaSg0 {len : Nat} (hT : TyI cx.P T (.slice E) n by' z) (hE : TyI cx.P E d 1 bz zz) (hu : Up cx ops F o) (ho : o.op = .indexAddr T x y) (hx : evF F x = some (.one (.sg id 0 len))) (hy : evF F y = some (.one (.n k i))) (hi : i < len) :
    Doing cx ops o F H ⟨.one (.p id i), [], []⟩ := by
  have := Y.iaSg (H := H) hT hE hu ho hx hy hi
  rwa [Nat.zero_add] at this
theorem Y.slArr0 {lo hi : Option Operand} {l h : Nat} {c : Cs} (hT : TyI cx.P T (.array N E) n by' z) (hE : TyI cx.P E d 1 bz zz) (hu : Up cx ops F o) (ho : o.op = .slice T x lo hi none) (hx : evF F x = some (.one (.p id 0))) (hb : H id = some (.own c)) (hc : N ≤ c.len)
    (hlo : Bnd F lo 0 l) (hhi : Bnd F hi N h) (h1 : l ≤ h) (h2 : h ≤ N) : Doing cx ops o F H ⟨.one (.sg id l (h - l)), [], []⟩ := by
  have := Y.slArr (H := H) hT hE hu ho hx hb (by omega) hlo hhi h1 h2
  rwa [Nat.zero_add] at this
theorem Y.slSg0 {lo hi : Option Operand} {l h len : Nat} (hT : TyI cx.P T (.slice E) n by' z) (hE : TyI cx.P E d 1 bz zz) (hu : Up cx ops F o) (ho : o.op = .slice T x lo hi none) (hx : evF F x = some (.one (.sg id 0 len)))
    (hlo : Bnd F lo 0 l) (hhi : Bnd F hi len h) (h1 : l ≤ h) (h2 : h ≤ len) : Doing cx ops o F H ⟨.one (.sg id l (h - l)), [], []⟩ := by
  have := Y.slSg (H := H) hT hE hu ho hx hlo hhi h1 h2
  rwa [Nat.zero_add] at this
theorem Cs.sub_all (c : Cs) : c.sub 0 c.len = c := by cases c <;> simp [Cs.sub, Cs.len]
theorem Base.all {H : Nat → Option Bk} {id len : Nat} {c : Cs} (hb : H id = some (.own c)) (hl : len = c.len) : Base H (.one (.sg id 0 len)) c (some id) := by
  subst hl; exact Base.sg id 0 _ c c hb (by omega) (Cs.sub_all c).symm
theorem Src.all {H : Nat → Option Bk} {id len : Nat} {c : Cs} (hb : H id = some (.own c)) (hl : len = c.len) : Src H (.one (.sg id 0 len)) c := by
  subst hl; exact Src.sg id 0 _ (.own c) c c hb (.inl rfl) (by omega) (Cs.sub_all c).symm
theorem View.all {H : Nat → Option Bk} {id len : Nat} {k : IntKind} {xs : List Nat} (hb : H id = some (.own (.ints k xs))) (hl : len = xs.length) : View H (.one (.sg id 0 len)) (.one (.bs false k xs)) := by
  subst hl
  have := View.sg (H := H) id 0 xs.length (.own (.ints k xs)) k xs hb rfl (by omega)
  simpa using this
end
end Go.Fx
