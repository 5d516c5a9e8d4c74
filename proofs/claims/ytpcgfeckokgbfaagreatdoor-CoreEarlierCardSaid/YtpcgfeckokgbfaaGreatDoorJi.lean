/- Code beside a function that may fail: rules for strings, and parts of lists. -/
import Derived.Test.YtpcgfeckokgbfaaGreatDoorJh
set_option linter.all false
namespace Go.Dp
open Go Go.Mi Go.RowKit
section
variable {Y : Cy} {Q : Exit → Act → World → Prop} {l : Fv} {H : List Ob} {R : Type} {m : Option R} {T : R → Prop} {ops : Array Oper} {os rest : List Oper} {acc : List (List Nat × List Nat)} {t : Nat} {ty : TypeId} {pos : String} {af : Array Edge} {gd : Option (Nat × Bool)} {dst : Option Tmp}
theorem MS.lnS {U : TypeId} {x : Operand} {s : ByteArray} (hS : ∀ w, (underlying U).run Y.X.P w = .ok .string w) (hx : evV l x = some (vS s)) (hd : Nat.blt t Y.X.N = true) (k : MS Y ops Q rest ((t, vI s.size) :: l) H m T) : MS Y ops Q ({ dst := some t, op := .call { callee := .builtin .len, args := #[x], argTypes := #[U] }, type := ty, pos := pos, after := af, guard := none } :: rest) l H m T := fun hQ => SJ.it (dst := some t) (i_lenS hS hx) rd0 hd (k hQ)
theorem MA.lnS {U : TypeId} {x : Operand} {s : ByteArray} (hS : ∀ w, (underlying U).run Y.X.P w = .ok .string w) (hx : evV l x = some (vS s)) (hg : GOk os l gd) (k : MA Y Q os rest ((t, vI s.size) :: l) H (acc ++ [([], [])]) m T) : MA Y Q os ({ dst := some t, op := .call { callee := .builtin .len, args := #[x], argTypes := #[U] }, type := ty, pos := pos, after := af, guard := gd } :: rest) l H acc m T := fun hQ => AJ.gi (dst := some t) (i_lenS hS hx) rd0 hg (k hQ)
theorem MS.lxH {α : Type} {U E k : Nat} {e : α → List P} {x : Operand} {d : V} {xs : List α} {hi : Operand} {K' : IntKind} {b : Int} {f : List α → Option R} (hT : ∀ w, (underlying U).run Y.X.P w = .ok (.slice E) w) (hE : ∀ w, (sizeOf E).run Y.X.P w = .ok k w) (hx : evV l x = some d) (hs : V.sls k e d xs) (hk : ∀ x, (e x).length = k) (hh : evV l hi = some (.p (.v (.int K' b)))) (hd : Nat.blt t Y.X.N = true) (k : ∀ z : List α, MS Y ops Q rest ((t, vL k e z) :: l) H (f z) T) : MS Y ops Q ({ dst := some t, op := .slice U x (none) (some hi) none, type := ty, pos := pos, after := af, guard := none } :: rest) l H ((lx xs 0 b).bind f) T := fun hQ => by
  obtain ⟨z, h1, h2⟩ := hQ.bind
  skip
  exact SJ.it (dst := some t) (i_lx (q := 0) hT hE hx hs hk (fun y hy => by cases hy) (fun _ => rfl) (fun y hy => by cases hy; exact ⟨_, hh⟩) (fun q => by cases q) (fun y hy => by cases hy) (fun q => absurd rfl q) h1) rd0 hd (k _ h2)
theorem MA.lxH {α : Type} {U E k : Nat} {e : α → List P} {x : Operand} {d : V} {xs : List α} {hi : Operand} {K' : IntKind} {b : Int} {f : List α → Option R} (hT : ∀ w, (underlying U).run Y.X.P w = .ok (.slice E) w) (hE : ∀ w, (sizeOf E).run Y.X.P w = .ok k w) (hx : evV l x = some d) (hs : V.sls k e d xs) (hk : ∀ x, (e x).length = k) (hh : evV l hi = some (.p (.v (.int K' b)))) (hg : GOk os l gd) (k : ∀ z : List α, MA Y Q os rest ((t, vL k e z) :: l) H (acc ++ [([], [])]) (f z) T) : MA Y Q os ({ dst := some t, op := .slice U x (none) (some hi) none, type := ty, pos := pos, after := af, guard := gd } :: rest) l H acc ((lx xs 0 b).bind f) T := fun hQ => by
  obtain ⟨z, h1, h2⟩ := hQ.bind
  skip
  exact AJ.gi (dst := some t) (i_lx (q := 0) hT hE hx hs hk (fun y hy => by cases hy) (fun _ => rfl) (fun y hy => by cases hy; exact ⟨_, hh⟩) (fun q => by cases q) (fun y hy => by cases hy) (fun q => absurd rfl q) h1) rd0 hg (k _ h2)
theorem MS.neg {U : TypeId} {x : Operand} {i : IntKind} {a : Int} (hx : evV l x = some (.p (.v (.int i a)))) (hd : Nat.blt t Y.X.N = true) (k : MS Y ops Q rest ((t, .p (.v (.int i (i.wrap (-a))))) :: l) H m T) : MS Y ops Q ({ dst := some t, op := .unOp .neg U x, type := ty, pos := pos, after := af, guard := none } :: rest) l H m T := fun hQ => SJ.it (dst := some t) (i_negW hx) rd0 hd (k hQ)
theorem MA.neg {U : TypeId} {x : Operand} {i : IntKind} {a : Int} (hx : evV l x = some (.p (.v (.int i a)))) (hg : GOk os l gd) (k : MA Y Q os rest ((t, .p (.v (.int i (i.wrap (-a))))) :: l) H (acc ++ [([], [])]) m T) : MA Y Q os ({ dst := some t, op := .unOp .neg U x, type := ty, pos := pos, after := af, guard := gd } :: rest) l H acc m T := fun hQ => AJ.gi (dst := some t) (i_negW hx) rd0 hg (k hQ)
end
end Go.Dp
namespace Go.Dp
open Go Go.Mi Go.RowKit
/-- arguments, by weaker words -/
inductive AW (ρ : Operand → Option V) : List Operand → List V → Prop
  | n : AW ρ [] []
  | c {x : Operand} {xs : List Operand} {d d' : V} {ds : List V} (h : ρ x = some d) (w : Wv d d') (t : AW ρ xs ds) : AW ρ (x :: xs) (d' :: ds)
theorem AW.s {ρ : Operand → Option V} {x : Operand} {xs : List Operand} {d : V} {ds : List V} (h : ρ x = some d) (t : AW ρ xs ds) : AW ρ (x :: xs) (d :: ds) := .c h .rf t
theorem AW.rv {g : Gh} {w : World} {H : List Ob} {ρ : Operand → Option V} {e : Operand → Value} {args : List Operand} {ds : List V} (h : AW ρ args ds) (hf : ∀ x ∈ args, ∀ u, ρ x = some u → RV g w H u (e x)) : RVs g w H ds (args.map e) := by
  induction h with
  | n => exact .nil
  | c h w t ih => exact .cons (w _ _ _ _ (hf _ (by simp) _ h)) (ih fun y hy => hf y (by simp [hy]))
inductive WvL : List V → List V → Prop
  | n : WvL [] []
  | c {d d' : V} {ds ds' : List V} (w : Wv d d') (t : WvL ds ds') : WvL (d :: ds) (d' :: ds')
theorem WvL.rv {g : Gh} {w : World} {H : List Ob} {cs cs' : List V} (k : WvL cs cs') {vs : List Value} (h : RVs g w H cs vs) : RVs g w H cs' vs := by
  induction k generalizing vs with
  | n => exact h
  | c w t ih => cases h with | cons h hs => exact .cons (w _ _ _ _ h) (ih hs)
theorem Wv.agg {cs cs' : List V} (k : WvL cs cs') : Wv (.agg cs) (.agg cs') := fun _ _ _ _ h => by cases h with | agg h => exact .agg (k.rv h)
section
variable {Pg : Program} {ty : TypeId} {ρ : Operand → Option V}
theorem It.callW {f : FuncId} {args : List Operand} {tys : Array TypeId} {ds : List V} {Hc Hc' : List Ob} {sel fr : List Nat} {r : V} (hc : CE Pg f ds Hc r Hc') (hf : ∀ args w, (callFunc f args).run Pg w = .ok (.enter f args) w)
    (hρ : ρ (.func f) = some (.p (.v (.func (.func f) #[] #[])))) (hargs : AW ρ args (renL (sf sel) ds)) (hcl : Cl Hc Hc' ds sel fr) :
    It Pg (.call { callee := .value (.func f), args := args.toArray, argTypes := tys }) ty ρ (wl (sf sel) sel Hc ++ fr.map fun j => (j, .dead)) (wl (sf (sel ++ fr)) (sel ++ fr) Hc') (r.ren (sf (sel ++ fr))) :=
  It.callG hc hcl fun g w H e o ho hfr => ⟨args.map e, run_fn (hfr _ (by simp [Op.operands, Call.operands]) _ hρ).vi ho hf, hargs.rv fun x hx => hfr x (by simp [Op.operands, Call.operands, hx])⟩
theorem It.cw {f : FuncId} {args : List Operand} {tys : Array TypeId} {ds : List V} {r : V} (hc : CP Pg f ds r) (hf : ∀ args w, (callFunc f args).run Pg w = .ok (.enter f args) w)
    (hρ : ρ (.func f) = some (.p (.v (.func (.func f) #[] #[])))) (hargs : AW ρ args (renL (sf []) ds)) (hlt : ltL 0 ds = true) {d : V} (hd : r.ren (sf []) = d) : It Pg (.call { callee := .value (.func f), args := args.toArray, argTypes := tys }) ty ρ [] [] d :=
  hd ▸ It.callW (sel := []) (fr := []) hc hf hρ hargs ⟨rfl, hlt, rfl, List.nodup_nil, Nat.le_refl _, Nat.le_refl _⟩
/-- a call by value -/
theorem It.callVW {f : FuncId} {x : Operand} {bnd caps : List V} {args : List Operand} {tys : Array TypeId} {ds ad : List V} {Hc Hc' : List Ob} {sel fr : List Nat} {r : V} (hc : CE Pg f ds Hc r Hc') (hf : ∀ args w, (callFunc f args).run Pg w = .ok (.enter f args) w)
    (hρ : ρ x = some (.fn (.func f) bnd caps)) (hargs : AW ρ args ad) (hds : bnd ++ ad ++ caps = renL (sf sel) ds) (hcl : Cl Hc Hc' ds sel fr) :
    It Pg (.call { callee := .value x, args := args.toArray, argTypes := tys }) ty ρ (wl (sf sel) sel Hc ++ fr.map fun j => (j, .dead)) (wl (sf (sel ++ fr)) (sel ++ fr) Hc') (r.ren (sf (sel ++ fr))) :=
  It.callG hc hcl fun g w H e o ho hfr => by
    have hx := hfr x (by simp [Op.operands, Call.operands]) _ hρ
    generalize he : e x = v at hx
    cases hx with
    | fn h1 h2 => exact ⟨_, run_fv he ho hf, hds ▸ (h1.append (hargs.rv fun y hy => hfr y (by simp [Op.operands, Call.operands, hy]))).append h2⟩
/-- one that has caught nothing -/
theorem It.callV0 {f : FuncId} {x : Operand} {args : List Operand} {tys : Array TypeId} {ds : List V} {Hc Hc' : List Ob} {sel fr : List Nat} {r : V} (hc : CE Pg f ds Hc r Hc') (hf : ∀ args w, (callFunc f args).run Pg w = .ok (.enter f args) w)
    (hρ : ρ x = some (.p (.v (.func (.func f) #[] #[])))) (hargs : AW ρ args (renL (sf sel) ds)) (hcl : Cl Hc Hc' ds sel fr) :
    It Pg (.call { callee := .value x, args := args.toArray, argTypes := tys }) ty ρ (wl (sf sel) sel Hc ++ fr.map fun j => (j, .dead)) (wl (sf (sel ++ fr)) (sel ++ fr) Hc') (r.ren (sf (sel ++ fr))) :=
  It.callG hc hcl fun g w H e o ho hfr => by
    have hx := (hfr x (by simp [Op.operands, Call.operands]) _ hρ).vi
    refine ⟨[] ++ args.map e ++ [], run_fv (us := []) (cs := []) (by simpa using hx) ho hf, ?_⟩
    simpa using hargs.rv fun y hy => hfr y (by simp [Op.operands, Call.operands, hy])
end
section
variable {Y : Cy} {Q : Exit → Act → World → Prop} {l : Fv} {H : List Ob} {R : Type} {m : Option R} {T : R → Prop} {ops : Array Oper} {os rest : List Oper} {acc : List (List Nat × List Nat)} {t : Nat} {ty : TypeId} {pos : String} {af : Array Edge} {gd : Option (Nat × Bool)} {dst : Option Tmp}
/-- what a call with objects yields, in the words of who calls -/
structure CallOk (Pg : Program) (g : FuncId) (ds : List V) (Hc : List Ob) (r : V) (Hc' : List Ob) (sel fr : List Nat) (H : List Ob) (d : V) (H2 : List Ob) : Prop where
  hc : CE Pg g ds Hc r Hc'
  hcl : Cl Hc Hc' ds sel fr
  hr : r.ren (sf (sel ++ fr)) = d
  hH : setW H (wl (sf (sel ++ fr)) (sel ++ fr) Hc') = H2
theorem MS.cd {α : Type} {g : FuncId} {args : List Operand} {tys : Array TypeId} {ds : List V} {Hc : List Ob} {rr dd : α → V} {HH H2 : α → List Ob} {x : Option α} {f : α → Option R} (sel fr : List Nat) (hc : ∀ z, x = some z → CallOk Y.X.P g ds Hc (rr z) (HH z) sel fr H (dd z) (H2 z)) (hf : ∀ args w, (callFunc g args).run Y.X.P w = .ok (.enter g args) w)
    (hargs : AW (evV l) args (renL (sf sel) ds)) (hsel : rdOk H (wl (sf sel) sel Hc ++ fr.map fun j => (j, .dead))) (hd : dOk Y.X.N dst = true) (k : ∀ z, MS Y ops Q rest (putV dst (dd z) l) (H2 z) (f z) T) :
    MS Y ops Q ({ dst := dst, op := .call { callee := .value (.func g), args := args.toArray, argTypes := tys }, type := ty, pos := pos, after := af, guard := none } :: rest) l H (x.bind f) T := fun hQ => by
  obtain ⟨z, h1, h2⟩ := hQ.bind
  obtain ⟨c1, c2, c3, c4⟩ := hc z h1
  refine SJ.it (It.callW c1 hf rfl hargs c2) hsel hd ?_
  rw [c3, c4]; exact k z h2
theorem MS.cf {α : Type} {g : FuncId} {y : Operand} {bnd caps ad : List V} {args : List Operand} {tys : Array TypeId} {ds : List V} {Hc : List Ob} {rr dd : α → V} {HH H2 : α → List Ob} {x : Option α} {f : α → Option R} (sel fr : List Nat) (hy : evV l y = some (.fn (.func g) bnd caps)) (hc : ∀ z, x = some z → CallOk Y.X.P g ds Hc (rr z) (HH z) sel fr H (dd z) (H2 z)) (hf : ∀ args w, (callFunc g args).run Y.X.P w = .ok (.enter g args) w)
    (hargs : AW (evV l) args ad) (hds : bnd ++ ad ++ caps = renL (sf sel) ds) (hsel : rdOk H (wl (sf sel) sel Hc ++ fr.map fun j => (j, .dead))) (hd : dOk Y.X.N dst = true) (k : ∀ z, MS Y ops Q rest (putV dst (dd z) l) (H2 z) (f z) T) :
    MS Y ops Q ({ dst := dst, op := .call { callee := .value y, args := args.toArray, argTypes := tys }, type := ty, pos := pos, after := af, guard := none } :: rest) l H (x.bind f) T := fun hQ => by
  obtain ⟨z, h1, h2⟩ := hQ.bind
  obtain ⟨c1, c2, c3, c4⟩ := hc z h1
  refine SJ.it (It.callVW c1 hf hy hargs hds c2) hsel hd ?_
  rw [c3, c4]; exact k z h2
theorem MA.cd {α : Type} {g : FuncId} {args : List Operand} {tys : Array TypeId} {ds : List V} {Hc : List Ob} {rr dd : α → V} {HH H2 : α → List Ob} {x : Option α} {f : α → Option R} (sel fr : List Nat) (hc : ∀ z, x = some z → CallOk Y.X.P g ds Hc (rr z) (HH z) sel fr H (dd z) (H2 z)) (hf : ∀ args w, (callFunc g args).run Y.X.P w = .ok (.enter g args) w)
    (hargs : AW (evV l) args (renL (sf sel) ds)) (hsel : rdOk H (wl (sf sel) sel Hc ++ fr.map fun j => (j, .dead))) (hw : ∀ z, (wl (sf (sel ++ fr)) (sel ++ fr) (HH z)).map (·.1) = sel ++ fr) (hg : GOk os l gd) (k : ∀ z, MA Y Q os rest (putV dst (dd z) l) (H2 z) (acc ++ [((wl (sf sel) sel Hc ++ fr.map fun j => (j, Ob.dead)).map (·.1), sel ++ fr)]) (f z) T) :
    MA Y Q os ({ dst := dst, op := .call { callee := .value (.func g), args := args.toArray, argTypes := tys }, type := ty, pos := pos, after := af, guard := gd } :: rest) l H acc (x.bind f) T := fun hQ => by
  obtain ⟨z, h1, h2⟩ := hQ.bind
  obtain ⟨c1, c2, c3, c4⟩ := hc z h1
  refine AJ.gi (It.callW c1 hf rfl hargs c2) hsel hg ?_
  rw [c3, c4, hw z]; exact k z h2
end
end Go.Dp
namespace Go.Dp
open Go Go.Mi Go.RowKit
def mk {α : Type} (n : Int) (x : α) : Option (List α) := if 0 ≤ n ∧ n ≤ 1099511627776 then some (List.replicate n.toNat x) else none
/-- the place of an element of a slice that was made, with the element -/
def ixn {α : Type} (n : Nat) (xs : List α) (j : Int) : Option { q : Nat × α // xs[q.1]? = some q.2 } := if 0 ≤ j ∧ j < n then (match h : xs[j.toNat]? with | some x => some ⟨(j.toNat, x), h⟩ | none => none) else none
def fz {α : Type} (n : Nat) (xs : List α) : Option (List α) := if xs.length = n then some xs else none
theorem fz_some {α : Type} {n : Nat} {xs z : List α} (h : fz n xs = some z) : xs.length = n ∧ z = xs := by
  unfold fz at h; split at h
  · cases h; exact ⟨by assumption, rfl⟩
  · cases h
def mx (a b : Int) : Int := if b > a then b else a
def mn (a b : Int) : Int := if b < a then b else a
theorem mk_some {α : Type} {n : Int} {x : α} {z : List α} (h : mk n x = some z) : (0 ≤ n ∧ n ≤ 1099511627776) ∧ z = List.replicate n.toNat x := by
  unfold mk at h; split at h
  · cases h; exact ⟨by assumption, rfl⟩
  · cases h
theorem flat_map {α : Type} {e : α → List P} {c : α → P} (he : ∀ x, e x = [c x]) (xs : List α) : xs.flatMap e = xs.map c := by
  induction xs with
  | nil => rfl
  | cons x xs ih => rw [List.flatMap_cons, he, ih]; rfl
section
variable {Pg : Program} {ty : TypeId} {ρ : Operand → Option V}
theorem i_mk {α : Type} {t e bytes i : Nat} {z : Value} {x : Operand} {K : IntKind} {n : Int} {c : α → P} {x0 : α} (ht : Pg.underlying t = some (.slice e)) (hi : (Pg.info? e).map (fun i => (i.zero, i.size, i.bytes)) = some (some z, 1, bytes)) (hz : z.cells = #[z]) (hx : ρ x = some (.p (.v (.int K n)))) (hb : Nat.ble bytes 128 = true)
    (hn : 0 ≤ n ∧ n ≤ 1099511627776) (h0 : ∀ E w, RP E w (c x0) z) : It Pg (.makeSlice t x x) ty ρ [(i, .dead)] [(i, .pc e ((List.replicate n.toNat x0).map c))] (.arr i 0 n.toNat n.toNat) := fun g w H ev o hop _ hr hrd h => by
  have e1 := (h x (by simp [Op.operands]) _ hx).vi
  have hd := hrd.one
  obtain ⟨q, hi0, hiz, his, hib⟩ : ∃ i, Pg.info? e = some i ∧ i.zero = some z ∧ i.size = 1 ∧ i.bytes = bytes := by
    cases hx : Pg.info? e with
    | none => rw [hx] at hi; cases hi
    | some i => rw [hx] at hi; simp only [Option.map_some, Option.some.injEq, Prod.mk.injEq] at hi; exact ⟨i, rfl, hi.1, hi.2.1, hi.2.2⟩
  have hby : bytes * n.toNat ≤ 281474976710656 := by
    have := Nat.le_of_ble_eq_true hb
    calc bytes * n.toNat ≤ 128 * 1099511627776 := Nat.mul_le_mul this (by omega)
      _ ≤ 281474976710656 := by decide
  have hnn : ((n.toNat : Nat) : Int) = n := Int.toNat_of_nonneg hn.1
  have hmk := run_make (P := Pg) w t e q z ht hi0 hiz K K (n.toNat : Int) (n.toNat : Int) (by omega) (Int.le_refl _) (by have h := Int.ofNat_le.2 hby; rw [Int.natCast_mul] at h; rw [hib]; exact h) (by omega)
  have hcs : madeCells z.cells (n.toNat * 1) = (List.replicate n.toNat z).toArray := by
    apply Array.toList_inj.1
    rw [Nat.mul_one, hz, toList_madeCells_one]
  simp only [Int.toNat_natCast, his, hcs] at hmk
  have hp : RPs g.E w ((List.replicate n.toNat x0).map c) (List.replicate n.toNat z) := by
    refine ⟨by simp, fun j p u h1 h2 => ?_⟩
    rw [List.map_replicate, List.getElem?_replicate] at h1
    rw [List.getElem?_replicate] at h2
    split at h1
    · rename_i hj
      rw [if_pos hj] at h2; cases h1; cases h2; exact h0 _ _
    · cases h1
  refine .inl ⟨.slice (some ⟨w.heap.size, 0, none⟩) n.toNat n.toNat, w.alloc (.cells (List.replicate n.toNat z).toArray e), ?_, _, Rs.varP hr hd hp, ?_⟩
  · unfold execOp; rw [hop]
    rw [hnn] at hmk
    simp [e1, hmk, Sem.run_bind, Result.andThen]
  · have := RV.arr (g := ⟨upd g.β i w.heap.size, upd g.E w.heap.size 0, g.h⟩) (w := w.alloc (.cells (List.replicate n.toNat z).toArray e)) (H := setW H [(i, .pc e ((List.replicate n.toNat x0).map c))]) (i := i) (off := 0) (n := n.toNat) (cap := n.toNat) (by unfold live; show liveO (H.set i _)[i]?; rw [set_eq (List.getElem?_eq_some_iff.1 hd).1]; trivial)
    simpa [upd_eq] using this
open Classical in
theorem i_max {x y : Operand} {tys : Array TypeId} {k : IntKind} {a b : Int} (hx : ρ x = some (.p (.v (.int k a)))) (hy : ρ y = some (.p (.v (.int k b)))) : It Pg (.call { callee := .builtin .max, args := #[x, y], argTypes := tys }) ty ρ [] [] (.p (.v (.int k (mx a b)))) := .plain fun w e o ho _ hf => by
  have e1 := hf x (by simp [Op.operands, Call.operands]) _ hx
  have e2 := hf y (by simp [Op.operands, Call.operands]) _ hy
  unfold execOp; rw [ho]; simp [resolve, invoke, builtin, Builtin.max_, Builtin.max2, e1, e2, Sem.run_bind, Result.andThen, mx]
theorem i_min {x y : Operand} {tys : Array TypeId} {k : IntKind} {a b : Int} (hx : ρ x = some (.p (.v (.int k a)))) (hy : ρ y = some (.p (.v (.int k b)))) : It Pg (.call { callee := .builtin .min, args := #[x, y], argTypes := tys }) ty ρ [] [] (.p (.v (.int k (mn a b)))) := .plain fun w e o ho _ hf => by
  have e1 := hf x (by simp [Op.operands, Call.operands]) _ hx
  have e2 := hf y (by simp [Op.operands, Call.operands]) _ hy
  unfold execOp; rw [ho]; simp [resolve, invoke, builtin, Builtin.min_, Builtin.min2, e1, e2, Sem.run_bind, Result.andThen, mn]
theorem i_mkL {α : Type} {t e bytes i : Nat} {zv : Value} {x : Operand} {K : IntKind} {n : Int} {c : α → P} {x0 : α} {z : List α} (ht : Pg.underlying t = some (.slice e)) (hi : (Pg.info? e).map (fun i => (i.zero, i.size, i.bytes)) = some (some zv, 1, bytes)) (hz : zv.cells = #[zv]) (hx : ρ x = some (.p (.v (.int K n)))) (hb : Nat.ble bytes 128 = true)
    (hn : mk n x0 = some z) (h0 : ∀ E w, RP E w (c x0) zv) : It Pg (.makeSlice t x x) ty ρ [(i, .dead)] [(i, .pc e (z.map c))] (.arr i 0 z.length z.length) := by
  obtain ⟨h1, rfl⟩ := mk_some hn
  have := i_mk (i := i) (ty := ty) ht hi hz hx hb h1 h0
  simpa using this
theorem i_lenA {T E i off n cap : Nat} {x : Operand} (hT : ∀ w, (underlying T).run Pg w = .ok (.slice E) w) (hx : ρ x = some (.arr i off n cap)) : It Pg (.call { callee := .builtin .len, args := #[x], argTypes := #[T] }) ty ρ [] [] (vI n) := .pure fun g w H e q hq _ _ h => by
  have e1 := h x (by simp [Op.operands, Call.operands]) _ hx
  generalize he : e x = v at e1
  cases e1 with
  | arr hl => exact ⟨_, by unfold execOp; rw [hq]; simp [resolve, invoke, builtin, Builtin.len_, he, hT, Sem.run_bind, Result.andThen, goInt], .v _⟩
end
/-! what is not written to any more -/
theorem RV.mo1 {g : Gh} {w : World} {H : List Ob} {E' : Nat → Nat} (hE : ∀ b, b < w.heap.size → g.E b ≤ E' b) {d : V} {v : Value} (h : RV g w H d v) : RV ⟨g.β, E', g.h⟩ w H d v :=
  RV.mo (g := g) (g' := ⟨g.β, E', g.h⟩) (w' := w) (H' := H) ⟨Nat.le_refl _, hE, fun _ _ _ _ => rfl, fun _ h => ⟨h, rfl⟩, fun _ m h => ⟨m, h, Nat.le_refl _, fun _ => rfl⟩⟩ h
theorem Rs.fz {w0 : World} {g0 : Gh} {H0 : List Ob} {g : Gh} {w : World} {H : List Ob} {i T : Nat} {cs : List P} (h : Rs w0 g0 H0 g w H) (hi : H[i]? = some (.pc T cs)) (h0 : H0.length ≤ i) (hn : H.all (Ob.no i) = true) :
    Rs w0 g0 H0 ⟨g.β, upd g.E (g.β i) cs.length, g.h⟩ w (H.set i .dead) ∧ (∀ b, b < w.heap.size → g.E b ≤ upd g.E (g.β i) cs.length b) := by
  have hil := (List.getElem?_eq_some_iff.1 hi).1
  obtain ⟨us, hB, hp, hE0⟩ := h.ob i _ hi
  have hoi : own g H i (g.β i) := by unfold own; rw [hi]; rfl
  have hk := h.kill h0 hn
  have hno : ∀ j, ¬ own g (H.set i .dead) j (g.β i) := fun j ho => by
    by_cases e : j = i
    · subst e; unfold own at ho; rw [set_eq hil] at ho; exact ho
    · unfold own at ho; rw [set_ne e] at ho; exact e (h.sep j i _ ho hoi)
  have hE : ∀ b, g.E b ≤ upd g.E (g.β i) cs.length b := fun b => by
    by_cases e : b = g.β i
    · subst e; rw [hE0]; exact Nat.zero_le _
    · rw [upd_ne e]; exact Nat.le_refl _
  have hmo : Mo g w (H.set i .dead) ⟨g.β, upd g.E (g.β i) cs.length, g.h⟩ w (H.set i .dead) := ⟨Nat.le_refl _, fun b _ => hE b, fun _ _ _ _ => rfl, fun _ h => ⟨h, rfl⟩, fun _ m h => ⟨m, h, Nat.le_refl _, fun _ => rfl⟩⟩
  have hown : ∀ j b, own ⟨g.β, upd g.E (g.β i) cs.length, g.h⟩ (H.set i .dead) j b ↔ own g (H.set i .dead) j b := fun j b => by
    unfold own
    cases (H.set i .dead)[j]? with
    | none => exact Iff.rfl
    | some o => cases o <;> exact Iff.rfl
  refine ⟨⟨h.os, h.tape, h.output, h.gl.mo hmo, hk.mo.trans hmo, fun b hb hq => ?_, fun j o hj => ?_, fun a c b h1 h2 => hk.sep a c b ((hown a b).1 h1) ((hown c b).1 h2), fun a b h1 => hk.lb a b ((hown a b).1 h1)⟩, fun b _ => hE b⟩
  · obtain ⟨a, c⟩ := h.blk b hb hq
    refine ⟨a, ?_⟩
    by_cases e : b = g.β i
    · subst e
      rcases h.lb i _ hoi with ⟨j, hj⟩ | hge
      · exact absurd hj (hq j)
      · omega
    · show upd g.E (g.β i) cs.length b = _
      rw [upd_ne e]; exact c
  · refine RO.mo hmo hj (fun b hb => ⟨rfl, ?_⟩) (fun _ _ _ _ _ => rfl) (hk.ob j o hj)
    have : b ≠ g.β i := fun e => by subst e; exact hno j hb
    exact upd_ne this
section
variable {Y : Cy} {Q : Exit → Act → World → Prop} {l : Fv} {H : List Ob} {R : Type} {m : Option R} {T : R → Prop}
theorem MD.fz0 {α : Type} {e : Exit} {l' : Fv} {T' i n t : Nat} {c : α → P} {xs : List α} (ec : α → List P) (he : ∀ x, ec x = [c x]) (hi : H[i]? = some (.pc T' (xs.map c))) (ht : lk l t = some (.arr i 0 n n)) (hn : n = xs.length) (hs : Sv l l') (h0 : Nat.ble Y.H0.length i = true) (hno : H.all (Ob.no i) = true) (hl : l'.all (fun q => q.2.no i) = true) (h : MD Y Q e ((t, vL 1 ec xs) :: l') (H.set i .dead) m T) : MD Y Q e l H m T := fun q g w a hr ha => by
  subst hn
  obtain ⟨us, hB, hp, hE0⟩ := hr.ob i _ hi
  obtain ⟨k1, k2⟩ := hr.fz hi (Nat.le_of_ble_eq_true h0) hno
  have ha' := (ha.sub hs).kill hl
  refine h q _ w a k1 ⟨ha'.1, ha'.2.1, fun s d hd => ?_⟩
  simp only [lk] at hd
  by_cases e : t = s
  · subst e
    rw [show Nat.beq t t = true from Nat.beq_refl t] at hd
    simp only [cond_true, Option.some.injEq] at hd
    subst hd
    obtain ⟨v, h1, h2⟩ := ha.2.2 t _ ht
    refine ⟨v, h1, ?_⟩
    cases h2 with
    | arr hv =>
      refine .p ?_
      unfold sl
      rw [flat_map he]
      refine RPs.sl (us := us) ?_ ?_ (Nat.le_refl _) ?_ hB.lt fun j u hj => ?_
      · exact hp.mo (Nat.le_refl _) k2 (fun _ _ _ _ => rfl)
      · have := hp.1; simp at this ⊢; try omega
      · show 0 + xs.length * 1 ≤ upd g.E (g.β i) _ (g.β i); rw [upd_eq]; simp
      · rw [hB.cell, Nat.zero_add]; exact hj
  · rw [beq_ne e] at hd
    obtain ⟨v, h1, h2⟩ := ha'.2.2 s d hd
    exact ⟨v, h1, h2.mo1 k2⟩
/-- from here on a slice that was made is a list -/
theorem MD.fz {α : Type} {e : Exit} {l' : Fv} {T' i n t : Nat} {c : α → P} {xs : List α} {f : List α → Option R} (ec : α → List P) (he : ∀ x, ec x = [c x]) (hi : H[i]? = some (.pc T' (xs.map c))) (ht : lk l t = some (.arr i 0 n n)) (hs : Sv l l') (h0 : Nat.ble Y.H0.length i = true) (hno : H.all (Ob.no i) = true) (hl : l'.all (fun q => q.2.no i) = true) (h : ∀ z, MD Y Q e ((t, vL 1 ec z) :: l') (H.set i .dead) (f z) T) : MD Y Q e l H ((fz n xs).bind f) T := fun hQ => by
  obtain ⟨z, h1, h2⟩ := hQ.bind
  obtain ⟨h3, rfl⟩ := fz_some h1
  exact MD.fz0 ec he hi ht h3.symm hs h0 hno hl (h _) h2
end
end Go.Dp
