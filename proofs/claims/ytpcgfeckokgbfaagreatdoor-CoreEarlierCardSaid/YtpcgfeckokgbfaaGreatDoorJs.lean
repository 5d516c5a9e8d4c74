/- Code beside a function that may fail: rules for slices that are written to in place. -/
import Derived.Test.YtpcgfeckokgbfaaGreatDoorJi
import Derived.LoopNIn
import Derived.Test.YtpcgfeckokgbfaaGreatDoorJr
set_option linter.all false
namespace Go.Dp
open Go Go.Mi Go.RowKit
section
variable {Y : Cy} {Q : Exit → Act → World → Prop} {l : Fv} {H : List Ob} {R : Type} {m : Option R} {T : R → Prop} {ops : Array Oper} {os rest : List Oper} {acc : List (List Nat × List Nat)} {t : Nat} {ty : TypeId} {pos : String} {af : Array Edge} {gd : Option (Nat × Bool)} {dst : Option Tmp}
theorem MS.mk {α : Type} {U el bytes : Nat} {zv : Value} {x : Operand} {K : IntKind} {n : Int} {f : List α → Option R} (i : Nat) (c : α → P) (x0 : α) (ht : Y.X.P.underlying U = some (.slice el)) (hin : (Y.X.P.info? el).map (fun i => (i.zero, i.size, i.bytes)) = some (some zv, 1, bytes)) (hz : zv.cells = #[zv]) (hx : evV l x = some (.p (.v (.int K n)))) (hb : Nat.ble bytes 128 = true) (h0 : ∀ E w, RP E w (c x0) zv) (hi : H[i]? = some .dead) (hd : Nat.blt t Y.X.N = true) (k : ∀ z : List α, MS Y ops Q rest ((t, .arr i 0 z.length z.length) :: l) (H.set i (.pc el (z.map c))) (f z) T) : MS Y ops Q ({ dst := some t, op := .makeSlice U x x, type := ty, pos := pos, after := af, guard := none } :: rest) l H ((Go.Dp.mk n x0).bind f) T := fun hQ => by
  obtain ⟨z, h1, h2⟩ := hQ.bind
  skip
  exact SJ.it (dst := some t) (i_mkL (i := i) ht hin hz hx hb h1 h0) (rd1 hi) hd (k _ h2)
theorem MA.mk {α : Type} {U el bytes : Nat} {zv : Value} {x : Operand} {K : IntKind} {n : Int} {f : List α → Option R} (i : Nat) (c : α → P) (x0 : α) (ht : Y.X.P.underlying U = some (.slice el)) (hin : (Y.X.P.info? el).map (fun i => (i.zero, i.size, i.bytes)) = some (some zv, 1, bytes)) (hz : zv.cells = #[zv]) (hx : evV l x = some (.p (.v (.int K n)))) (hb : Nat.ble bytes 128 = true) (h0 : ∀ E w, RP E w (c x0) zv) (hi : H[i]? = some .dead) (hg : GOk os l gd) (k : ∀ z : List α, MA Y Q os rest ((t, .arr i 0 z.length z.length) :: l) (H.set i (.pc el (z.map c))) (acc ++ [([i], [i])]) (f z) T) : MA Y Q os ({ dst := some t, op := .makeSlice U x x, type := ty, pos := pos, after := af, guard := gd } :: rest) l H acc ((Go.Dp.mk n x0).bind f) T := fun hQ => by
  obtain ⟨z, h1, h2⟩ := hQ.bind
  skip
  exact AJ.gi (dst := some t) (i_mkL (i := i) ht hin hz hx hb h1 h0) (rd1 hi) hg (k _ h2)
theorem MS.cw {α : Type} {g : FuncId} {args : List Operand} {tys : Array TypeId} {ds : List V} {x : Option α} {dd : α → V} {f : α → Option R} (hc : ∀ z, x = some z → CP Y.X.P g ds (dd z)) (hf : ∀ args w, (callFunc g args).run Y.X.P w = .ok (.enter g args) w) (hargs : AW (evV l) args (renL (sf []) ds)) (hlt : ltL 0 ds = true) (hr : ∀ z, (dd z).ren (sf []) = dd z) (hd : Nat.blt t Y.X.N = true) (k : ∀ z : α, MS Y ops Q rest ((t, dd z) :: l) H (f z) T) : MS Y ops Q ({ dst := some t, op := .call { callee := .value (.func g), args := args.toArray, argTypes := tys }, type := ty, pos := pos, after := af, guard := none } :: rest) l H (x.bind f) T := fun hQ => by
  obtain ⟨z, h1, h2⟩ := hQ.bind
  skip
  exact SJ.it (dst := some t) (It.cw (hc z h1) hf rfl hargs hlt (hr z)) rd0 hd (k _ h2)
theorem MA.cw {α : Type} {g : FuncId} {args : List Operand} {tys : Array TypeId} {ds : List V} {x : Option α} {dd : α → V} {f : α → Option R} (hc : ∀ z, x = some z → CP Y.X.P g ds (dd z)) (hf : ∀ args w, (callFunc g args).run Y.X.P w = .ok (.enter g args) w) (hargs : AW (evV l) args (renL (sf []) ds)) (hlt : ltL 0 ds = true) (hr : ∀ z, (dd z).ren (sf []) = dd z) (hg : GOk os l gd) (k : ∀ z : α, MA Y Q os rest ((t, dd z) :: l) H (acc ++ [([], [])]) (f z) T) : MA Y Q os ({ dst := some t, op := .call { callee := .value (.func g), args := args.toArray, argTypes := tys }, type := ty, pos := pos, after := af, guard := gd } :: rest) l H acc (x.bind f) T := fun hQ => by
  obtain ⟨z, h1, h2⟩ := hQ.bind
  skip
  exact AJ.gi (dst := some t) (It.cw (hc z h1) hf rfl hargs hlt (hr z)) rd0 hg (k _ h2)
theorem MS.max {tys : Array TypeId} {x y : Operand} {i : IntKind} {a b : Int} (hx : evV l x = some (.p (.v (.int i a)))) (hy : evV l y = some (.p (.v (.int i b)))) (hd : Nat.blt t Y.X.N = true) (k : MS Y ops Q rest ((t, .p (.v (.int i (mx a b)))) :: l) H m T) : MS Y ops Q ({ dst := some t, op := .call { callee := .builtin .max, args := #[x, y], argTypes := tys }, type := ty, pos := pos, after := af, guard := none } :: rest) l H m T := fun hQ => SJ.it (dst := some t) (i_max hx hy) rd0 hd (k hQ)
theorem MA.max {tys : Array TypeId} {x y : Operand} {i : IntKind} {a b : Int} (hx : evV l x = some (.p (.v (.int i a)))) (hy : evV l y = some (.p (.v (.int i b)))) (hg : GOk os l gd) (k : MA Y Q os rest ((t, .p (.v (.int i (mx a b)))) :: l) H (acc ++ [([], [])]) m T) : MA Y Q os ({ dst := some t, op := .call { callee := .builtin .max, args := #[x, y], argTypes := tys }, type := ty, pos := pos, after := af, guard := gd } :: rest) l H acc m T := fun hQ => AJ.gi (dst := some t) (i_max hx hy) rd0 hg (k hQ)
theorem MS.min {tys : Array TypeId} {x y : Operand} {i : IntKind} {a b : Int} (hx : evV l x = some (.p (.v (.int i a)))) (hy : evV l y = some (.p (.v (.int i b)))) (hd : Nat.blt t Y.X.N = true) (k : MS Y ops Q rest ((t, .p (.v (.int i (mn a b)))) :: l) H m T) : MS Y ops Q ({ dst := some t, op := .call { callee := .builtin .min, args := #[x, y], argTypes := tys }, type := ty, pos := pos, after := af, guard := none } :: rest) l H m T := fun hQ => SJ.it (dst := some t) (i_min hx hy) rd0 hd (k hQ)
theorem MA.min {tys : Array TypeId} {x y : Operand} {i : IntKind} {a b : Int} (hx : evV l x = some (.p (.v (.int i a)))) (hy : evV l y = some (.p (.v (.int i b)))) (hg : GOk os l gd) (k : MA Y Q os rest ((t, .p (.v (.int i (mn a b)))) :: l) H (acc ++ [([], [])]) m T) : MA Y Q os ({ dst := some t, op := .call { callee := .builtin .min, args := #[x, y], argTypes := tys }, type := ty, pos := pos, after := af, guard := gd } :: rest) l H acc m T := fun hQ => AJ.gi (dst := some t) (i_min hx hy) rd0 hg (k hQ)
theorem MS.mf {g : FuncId} {bnd cap : List Operand} {bs cs : List V} (hb : evs l bnd = some bs) (hc : evs l cap = some cs) (hd : Nat.blt t Y.X.N = true) (k : MS Y ops Q rest ((t, .fn (.func g) bs cs) :: l) H m T) : MS Y ops Q ({ dst := some t, op := .makeFunc (.func g) bnd.toArray cap.toArray, type := ty, pos := pos, after := af, guard := none } :: rest) l H m T := fun hQ => SJ.it (dst := some t) (i_makeFunc (evs_map hb) (evs_map hc)) rd0 hd (k hQ)
theorem MA.mf {g : FuncId} {bnd cap : List Operand} {bs cs : List V} (hb : evs l bnd = some bs) (hc : evs l cap = some cs) (hg : GOk os l gd) (k : MA Y Q os rest ((t, .fn (.func g) bs cs) :: l) H (acc ++ [([], [])]) m T) : MA Y Q os ({ dst := some t, op := .makeFunc (.func g) bnd.toArray cap.toArray, type := ty, pos := pos, after := af, guard := gd } :: rest) l H acc m T := fun hQ => AJ.gi (dst := some t) (i_makeFunc (evs_map hb) (evs_map hc)) rd0 hg (k hQ)
theorem MS.lnA {U E i n cap : Nat} {x : Operand} (hT : ∀ w, (underlying U).run Y.X.P w = .ok (.slice E) w) (hx : evV l x = some (.arr i 0 n cap)) (hd : Nat.blt t Y.X.N = true) (k : MS Y ops Q rest ((t, vI n) :: l) H m T) : MS Y ops Q ({ dst := some t, op := .call { callee := .builtin .len, args := #[x], argTypes := #[U] }, type := ty, pos := pos, after := af, guard := none } :: rest) l H m T := fun hQ => SJ.it (dst := some t) (i_lenA hT hx) rd0 hd (k hQ)
theorem MA.lnA {U E i n cap : Nat} {x : Operand} (hT : ∀ w, (underlying U).run Y.X.P w = .ok (.slice E) w) (hx : evV l x = some (.arr i 0 n cap)) (hg : GOk os l gd) (k : MA Y Q os rest ((t, vI n) :: l) H (acc ++ [([], [])]) m T) : MA Y Q os ({ dst := some t, op := .call { callee := .builtin .len, args := #[x], argTypes := #[U] }, type := ty, pos := pos, after := af, guard := gd } :: rest) l H acc m T := fun hQ => AJ.gi (dst := some t) (i_lenA hT hx) rd0 hg (k hQ)
end
end Go.Dp
namespace Go.Dp
open Go Go.Mi Go.RowKit
abbrev pv (v : Value) : V := .p (.v v)
theorem RVs.vals {g : Gh} {w : World} {H : List Ob} : ∀ {xs vs : List Value}, RVs g w H (xs.map pv) vs → vs = xs
  | [], _, .nil => rfl
  | _ :: _, _, .cons h hs => by rw [h.vi, RVs.vals hs]
theorem RV.aggv {g : Gh} {w : World} {H : List Ob} {xs : List Value} {v : Value} (h : RV g w H (.agg (xs.map pv)) v) : v = .agg xs.toArray := by
  generalize hd : V.agg (xs.map pv) = d at h
  cases h with
  | agg h => cases hd; rw [h.vals]
  | _ => cases hd
section
variable {Pg : Program} {ty : TypeId} {ρ : Operand → Option V} {T U : TypeId} {x y : Operand} {xs ys : List Value} {r : Bool}
theorem i_neA (hE : ∀ w, (Op.equal T (.agg xs.toArray) (.agg ys.toArray)).run Pg w = .ok r w) (hG : Pg.eqGuardType Pg.depth T = false) (hx : ρ x = some (.agg (xs.map pv))) (hy : ρ y = some (.agg (ys.map pv))) : It Pg (.binOp .neq T x y U) ty ρ [] [] (vB (!r)) := .pure fun g w H e o ho _ _ hf => by
  have e1 := (hf x (by simp [Op.operands]) _ hx).aggv
  have e2 := (hf y (by simp [Op.operands]) _ hy).aggv
  have h1 : ∀ a b, (eqGuard .neq T a b (.agg xs.toArray) (.agg ys.toArray)).run Pg w = .ok () w := fun a b => by unfold eqGuard; simp [Sem.run_bind, hG, Result.andThen]
  have h3 : binOp .neq T (.agg xs.toArray) (.agg ys.toArray) = (do pure (.bool (!(← Op.equal T (.agg xs.toArray) (.agg ys.toArray)))) : Sem Value) := rfl
  exact ⟨.bool (!r), by unfold execOp; rw [ho]; simp only [e1, e2, Sem.run_bind, h1, h3, hE, Result.andThen, Sem.run_pure], .v _⟩
theorem i_neB {a b : Bool} (hT : ∀ w, (underlying T).run Pg w = .ok .bool w) (hx : ρ x = some (vB a)) (hy : ρ y = some (vB b)) : It Pg (.binOp .neq T x y U) ty ρ [] [] (vB (!(a == b))) :=
  i_bin hx hy fun w' => by
    unfold binOp Op.equal
    rw [show Op.maxDepth = 9999 + 1 from rfl]
    unfold Op.equalIn
    cases a <;> cases b <;> simp [Sem.run_bind, eqGuard, Result.andThen, hT]
end
/-! a loop, round by round -/
def LoopW (F : Fence) (n : Nat) (P : Program) (c : Code) (Q : Exit → Act → World → Prop) (a : Act) (w : World) : Prop :=
  ∀ (b : Frame) (k : List Item) (cs : List Frame), b.roundOf = F.round → F.fn b.fn → F.room (cs.length + 1 + n) →
    ∃ e a' w', Q e a' w' ∧ ArrivesIn (Machine.fenced P F) P (lone (b.atR a (.code c :: .inLoop c :: k)) cs w) b k cs e a' w'
theorem LoopW.of {F : Fence} {n : Nat} {P : Program} {c : Code} {Q : Exit → Act → World → Prop} {a : Act} {w : World} (h : c.wpIn F n P (Exit.then (LoopW F n P c Q) Q) a w) : LoopW F n P c Q a w := by
  intro b k cs hro hb hr
  obtain ⟨e, a₁, w₁, hq, harr⟩ := h b (.inLoop c :: k) cs hro hb hr
  cases e with
  | normal =>
    obtain ⟨e₂, a₂, w₂, hq₂, harr₂⟩ := hq b k cs hro hb hr
    exact ⟨e₂, a₂, w₂, hq₂, .of_steps (StepsIn.trans harr (.one (fenced_calm hb hr rfl) stepR_inLoop)) harr₂⟩
  | exit id => exact ⟨_, a₁, w₁, hq, .pass (x := .inLoop c) rfl (fun _ _ => .inl (by simp)) harr⟩
  | goto l => exact ⟨_, a₁, w₁, hq, .pass (x := .inLoop c) rfl (fun _ _ => .inl (by simp)) harr⟩
  | ret => exact ⟨_, a₁, w₁, hq, .pass (x := .inLoop c) rfl (fun _ _ => .inl (by simp)) harr⟩
  | panic ch => exact ⟨_, a₁, w₁, hq, .pass (x := .inLoop c) rfl (fun _ _ => .inl (by simp)) harr⟩
  | outgrown => exact ⟨_, a₁, w₁, hq, .pass (x := .inLoop c) rfl (fun _ _ => .inl (by simp)) harr⟩
theorem LoopW.loop {F : Fence} {n : Nat} {P : Program} {c : Code} {Q : Exit → Act → World → Prop} {a : Act} {w : World} (h : LoopW F n P c Q a w) : (Code.loop c).wpIn F n P Q a w := by
  intro b k cs hro hb hr
  obtain ⟨e, a', w', hq, harr⟩ := h b k cs hro hb hr
  exact ⟨e, a', w', hq, .of_steps (.one (fenced_calm hb hr rfl) stepR_loop) harr⟩
def LpU (Y : Cy) (c : Code) (Q : Exit → Act → World → Prop) : Exit → Act → World → Prop := Exit.then (LoopW (Fw Y.X.r) 0 Y.X.P c Q) Q
section
variable {Y : Cy} {Q : Exit → Act → World → Prop} {l : Fv} {H : List Ob} {R : Type} {m : Option R} {T : R → Prop}
theorem MJ.unr {c : Code} (h : MJ Y c (LpU Y c Q) l H m T) : MJ Y (.loop c) Q l H m T := fun e g w a hr ha => (LoopW.of (h e g w a hr ha)).loop
theorem MD.unN {c : Code} (h : MJ Y c (LpU Y c Q) l H m T) : MD Y (LpU Y c Q) .normal l H m T := fun e g w a hr ha => LoopW.of (h e g w a hr ha)
theorem MD.unE {c : Code} {id : Nat} (h : MD Y Q (.exit id) l H m T) : MD Y (LpU Y c Q) (.exit id) l H m T := h
end
section
variable {Y : Cy} {Q : Exit → Act → World → Prop} {l : Fv} {H : List Ob} {R : Type} {m : Option R} {T : R → Prop} {ops : Array Oper} {os rest : List Oper} {acc : List (List Nat × List Nat)} {t : Nat} {ty : TypeId} {pos : String} {af : Array Edge} {gd : Option (Nat × Bool)} {dst : Option Tmp}
theorem MS.neA {U V : TypeId} {x y : Operand} {r : Bool} (xs ys : List Value) (hE : ∀ w, (Op.equal U (.agg xs.toArray) (.agg ys.toArray)).run Y.X.P w = .ok r w) (hG : Y.X.P.eqGuardType Y.X.P.depth U = false) (hx : evV l x = some (.agg (xs.map pv))) (hy : evV l y = some (.agg (ys.map pv))) (hd : Nat.blt t Y.X.N = true) (k : MS Y ops Q rest ((t, vB (!r)) :: l) H m T) : MS Y ops Q ({ dst := some t, op := .binOp .neq U x y V, type := ty, pos := pos, after := af, guard := none } :: rest) l H m T := fun hQ => SJ.it (dst := some t) (i_neA hE hG hx hy) rd0 hd (k hQ)
theorem MA.neA {U V : TypeId} {x y : Operand} {r : Bool} (xs ys : List Value) (hE : ∀ w, (Op.equal U (.agg xs.toArray) (.agg ys.toArray)).run Y.X.P w = .ok r w) (hG : Y.X.P.eqGuardType Y.X.P.depth U = false) (hx : evV l x = some (.agg (xs.map pv))) (hy : evV l y = some (.agg (ys.map pv))) (hg : GOk os l gd) (k : MA Y Q os rest ((t, vB (!r)) :: l) H (acc ++ [([], [])]) m T) : MA Y Q os ({ dst := some t, op := .binOp .neq U x y V, type := ty, pos := pos, after := af, guard := gd } :: rest) l H acc m T := fun hQ => AJ.gi (dst := some t) (i_neA hE hG hx hy) rd0 hg (k hQ)
theorem MS.neB {U V : TypeId} {x y : Operand} {a b : Bool} (hT : ∀ w, (underlying U).run Y.X.P w = .ok .bool w) (hx : evV l x = some (vB a)) (hy : evV l y = some (vB b)) (hd : Nat.blt t Y.X.N = true) (k : MS Y ops Q rest ((t, vB (!(a == b))) :: l) H m T) : MS Y ops Q ({ dst := some t, op := .binOp .neq U x y V, type := ty, pos := pos, after := af, guard := none } :: rest) l H m T := fun hQ => SJ.it (dst := some t) (i_neB hT hx hy) rd0 hd (k hQ)
theorem MA.neB {U V : TypeId} {x y : Operand} {a b : Bool} (hT : ∀ w, (underlying U).run Y.X.P w = .ok .bool w) (hx : evV l x = some (vB a)) (hy : evV l y = some (vB b)) (hg : GOk os l gd) (k : MA Y Q os rest ((t, vB (!(a == b))) :: l) H (acc ++ [([], [])]) m T) : MA Y Q os ({ dst := some t, op := .binOp .neq U x y V, type := ty, pos := pos, after := af, guard := gd } :: rest) l H acc m T := fun hQ => AJ.gi (dst := some t) (i_neB hT hx hy) rd0 hg (k hQ)
/-- calls by value, in any order too -/
theorem MA.cf {α : Type} {g : FuncId} {y : Operand} {bnd caps ad : List V} {args : List Operand} {tys : Array TypeId} {ds : List V} {Hc : List Ob} {rr dd : α → V} {HH H2 : α → List Ob} {x : Option α} {f : α → Option R} (sel fr : List Nat) (hy : evV l y = some (.fn (.func g) bnd caps)) (hc : ∀ z, x = some z → CallOk Y.X.P g ds Hc (rr z) (HH z) sel fr H (dd z) (H2 z)) (hf : ∀ args w, (callFunc g args).run Y.X.P w = .ok (.enter g args) w)
    (hargs : AW (evV l) args ad) (hds : bnd ++ ad ++ caps = renL (sf sel) ds) (hsel : rdOk H (wl (sf sel) sel Hc ++ fr.map fun j => (j, .dead))) (hw : ∀ z, (wl (sf (sel ++ fr)) (sel ++ fr) (HH z)).map (·.1) = sel ++ fr) (hg : GOk os l gd) (k : ∀ z, MA Y Q os rest (putV dst (dd z) l) (H2 z) (acc ++ [((wl (sf sel) sel Hc ++ fr.map fun j => (j, Ob.dead)).map (·.1), sel ++ fr)]) (f z) T) :
    MA Y Q os ({ dst := dst, op := .call { callee := .value y, args := args.toArray, argTypes := tys }, type := ty, pos := pos, after := af, guard := gd } :: rest) l H acc (x.bind f) T := fun hQ => by
  obtain ⟨z, h1, h2⟩ := hQ.bind
  obtain ⟨c1, c2, c3, c4⟩ := hc z h1
  refine AJ.gi (It.callVW c1 hf hy hargs hds c2) hsel hg ?_
  rw [c3, c4, hw z]; exact k z h2
theorem MS.c0 {α : Type} {g : FuncId} {y : Operand} {args : List Operand} {tys : Array TypeId} {ds : List V} {Hc : List Ob} {rr dd : α → V} {HH H2 : α → List Ob} {x : Option α} {f : α → Option R} (sel fr : List Nat) (hy : evV l y = some (.p (.v (.func (.func g) #[] #[])))) (hc : ∀ z, x = some z → CallOk Y.X.P g ds Hc (rr z) (HH z) sel fr H (dd z) (H2 z)) (hf : ∀ args w, (callFunc g args).run Y.X.P w = .ok (.enter g args) w)
    (hargs : AW (evV l) args (renL (sf sel) ds)) (hsel : rdOk H (wl (sf sel) sel Hc ++ fr.map fun j => (j, .dead))) (hd : dOk Y.X.N dst = true) (k : ∀ z, MS Y ops Q rest (putV dst (dd z) l) (H2 z) (f z) T) :
    MS Y ops Q ({ dst := dst, op := .call { callee := .value y, args := args.toArray, argTypes := tys }, type := ty, pos := pos, after := af, guard := none } :: rest) l H (x.bind f) T := fun hQ => by
  obtain ⟨z, h1, h2⟩ := hQ.bind
  obtain ⟨c1, c2, c3, c4⟩ := hc z h1
  refine SJ.it (It.callV0 c1 hf hy hargs c2) hsel hd ?_
  rw [c3, c4]; exact k z h2
theorem MA.c0 {α : Type} {g : FuncId} {y : Operand} {args : List Operand} {tys : Array TypeId} {ds : List V} {Hc : List Ob} {rr dd : α → V} {HH H2 : α → List Ob} {x : Option α} {f : α → Option R} (sel fr : List Nat) (hy : evV l y = some (.p (.v (.func (.func g) #[] #[])))) (hc : ∀ z, x = some z → CallOk Y.X.P g ds Hc (rr z) (HH z) sel fr H (dd z) (H2 z)) (hf : ∀ args w, (callFunc g args).run Y.X.P w = .ok (.enter g args) w)
    (hargs : AW (evV l) args (renL (sf sel) ds)) (hsel : rdOk H (wl (sf sel) sel Hc ++ fr.map fun j => (j, .dead))) (hw : ∀ z, (wl (sf (sel ++ fr)) (sel ++ fr) (HH z)).map (·.1) = sel ++ fr) (hg : GOk os l gd) (k : ∀ z, MA Y Q os rest (putV dst (dd z) l) (H2 z) (acc ++ [((wl (sf sel) sel Hc ++ fr.map fun j => (j, Ob.dead)).map (·.1), sel ++ fr)]) (f z) T) :
    MA Y Q os ({ dst := dst, op := .call { callee := .value y, args := args.toArray, argTypes := tys }, type := ty, pos := pos, after := af, guard := gd } :: rest) l H acc (x.bind f) T := fun hQ => by
  obtain ⟨z, h1, h2⟩ := hQ.bind
  obtain ⟨c1, c2, c3, c4⟩ := hc z h1
  refine AJ.gi (It.callV0 c1 hf hy hargs c2) hsel hg ?_
  rw [c3, c4, hw z]; exact k z h2
/-- results of two shapes -/
theorem MS.two {α β : Type} {z : α ⊕ β} {f : α ⊕ β → Option R} {l' : α ⊕ β → Fv} {H' : α ⊕ β → List Ob} (h1 : ∀ a, MS Y ops Q rest (l' (.inl a)) (H' (.inl a)) (f (.inl a)) T) (h2 : ∀ b, MS Y ops Q rest (l' (.inr b)) (H' (.inr b)) (f (.inr b)) T) : MS Y ops Q rest (l' z) (H' z) (f z) T := by
  cases z with
  | inl a => exact h1 a
  | inr b => exact h2 b
end
end Go.Dp
namespace Go.Dp
open Go Go.Mi Go.RowKit
section
variable {Y : Cy} {Q : Exit → Act → World → Prop} {l : Fv} {H : List Ob} {R : Type} {m m' : Option R} {T : R → Prop} {ops : Array Oper} {os rest : List Oper} {acc : List (List Nat × List Nat)} {t : Nat} {op : Op} {ty : TypeId} {pos : String} {af : Array Edge} {gd : Option (Nat × Bool)} {dst : Option Tmp} {d : V} {rd wr : List (Nat × Ob)}
theorem MA.q (h : It Y.X.P op ty (evV l) [] [] d) (hg : GOk os l gd) (k : MA Y Q os rest ((t, d) :: l) H (acc ++ [([], [])]) m T) : MA Y Q os ({ dst := some t, op := op, type := ty, pos := pos, after := af, guard := gd } :: rest) l H acc m T := fun hQ => AJ.gi (dst := some t) h rd0 hg (k hQ)
theorem MA.it (h : It Y.X.P op ty (evV l) rd wr d) (hrd : rdOk H rd) (hg : GOk os l gd) (k : MA Y Q os rest (putV dst d l) (setW H wr) (acc ++ [(rd.map (·.1), wr.map (·.1))]) m T) : MA Y Q os ({ dst := dst, op := op, type := ty, pos := pos, after := af, guard := gd } :: rest) l H acc m T := fun hQ => AJ.gi h hrd hg (k hQ)
/-- what the function yields, in other words -/
theorem MD.as {e : Exit} (h : m = m') (k : MD Y Q e l H m' T) : MD Y Q e l H m T := h ▸ k
theorem MS.as (h : m = m') (k : MS Y ops Q rest l H m' T) : MS Y ops Q rest l H m T := h ▸ k
/-- an operation in one state -/
theorem SJ.itR {ρ : Operand → Option V} (h : It Y.X.P op ty ρ [] [] d) (hd : Nat.blt t Y.X.N = true) (k : SJ Y ops Q rest ((t, d) :: l) H) {g : Gh} {w : World} {a : Act} (hr : Rs Y.w0 Y.g0 Y.H0 g w H) (ha : OkD Y.X g w H l a) (hρ : ∀ x u, ρ x = some u → RV g w H u (a.eval x)) :
    segL Y.X ops Q ({ dst := some t, op := op, type := ty, pos := pos, after := af, guard := none } :: rest) a w := by
  simp only [segL, Region.wanted, if_true, Oper.wpIn]
  refine ⟨fun _ _ => trivial, ?_⟩
  have fin : ∀ v w' g', Rs w g H g' w' (setW H []) → RV g' w' (setW H []) d v → segL Y.X ops Q rest (a.put (some t) v) w' := fun v w' g' h1 h2 =>
    k g' w' _ (hr.then h1) ((ha.mo h1.mo).put (dst := some t) hd h2)
  rcases h g w H a.eval { dst := some t, op := op, type := ty, pos := pos, after := af, guard := none } rfl rfl hr.rs0 rd0 (fun x _ u hu => hρ x u hu) with ⟨v, w', h1, g', h2, h3⟩ | ⟨w', h1, g', h2, h3⟩ | ⟨n, h1, h2⟩
  · rw [semAt_of h1 (by intro d h; cases h)]
    exact fin v w' g' h2 h3
  · rw [semAt_of h1 (by intro d h; cases h)]
    exact fin undef w' g' h2 h3
  · rw [semAt_of h1 h2.ne]
    exact h2.upon fun v w' ⟨g', h3, h4⟩ => fin v w' g' h3 h4
/-- is a slice nil: nobody knows, if it has no element -/
theorem MS.nilQ {α : Type} {U W E k s : Nat} {e : α → List P} {xs : List α} (hT : ∀ w, (underlying U).run Y.X.P w = .ok (.slice E) w) (hs : lk l s = some (vL k e xs)) (hd : Nat.blt t Y.X.N = true) (kf : MS Y ops Q rest ((t, vB false) :: l) H m T) (kt : xs = [] → MS Y ops Q rest ((t, vB true) :: l) H m T) :
    MS Y ops Q ({ dst := some t, op := .binOp .eql U (.tmp s) (.const (.slice none 0 0)) W, type := ty, pos := pos, after := af, guard := none } :: rest) l H m T := fun hQ g w a hr ha => by
  obtain ⟨v, h1, h2⟩ := ha.2.2 s _ hs
  have hev : a.eval (.tmp s) = v := by simp [Act.eval, h1]
  have key : ∀ (b : Bool), (∀ w', (do eqGuard .eql U (.tmp s) (.const (.slice none 0 0)) v (.slice none 0 0); binOp .eql U v (.slice none 0 0) : Sem Value).run Y.X.P w' = .ok (.bool b) w') → SJ Y ops Q rest ((t, vB b) :: l) H →
      segL Y.X ops Q ({ dst := some t, op := .binOp .eql U (.tmp s) (.const (.slice none 0 0)) W, type := ty, pos := pos, after := af, guard := none } :: rest) a w := fun b hb hk => by
    refine SJ.itR (ρ := fun | .tmp s' => cond (Nat.beq s s') (some (.p (.v v))) none | .const c => some (.p (.v c)) | _ => none) (i_bin (vx := v) (vy := .slice none 0 0) (by simp) rfl hb) hd hk hr ha fun x u hu => ?_
    cases x with
    | tmp s' =>
      simp only at hu
      cases hb : Nat.beq s s' with
      | true => rw [hb] at hu; have := Nat.eq_of_beq_eq_true hb; subst this; simp at hu; subst hu; rw [hev]; exact .v _
      | false => rw [hb] at hu; cases hu
    | const c => simp only [Option.some.injEq] at hu; subst hu; exact .v _
    | global q => cases hu
    | func f => cases hu
  cases h2 with
  | p h2 =>
    rcases h2.row with ⟨rfl, hn, _⟩ | ⟨b, of, cap, us, rfl, _⟩
    · refine key true (fun w' => ?_) (kt (List.eq_nil_of_length_eq_zero hn) hQ)
      unfold binOp Op.equal
      rw [show Op.maxDepth = 9999 + 1 from rfl]
      unfold Op.equalIn
      simp [eqGuard, Sem.run_bind, Result.andThen, hT]
    · refine key false (fun w' => ?_) (kf hQ)
      unfold binOp Op.equal
      rw [show Op.maxDepth = 9999 + 1 from rfl]
      unfold Op.equalIn
      simp [eqGuard, Sem.run_bind, Result.andThen, hT]
end
/-! a slot in better words -/
section
variable {Y : Cy} {Q : Exit → Act → World → Prop} {l : Fv} {H : List Ob} {R : Type} {m : Option R} {T : R → Prop} {ops : Array Oper} {rest : List Oper} {t : Nat} {op : Op} {ty : TypeId} {pos : String} {af : Array Edge}
theorem OkD.at {X : Cx} {g g' : Gh} {w : World} {H H' : List Ob} {a : Act} {d d' : V} (ha : OkD X g w H l a) (hm : Mo g w H g' w H') (ht : lk l t = some d) (h : ∀ v, RV g w H d v → RV g' w H' d' v) : OkD X g' w H' ((t, d') :: l) a := by
  have ha' := ha.mo hm
  refine ⟨ha'.1, ha'.2.1, fun s x hx => ?_⟩
  simp only [lk] at hx
  by_cases q : t = s
  · subst q
    rw [show Nat.beq t t = true from Nat.beq_refl t] at hx
    simp only [cond_true, Option.some.injEq] at hx
    subst hx
    obtain ⟨v, h1, h2⟩ := ha.2.2 t _ ht
    exact ⟨v, h1, h v h2⟩
  · rw [beq_ne q] at hx; exact ha'.2.2 s x hx
theorem Rs.tokNilV {g : Gh} {w : World} {H : List Ob} {i T k : Nat} (n : Nat) (h : Rs0 g w H) (hi : H[i]? = some .dead) : Rs w g H ⟨g.β, g.E, upd g.h i (.slice none 0 0)⟩ w (H.set i (.tok T k n)) := by
  have hil := (List.getElem?_eq_some_iff.1 hi).1
  have hno : ∀ b, ¬ own g H i b := fun b ho => by unfold own at ho; rw [hi] at ho; exact ho
  refine Rs.one h hil rfl rfl rfl (Nat.le_refl _) (fun b _ _ => ⟨rfl, rfl⟩) (fun b _ ho => absurd ho (hno b)) (fun b ho => absurd ho (hno b)) (fun j hj => ⟨rfl, upd_ne hj⟩) (fun hl => by rw [hi] at hl; exact hl.elim)
    (fun m hm => by rw [hi] at hm; cases hm) (fun b ho => ?_) (fun hmo => ?_)
  · have e : (upd g.h i (.slice none 0 0) i).ownBlock = some b := ho
    rw [upd_eq] at e; cases e
  · refine ⟨0, [], ?_, fun b hb => ?_⟩
    · show World.ownsRow _ 0 T k (upd g.h i _ i) 0 []
      rw [upd_eq]; exact ⟨by simp, .inl ⟨rfl, rfl⟩⟩
    · have e : (upd g.h i (.slice none 0 0) i).ownBlock = some b := hb
      rw [upd_eq] at e; cases e
theorem MD.nilV {α : Type} {e' : Exit} (e : α → List P) (U k i s n : Nat) (ht : lk l s = some (.p (.v (.slice none 0 0)))) (hi : H[i]? = some .dead) (h : MD Y Q e' ((s, tk k e [] i n) :: l) (H.set i (.tok U k n)) m T) : MD Y Q e' l H m T := fun hQ g w a hr ha => by
  have hs := Rs.tokNilV (T := U) (k := k) n hr.rs0 hi
  refine h hQ _ w a (hr.then hs) (ha.at hs.mo ht fun v hv => ?_)
  rw [hv.vi]
  refine .tk .nil ⟨n, ?_, Nat.le_refl _, fun _ => (upd_eq _ _ _).symm⟩
  show curT (H.set i _)[i]? = _
  rw [set_eq (List.getElem?_eq_some_iff.1 hi).1]; rfl
/-- an array becomes a row that nobody writes to any more -/
theorem SJ.frzA {i U off n cap : Nat} {cs : List V} {ps : List P} (ht : lk l t = some (.arr i off n cap)) (hi : H[i]? = some (.cells U cs)) (hp : toPs cs = some ps) (hl : off + n ≤ ps.length) (hc : n ≤ cap) (k : SJ Y ops Q rest ((t, .p (.sl 1 n ((ps.drop off).take n))) :: l) (H.set i (.fz U ps))) : SJ Y ops Q rest l H := fun g w a hr ha => by
  obtain ⟨v, h1, h2⟩ := ha.2.2 t _ ht
  obtain ⟨g', k1, k2⟩ := Rs.freezeA hr.rs0 hi hp hl hc h2
  refine k g' w a (hr.then k1) ?_
  have ha' := ha.mo k1.mo
  refine ⟨ha'.1, ha'.2.1, fun s x hx => ?_⟩
  simp only [lk] at hx
  by_cases q : t = s
  · subst q
    rw [show Nat.beq t t = true from Nat.beq_refl t] at hx
    simp only [cond_true, Option.some.injEq] at hx
    subst hx
    exact ⟨v, h1, k2⟩
  · rw [beq_ne q] at hx; exact ha'.2.2 s x hx
theorem SJ.unA {i U off n cap : Nat} {ps : List P} (ht : lk l t = some (.arr i off n cap)) (hi : H[i]? = some (.fz U ps)) (hl : off + n ≤ ps.length) (hc : n ≤ cap) (k : SJ Y ops Q rest ((t, .p (.sl 1 n ((ps.drop off).take n))) :: l) H) : SJ Y ops Q rest l H := fun g w a hr ha => by
  refine k g w a hr (ha.at (Mo.refl _ _ _) ht fun v hv => ?_)
  obtain ⟨us, hB, hrp, hE⟩ := hr.rs0.ob i _ hi
  cases hv with
  | arr _ =>
    have hul := hrp.1
    refine .p (RPs.sl ((hrp.drop off).take n) (by simp; omega) hc ?_ hB.lt fun j u hj => ?_)
    · rw [hE]; omega
    · rw [List.getElem?_take] at hj
      split at hj
      · rw [List.getElem?_drop] at hj; rw [hB.cell]; exact hj
      · cases hj
theorem toPs_p : ∀ (ps : List P), toPs (ps.map .p) = some ps
  | [] => rfl
  | p :: ps => by simp [toPs, toPs_p ps]
section
variable {α : Type} {U U' E i n : Nat} {x : Operand} {xs : List α} {c : α → P} {f : List α → Option R}
theorem slF_sl {e : α → List P} {a b : Int} {z : List α} (he : ∀ x, e x = [c x]) (h : lx xs a b = some z) (hn : xs.length = n) : P.sl 1 (b.toNat - a.toNat) (((xs.map c).drop (cond (iEq (n : Int) a) 0 (0 + a.toNat * 1))).take (b.toNat - a.toNat)) = sl 1 e z := by
  obtain ⟨⟨h1, h2, h3⟩, rfl⟩ := lx_some h
  unfold sl
  rw [flat_map he]
  have hlen : ((xs.drop a.toNat).take (b.toNat - a.toNat)).length = b.toNat - a.toNat := by simp; omega
  rw [hlen, List.map_take, List.map_drop, iEq_eq]
  by_cases q : (n : Int) = a
  · have : b.toNat - a.toNat = 0 := by omega
    rw [this]; simp
  · simp [q]
theorem MS.slF {lo hi : Option Operand} {a b : Int} (e : α → List P) (he : ∀ x, e x = [c x]) (hT : ∀ w, (underlying U).run Y.X.P w = .ok (.array n E) w) (hE : ∀ w, (sizeOf E).run Y.X.P w = .ok 1 w) (hx : evV l x = some (.ref i 0)) (hi' : H[i]? = some (.cells U' ((xs.map c).map .p))) (hn : xs.length = n)
    (hl : ∀ y, lo = some y → ∃ K, evV l y = some (.p (.v (.int K a)))) (hl0 : lo = none → a = 0) (hh : ∀ y, hi = some y → ∃ K, evV l y = some (.p (.v (.int K b)))) (hh0 : hi = none → b = n) (hd : Nat.blt t Y.X.N = true) (k : ∀ z, MS Y ops Q rest ((t, vL 1 e z) :: l) (H.set i (.fz U' (xs.map c))) (f z) T) :
    MS Y ops Q ({ dst := some t, op := .slice U x lo hi none, type := ty, pos := pos, after := af, guard := none } :: rest) l H ((lx xs a b).bind f) T := fun hQ => by
  obtain ⟨z, h1, h2⟩ := hQ.bind
  obtain ⟨⟨b1, b2, b3⟩, _⟩ := lx_some h1
  refine SJ.it (i_slR hT hE hx (l := a) (h := b) (q := n) ⟨hl, hl0, hh, fun q => ⟨hh0 q, rfl⟩, fun y hy => (by cases hy), fun _ => rfl, b1, b2, by omega, Int.le_refl _⟩) rd0 hd ?_
  refine SJ.frzA (t := t) (i := i) lk_put_eq hi' (toPs_p _) ?_ ?_ ?_
  · rw [iEq_eq, List.length_map]
    by_cases q : (n : Int) = a <;> simp [q] <;> omega
  · omega
  · rw [slF_sl he h1 hn]
    exact fun g w a hr ha => k z h2 g w a hr (ha.sub fun s d hd => ⟨d, by
      simp only [lk, putV] at hd ⊢
      cases hb : Nat.beq t s with
      | true => rw [hb] at hd; exact hd
      | false => rw [hb] at hd; simpa [hb] using hd, .rf⟩)
theorem MS.slG {lo hi : Option Operand} {a b : Int} (e : α → List P) (he : ∀ x, e x = [c x]) (hT : ∀ w, (underlying U).run Y.X.P w = .ok (.array n E) w) (hE : ∀ w, (sizeOf E).run Y.X.P w = .ok 1 w) (hx : evV l x = some (.ref i 0)) (hi' : H[i]? = some (.fz U' (xs.map c))) (hn : xs.length = n)
    (hl : ∀ y, lo = some y → ∃ K, evV l y = some (.p (.v (.int K a)))) (hl0 : lo = none → a = 0) (hh : ∀ y, hi = some y → ∃ K, evV l y = some (.p (.v (.int K b)))) (hh0 : hi = none → b = n) (hd : Nat.blt t Y.X.N = true) (k : ∀ z, MS Y ops Q rest ((t, vL 1 e z) :: l) H (f z) T) :
    MS Y ops Q ({ dst := some t, op := .slice U x lo hi none, type := ty, pos := pos, after := af, guard := none } :: rest) l H ((lx xs a b).bind f) T := fun hQ => by
  obtain ⟨z, h1, h2⟩ := hQ.bind
  obtain ⟨⟨b1, b2, b3⟩, _⟩ := lx_some h1
  refine SJ.it (i_slR hT hE hx (l := a) (h := b) (q := n) ⟨hl, hl0, hh, fun q => ⟨hh0 q, rfl⟩, fun y hy => (by cases hy), fun _ => rfl, b1, b2, by omega, Int.le_refl _⟩) rd0 hd ?_
  refine SJ.unA (t := t) (i := i) lk_put_eq hi' ?_ ?_ ?_
  · rw [iEq_eq, List.length_map]
    by_cases q : (n : Int) = a <;> simp [q] <;> omega
  · omega
  · rw [slF_sl he h1 hn]
    exact fun g w a hr ha => k z h2 g w a hr (ha.sub fun s d hd => ⟨d, by
      simp only [lk, putV] at hd ⊢
      cases hb : Nat.beq t s with
      | true => rw [hb] at hd; exact hd
      | false => rw [hb] at hd; simpa [hb] using hd, .rf⟩)
end
end
/-! a cell that is nil becomes a slice that may grow -/
section
variable {Y : Cy} {Q : Exit → Act → World → Prop} {l : Fv} {H : List Ob} {R : Type} {m : Option R} {T : R → Prop}
end
section
variable {Pg : Program} {ty : TypeId} {ρ : Operand → Option V}
/-- a slice of places -/
theorem i_bsA {l : Fv} {t e k n i : Nat} {z : Value} {parts : List (Nat × Operand)} {ds : List V} (ht : ∀ w, (underlying t).run Pg w = .ok (.slice e) w) (hk : ∀ w, (sizeOf e).run Pg w = .ok k w) (hz : ∀ w, (zeroValue e).run Pg w = .ok z w)
    (hparts : parts = (parts.map (·.2)).zipIdx.map (fun p => (p.2, p.1))) (hx : evs l (parts.map (·.2)) = some ds) (ho : (ds.all fun d => d.cells.all V.one && Nat.beq d.cells.length k) = true) (hn : ds.length = n) (hle : n * k ≤ 16777216) :
    It Pg (.buildSlice t n parts.toArray) ty (evV l) [(i, .dead)] [(i, .cells e (ds.flatMap V.cells))] (.arr i 0 n n) := fun g w H ev o hop _ hr hrd hf => by
  obtain ⟨us, r1, r2, r3⟩ := bsl_runV (Pg := Pg) (ρ := evV l) (t := t) (e := e) (k := k) (n := n) (os := parts.map (·.2)) (parts := parts.toArray) (ds := ds) ht hk hz (by simpa using hparts) (evs_map hx) ho hn hle (g := g) (w := w) (H := H) hop hf
  have hg := Rs.var (T := e) hr hrd.one r2
  refine .inl ⟨_, _, r1, _, hg, ?_⟩
  have := RV.arr (g := ⟨upd g.β i w.heap.size, upd g.E w.heap.size 0, g.h⟩) (w := w.alloc (.cells us.toArray e)) (H := setW H [(i, .cells e (ds.flatMap V.cells))]) (i := i) (off := 0) (n := n) (cap := n) (by unfold live; show liveO (H.set i _)[i]?; rw [set_eq (List.getElem?_eq_some_iff.1 hrd.one).1]; trivial)
  simpa [upd_eq] using this
end
theorem build_runA {Pg : Program} {T n E s : TypeId} {z : Value} {zs : List Value} {pl : List (Nat × Nat)} (hz : ∀ w, (zeroValue T).run Pg w = .ok z w) (hu : ∀ w, (underlying T).run Pg w = .ok (.array n E) w) (hs : ∀ w, (sizeOf E).run Pg w = .ok s w) (hp : pl = (List.range n).map fun i => (i * s, s)) (hzs : z.cells = zs.toArray) (c : Array Value) (ps : List (Nat × Value)) (w : World)
    (h : Instr.fill (fun i => pl[i]?) zs.toArray ps = some c) : (Instr.build T ps.toArray).run Pg w = .ok (.agg c) w := by
  have h' : Instr.fill (fun i => some (i * s, s)) z.cells ps = some c := by
    rw [hzs]
    refine fill_fun (pl := pl) (fun i x hx => ?_) ps _ c h
    subst hp
    rw [List.getElem?_map, Option.map_eq_some_iff] at hx
    obtain ⟨j, hj, rfl⟩ := hx
    have := (List.getElem?_eq_some_iff.1 hj).2
    rw [List.getElem_range] at this
    rw [this]
  unfold Instr.build
  simp only [Sem.run_bind, hz, hu, hs, Result.andThen, h', Sem.run_pure]
/-! functions as values: which one it is, is not known before -/
structure FnCall (Pg : Program) (d : V) (ads : List V) (r : V) : Prop where
  of : ∃ (g : FuncId) (bnd caps : List V), (d = .fn (.func g) bnd caps ∨ (d = .p (.v (.func (.func g) #[] #[])) ∧ bnd = [] ∧ caps = [])) ∧ (∀ args w, (callFunc g args).run Pg w = .ok (.enter g args) w) ∧ CP Pg g (bnd ++ ads ++ caps) r ∧ bnd ++ ads ++ caps = renL (sf []) (bnd ++ ads ++ caps) ∧ ltL 0 (bnd ++ ads ++ caps) = true ∧ r.ren (sf []) = r
theorem FnCall.c0 {Pg : Program} {g : FuncId} {ads : List V} {r : V} (hc : CP Pg g ads r) (hf : ∀ args w, (callFunc g args).run Pg w = .ok (.enter g args) w) (h1 : ads = renL (sf []) ads) (h2 : ltL 0 ads = true) (h3 : r.ren (sf []) = r) : FnCall Pg (.p (.v (.func (.func g) #[] #[]))) ads r :=
  ⟨g, [], [], .inr ⟨rfl, rfl, rfl⟩, hf, by simpa using hc, by simpa using h1, by simpa using h2, h3⟩
theorem FnCall.cf {Pg : Program} {g : FuncId} {bnd caps ads : List V} {r : V} (hc : CP Pg g (bnd ++ ads ++ caps) r) (hf : ∀ args w, (callFunc g args).run Pg w = .ok (.enter g args) w) (h1 : bnd ++ ads ++ caps = renL (sf []) (bnd ++ ads ++ caps)) (h2 : ltL 0 (bnd ++ ads ++ caps) = true) (h3 : r.ren (sf []) = r) : FnCall Pg (.fn (.func g) bnd caps) ads r :=
  ⟨g, bnd, caps, .inl rfl, hf, hc, h1, h2, h3⟩
section
variable {Pg : Program} {ty : TypeId} {ρ : Operand → Option V} {T U : TypeId} {x y : Operand} {a c : V} {u : TypeDesc} {r : Bool}
theorem nil_key (hT : ∀ w, (underlying T).run Pg w = .ok u w) (h : nilSide u a c = true) {g : Gh} {w : World} {H : List Ob} {va vc : Value} (ha : RV g w H a va) (hc : RV g w H c vc) (x y : Operand) : (eqGuard .eql T x y va vc).run Pg w = .ok () w ∧ (eqGuard .neq T x y va vc).run Pg w = .ok () w ∧ (binOp .eql T va vc).run Pg w = .ok (.bool false) w ∧ (binOp .neq T va vc).run Pg w = .ok (.bool true) w := by
  obtain ⟨e1, e2, _⟩ := nilSide_rv hT h ha hc x y
  have hn := nilSide_no h ha
  obtain ⟨e3, e4⟩ := binOp_eql hn.1 hn.2.1 hn.2.2.1 hn.2.2.2 e2
  exact ⟨(e1 .eql (.inl rfl)).1, (e1 .neq (.inr rfl)).1, e3, e4⟩
/-- compared with nil: it is none -/
theorem i_eqN (hT : ∀ w, (underlying T).run Pg w = .ok u w) (hx : ρ x = some a) (hy : ρ y = some c) (h : nilSide u a c = true) : It Pg (.binOp .eql T x y U) ty ρ [] [] (vB false) := .pure fun g w H e o ho _ _ hf => ⟨.bool false, by
  obtain ⟨e1, _, e3, _⟩ := nil_key hT h (hf x (by simp [Op.operands]) _ hx) (hf y (by simp [Op.operands]) _ hy) x y
  unfold execOp; rw [ho]; simp only [Sem.run_bind, e1, e3, Result.andThen, Sem.run_pure], .v _⟩
theorem i_eqF {ps rs : Array TypeId} {vr : Bool} (hT : ∀ w, (underlying T).run Pg w = .ok (.func ps rs vr) w) (hx : ρ x = some a) (hy : ρ y = some (.p (.v .nilFunc))) (h : (r = true ∧ a = .p (.v .nilFunc)) ∨ (r = false ∧ a.isFn = true)) : It Pg (.binOp .eql T x y U) ty ρ [] [] (vB r) := by
  rcases h with ⟨rfl, rfl⟩ | ⟨rfl, h⟩
  · exact i_bin hx hy fun w => by
      unfold binOp Op.equal
      rw [show Op.maxDepth = 9999 + 1 from rfl]
      unfold Op.equalIn
      simp [eqGuard, Sem.run_bind, Result.andThen, hT]
  · exact i_eqN hT hx hy (by cases a <;> first | exact h | (cases h))
end
theorem It.cv {Pg : Program} {ty : TypeId} {ρ : Operand → Option V} {x : Operand} {args : List Operand} {tys : Array TypeId} {d r : V} {ads : List V} (hc : FnCall Pg d ads r) (hρ : ρ x = some d) (hargs : AW ρ args ads) : It Pg (.call { callee := .value x, args := args.toArray, argTypes := tys }) ty ρ [] [] r := by
  obtain ⟨g, bnd, caps, hd, hf, h1, h2, h3, h4⟩ := hc
  rcases hd with rfl | ⟨rfl, rfl, rfl⟩
  · have := It.callVW (tys := tys) (ty := ty) (sel := []) (fr := []) h1 hf hρ hargs h2 ⟨rfl, h3, rfl, List.nodup_nil, Nat.le_refl _, Nat.le_refl _⟩
    simp only [List.append_nil, h4] at this; exact this
  · have := It.callV0 (tys := tys) (ty := ty) (sel := []) (fr := []) (by simpa using h1) hf hρ (show AW ρ args (renL (sf []) ads) from (show ads = renL (sf []) ads by simpa using h2) ▸ hargs) ⟨rfl, by simpa using h3, rfl, List.nodup_nil, Nat.le_refl _, Nat.le_refl _⟩
    simp only [List.append_nil, h4] at this; exact this
section
variable {Y : Cy} {Q : Exit → Act → World → Prop} {l : Fv} {H : List Ob} {R : Type} {m : Option R} {T : R → Prop} {ops : Array Oper} {os rest : List Oper} {acc : List (List Nat × List Nat)} {t : Nat} {ty : TypeId} {pos : String} {af : Array Edge} {gd : Option (Nat × Bool)}
theorem MS.fv {α : Type} {y : Operand} {args : List Operand} {tys : Array TypeId} {d : V} {ads : List V} {dd : α → V} {x : Option α} {f : α → Option R} (hy : evV l y = some d) (hc : ∀ z, x = some z → FnCall Y.X.P d ads (dd z)) (hargs : AW (evV l) args ads) (hd : Nat.blt t Y.X.N = true) (k : ∀ z, MS Y ops Q rest ((t, dd z) :: l) H (f z) T) :
    MS Y ops Q ({ dst := some t, op := .call { callee := .value y, args := args.toArray, argTypes := tys }, type := ty, pos := pos, after := af, guard := none } :: rest) l H (x.bind f) T := fun hQ => by
  obtain ⟨z, h1, h2⟩ := hQ.bind
  exact SJ.it (dst := some t) (It.cv (hc z h1) hy hargs) rd0 hd (k z h2)
theorem MA.fv {α : Type} {y : Operand} {args : List Operand} {tys : Array TypeId} {d : V} {ads : List V} {dd : α → V} {x : Option α} {f : α → Option R} (hy : evV l y = some d) (hc : ∀ z, x = some z → FnCall Y.X.P d ads (dd z)) (hargs : AW (evV l) args ads) (hg : GOk os l gd) (k : ∀ z, MA Y Q os rest ((t, dd z) :: l) H (acc ++ [([], [])]) (f z) T) :
    MA Y Q os ({ dst := some t, op := .call { callee := .value y, args := args.toArray, argTypes := tys }, type := ty, pos := pos, after := af, guard := gd } :: rest) l H acc (x.bind f) T := fun hQ => by
  obtain ⟨z, h1, h2⟩ := hQ.bind
  exact AJ.gi (dst := some t) (It.cv (hc z h1) hy hargs) rd0 hg (k z h2)
end
end Go.Dp
namespace Go.Dp
open Go.Mi
section
variable {σ R : Type} {body : σ → Option (σ ⊕ R)} {r : R}
/-- a loop that goes on so many times -/
theorem lp_at (st : Nat → σ) : ∀ (n : Nat), (∀ i, i < n → body (st i) = some (.inl (st (i + 1)))) → Lp body (st 0) = Lp body (st n)
  | 0, _ => rfl
  | n + 1, h => by rw [lp_at st n (fun i hi => h i (by omega)), Lp.on (h n (by omega))]
theorem lp_end (st : Nat → σ) (n : Nat) (h : ∀ i, i < n → body (st i) = some (.inl (st (i + 1)))) (he : body (st n) = some (.inr r)) : Lp body (st 0) = some r := by
  rw [lp_at st n h, Lp.out he]
end
section
variable {R : Type} {body : Int → Option (Int ⊕ R)} {rT rF : R}
/-- all numbers below one are so, or the loop is left -/
theorem lp_all {n : Nat} {s0 : Int} (q : Nat → Bool) (h : ∀ i : Nat, i < n → body i = if q i then some (.inl ((i : Int) + 1)) else some (.inr rF)) (he : body n = some (.inr rT)) (h0 : s0 = 0) : Lp body s0 = some (if (List.range n).all q then rT else rF) := by
  subst h0
  by_cases ha : (List.range n).all q = true
  · rw [if_pos ha]
    refine lp_end (fun i : Nat => (i : Int)) n (fun i hi => ?_) he
    have hq := List.all_eq_true.1 ha i (List.mem_range.2 hi)
    rw [h i hi, if_pos hq]; simp
  · rw [if_neg ha]
    obtain ⟨j, ⟨hj, hq⟩, hl⟩ := least (p := fun j => j < n ∧ q j = false) (by
      simp only [Bool.not_eq_true, List.all_eq_false, List.mem_range] at ha
      obtain ⟨j, hj, hq⟩ := ha
      exact ⟨j, hj, by simpa using hq⟩)
    refine lp_end (fun i : Nat => (i : Int)) j (fun i hi => ?_) ?_
    · have : q i = true := by
        cases e : q i with
        | true => rfl
        | false => have := hl i ⟨by omega, e⟩; omega
      rw [h i (by omega), if_pos this]; simp
    · rw [h j hj, hq]; rfl
end
/-- the first number that is so -/
theorem lp_find {body : Int → Option (Int ⊕ Int)} {n : Nat} {s0 : Int} (q : Nat → Bool) (h : ∀ i : Nat, i < n → body i = if q i then some (.inr (i : Int)) else some (.inl ((i : Int) + 1))) (he : body n = some (.inr (-1))) (h0 : s0 = 0) :
    ∃ r : Int, Lp body s0 = some r ∧ ((List.range n).any q = true ∧ 0 ≤ r ∧ r < n ∧ q r.toNat = true ∧ (∀ j : Nat, (j : Int) < r → q j = false) ∨ (List.range n).any q = false ∧ r = -1) := by
  subst h0
  by_cases ha : (List.range n).any q = true
  · obtain ⟨j, ⟨hj, hq⟩, hl⟩ := least (p := fun j => j < n ∧ q j = true) (by
      obtain ⟨j, hj, hq⟩ := List.any_eq_true.1 ha
      exact ⟨j, List.mem_range.1 hj, hq⟩)
    have hlt : ∀ i : Nat, i < j → q i = false := fun i hi => by
      cases e : q i with
      | false => rfl
      | true => have := hl i ⟨by omega, e⟩; omega
    refine ⟨j, lp_end (fun i : Nat => (i : Int)) j (fun i hi => ?_) ?_, .inl ⟨ha, by omega, by omega, by simpa using hq, fun i hi => hlt i (by omega)⟩⟩
    · rw [h i (by omega), hlt i hi]; simp
    · rw [h j hj, hq]; rfl
  · refine ⟨-1, lp_end (fun i : Nat => (i : Int)) n (fun i hi => ?_) he, .inr ⟨by simpa using ha, rfl⟩⟩
    have hq : q i = false := by
      cases e : q i with
      | false => rfl
      | true => exact absurd (List.any_eq_true.2 ⟨i, List.mem_range.2 hi, e⟩) ha
    rw [h i hi, hq]; simp
section
variable {α : Type} {xs ys : List α}
theorem ap_ok (h : xs.length + ys.length ≤ 1099511627776) : ap xs ys = some (xs ++ ys) := by unfold ap; rw [if_pos h]
theorem ap_nil (h : ys.length ≤ 1099511627776) : ap [] ys = some ys := by rw [ap_ok (by simpa using h)]; rfl
theorem ix_nat (i : Nat) : ix xs (i : Int) = xs[i]? := by unfold ix; rw [if_pos (by omega)]; simp
theorem ix_at {i : Nat} {x : α} (h : xs[i]? = some x) : ix xs (i : Int) = some x := by rw [ix_nat, h]
theorem ix_lt {i : Nat} (h : i < xs.length) : ix xs (i : Int) = some xs[i] := by rw [ix_nat, List.getElem?_eq_getElem h]
theorem ix_in {j : Int} (h0 : 0 ≤ j) (h : j.toNat < xs.length) : ix xs j = some xs[j.toNat] := by unfold ix; rw [if_pos h0, List.getElem?_eq_getElem h]
theorem all_range (p : α → Bool) : (List.range xs.length).all (fun i => match xs[i]? with | some x => p x | none => true) = xs.all p := by
  rw [Bool.eq_iff_iff, List.all_eq_true, List.all_eq_true]
  constructor
  · intro h x hx
    obtain ⟨i, hi⟩ := List.getElem?_of_mem hx
    have := h i (List.mem_range.2 (List.getElem?_eq_some_iff.1 hi).1)
    rw [hi] at this; exact this
  · intro h i hi
    have hi := List.mem_range.1 hi
    rw [List.getElem?_eq_getElem hi]
    exact h _ (List.getElem_mem hi)
theorem all_get (p : α → Bool) (q : Nat → Bool) (h : ∀ i x, xs[i]? = some x → q i = p x) : (List.range xs.length).all q = xs.all p := by
  rw [← all_range p, Bool.eq_iff_iff, List.all_eq_true, List.all_eq_true]
  constructor
  · intro k i hi
    have hi' := List.mem_range.1 hi
    have := k i hi
    rw [List.getElem?_eq_getElem hi']
    rw [h i _ (List.getElem?_eq_getElem hi')] at this; exact this
  · intro k i hi
    have hi' := List.mem_range.1 hi
    have := k i hi
    rw [List.getElem?_eq_getElem hi'] at this
    rw [h i _ (List.getElem?_eq_getElem hi')]; exact this
theorem any_get (p : α → Bool) (q : Nat → Bool) (h : ∀ i x, xs[i]? = some x → q i = p x) : (List.range xs.length).any q = xs.any p := by
  have := all_get (xs := xs) (fun x => !p x) (fun i => !q i) (fun i x hx => by rw [h i x hx])
  rw [List.any_eq_not_all_not, List.any_eq_not_all_not, this]
theorem all_eq (h : xs.length = ys.length) [DecidableEq α] (q : Nat → Bool) (hq : ∀ i x y, xs[i]? = some x → ys[i]? = some y → q i = decide (x = y)) : (List.range xs.length).all q = decide (xs = ys) := by
  by_cases e : xs = ys
  · subst e
    rw [decide_eq_true rfl, List.all_eq_true]
    intro i hi
    have := List.mem_range.1 hi
    rw [hq i _ _ (List.getElem?_eq_getElem this) (List.getElem?_eq_getElem this)]; simp
  · rw [decide_eq_false e]
    cases hc : (List.range xs.length).all q with
    | false => rfl
    | true =>
      exfalso; apply e
      rw [List.all_eq_true] at hc
      apply List.ext_getElem h
      intro i h1 h2
      have := hc i (List.mem_range.2 h1)
      rw [hq i _ _ (List.getElem?_eq_getElem h1) (List.getElem?_eq_getElem h2)] at this
      exact of_decide_eq_true this
/-- what is so at a place of a list -/
def atB (p : α → Bool) (xs : List α) (i : Nat) : Bool := match xs[i]? with | some x => p x | none => true
theorem atB_lt {p : α → Bool} {i : Nat} (h : i < xs.length) : atB p xs i = p xs[i] := by unfold atB; rw [List.getElem?_eq_getElem h]
theorem atB_get {p : α → Bool} {i : Nat} {x : α} (h : xs[i]? = some x) : atB p xs i = p x := by unfold atB; rw [h]
theorem all_at (p : α → Bool) : (List.range xs.length).all (atB p xs) = xs.all p := all_get p _ fun i x hx => atB_get hx
end
end Go.Dp
