/- Code beside a function that may fail: whatever the function yields, the code does. -/
import Derived.Test.YtpcgfeckokgbfaaGreatDoorJf
set_option linter.all false
namespace Go.Dp
open Go Go.Mi Go.RowKit
/-- the function yields something that is so -/
def Hs {R : Type} (m : Option R) (T : R → Prop) : Prop := ∃ q, m = some q ∧ T q
theorem Hs.some {R : Type} {q : R} {T : R → Prop} (h : Hs (some q) T) : T q := by obtain ⟨_, e, h⟩ := h; cases e; exact h
theorem Hs.bind {α R : Type} {x : Option α} {f : α → Option R} {T : R → Prop} (h : Hs (x.bind f) T) : ∃ z, x = .some z ∧ Hs (f z) T := by
  obtain ⟨q, e, h⟩ := h
  cases x with
  | none => cases e
  | some z => exact ⟨z, rfl, q, e, h⟩
theorem Hs.ite {R : Type} {b : Bool} {x y : Option R} {T : R → Prop} (h : Hs (if b = true then x else y) T) : (b = true ∧ Hs x T) ∨ (b = false ∧ Hs y T) := by
  cases b with
  | true => exact .inl ⟨rfl, h⟩
  | false => exact .inr ⟨rfl, h⟩
theorem Hs.map {R S : Type} {x : Option R} {f : R → S} {T : S → Prop} (h : Hs (x.map f) T) : Hs x fun r => T (f r) := by
  obtain ⟨q, e, h⟩ := h
  cases x with
  | none => cases e
  | some z => cases e; exact ⟨z, rfl, h⟩
/-! loops -/
inductive Rch {σ R : Type} (body : σ → Option (σ ⊕ R)) : Nat → σ → R → Prop
  | out {s : σ} {r : R} (h : body s = some (.inr r)) : Rch body 0 s r
  | on {n : Nat} {s s' : σ} {r : R} (h : body s = some (.inl s')) (k : Rch body n s' r) : Rch body (n + 1) s r
theorem Rch.det {σ R : Type} {body : σ → Option (σ ⊕ R)} {n : Nat} {s : σ} {r : R} (h : Rch body n s r) : ∀ {n' : Nat} {r' : R}, Rch body n' s r' → r = r' := by
  induction h with
  | out h => intro n' r' k; cases k with
    | out k => rw [h] at k; cases k; rfl
    | on k _ => rw [h] at k; cases k
  | on h _ ih => intro n' r' k; cases k with
    | out k => rw [h] at k; cases k
    | on k k' => rw [h] at k; cases k; exact ih k'
open Classical in
noncomputable def Lp {σ R : Type} (body : σ → Option (σ ⊕ R)) (s : σ) : Option R := if h : ∃ r n, Rch body n s r then some (Classical.choose h) else none
section
variable {σ R : Type} {body : σ → Option (σ ⊕ R)} {s s' : σ} {r : R} {n : Nat}
theorem Rch.lp (h : Rch body n s r) : Lp body s = some r := by
  have h' : ∃ r n, Rch body n s r := ⟨r, n, h⟩
  unfold Lp; rw [dif_pos h']
  obtain ⟨m, hm⟩ := Classical.choose_spec h'
  rw [h.det hm]
theorem Lp.rch (h : Lp body s = some r) : ∃ n, Rch body n s r := by
  unfold Lp at h
  split at h
  · rename_i h'
    cases h; exact Classical.choose_spec h'
  · cases h
theorem Lp.out (h : body s = some (.inr r)) : Lp body s = some r := (Rch.out h).lp
theorem Lp.on (h : body s = some (.inl s')) : Lp body s = Lp body s' := by
  cases e : Lp body s' with
  | some r => obtain ⟨n, hn⟩ := Lp.rch e; exact (Rch.on h hn).lp
  | none =>
    cases e' : Lp body s with
    | none => rfl
    | some r =>
      obtain ⟨n, hn⟩ := Lp.rch e'
      cases hn with
      | out k => rw [h] at k; cases k
      | on k k' => rw [h] at k; cases k; rw [k'.lp] at e; cases e
end
def TL {σ R : Type} (body : σ → Option (σ ⊕ R)) (T : R → Prop) (n : Nat) : σ ⊕ R → Prop
  | .inl s => ∃ m r, m < n ∧ Rch body m s r ∧ T r
  | .inr r => T r
theorem Sv.s' {l : Fv} {t : Nat} {d : V} (h : lk l t = some d) : Sv l ((t, d) :: l) := Sv.s h .rf
/-! judgements -/
section
variable (Y : Cy)
def MJ (c : Code) (Q : Exit → Act → World → Prop) (l : Fv) (H : List Ob) {R : Type} (m : Option R) (T : R → Prop) : Prop := Hs m T → J Y c Q l H
def MD (Q : Exit → Act → World → Prop) (e : Exit) (l : Fv) (H : List Ob) {R : Type} (m : Option R) (T : R → Prop) : Prop := Hs m T → DJ Y Q e l H
def MS (ops : Array Oper) (Q : Exit → Act → World → Prop) (rest : List Oper) (l : Fv) (H : List Ob) {R : Type} (m : Option R) (T : R → Prop) : Prop := Hs m T → SJ Y ops Q rest l H
def MA (Q : Exit → Act → World → Prop) (os rest : List Oper) (l : Fv) (H : List Ob) (acc : List (List Nat × List Nat)) {R : Type} (m : Option R) (T : R → Prop) : Prop := Hs m T → AJ Y Q os rest l H acc
end
section
variable {Y : Cy} {Q : Exit → Act → World → Prop} {l : Fv} {H : List Ob} {R : Type} {m m' : Option R} {T : R → Prop}
theorem MJ.seq {x y : Code} (h : MJ Y x (Th Y.X y Q) l H m T) : MJ Y (.seq x y) Q l H m T := fun e => J.seq (h e)
theorem MJ.blk {id : Nat} {c : Code} (h : MJ Y c (Exit.inBlock id Q) l H m T) : MJ Y (.block id c) Q l H m T := fun e => J.blk (h e)
theorem MJ.skip (h : MD Y Q .normal l H m T) : MJ Y .skip Q l H m T := fun e => J.skip (h e)
theorem MJ.exit {id : Nat} (h : MD Y Q (.exit id) l H m T) : MJ Y (.exit id) Q l H m T := fun e => J.exit (h e)
theorem MJ.ret (h : MD Y Q .ret l H m T) : MJ Y .ret Q l H m T := fun e => J.ret (h e)
theorem MJ.cond {c : Operand} {x y : Code} {b : Bool} (hc : evV l c = some (vB b)) (ht : MJ Y x Q l H m T) (hf : MJ Y y Q l H m' T) : MJ Y (.cond c x y) Q l H (if b = true then m else m') T :=
  fun e => J.cond hc (fun q => ht (by subst q; exact e)) (fun q => hf (by subst q; exact e))
theorem MJ.condT {c : Operand} {x y : Code} (hc : evV l c = some (vB true)) (ht : MJ Y x Q l H m T) : MJ Y (.cond c x y) Q l H m T := fun e => J.condT hc (ht e)
theorem MJ.condF {c : Operand} {x y : Code} (hc : evV l c = some (vB false)) (hf : MJ Y y Q l H m T) : MJ Y (.cond c x y) Q l H m T := fun e => J.condF hc (hf e)
theorem MJ.sub {c : Code} {l' : Fv} (hs : Sv l l') (h : MJ Y c Q l' H m T) : MJ Y c Q l H m T := fun e => J.sub hs (h e)
theorem MD.th {y : Code} (h : MJ Y y Q l H m T) : MD Y (Th Y.X y Q) .normal l H m T := h
theorem MD.thE {y : Code} {id : Nat} (h : MD Y Q (.exit id) l H m T) : MD Y (Th Y.X y Q) (.exit id) l H m T := h
theorem MD.thR {y : Code} (h : MD Y Q .ret l H m T) : MD Y (Th Y.X y Q) .ret l H m T := h
theorem MD.blk {id : Nat} (h : MD Y Q .normal l H m T) : MD Y (Exit.inBlock id Q) .normal l H m T := h
theorem MD.blkR {id : Nat} (h : MD Y Q .ret l H m T) : MD Y (Exit.inBlock id Q) .ret l H m T := h
theorem MD.blkE {id : Nat} (h : MD Y Q .normal l H m T) : MD Y (Exit.inBlock id Q) (.exit id) l H m T := fun e => DJ.blkE (h e)
/-- ways that meet again: what is behind is shown once -/
theorem MJ.join {β : Type} (I : β → Fv) (G : β → List Ob) (k : β → Option R) {x y : Code} (h : ∀ b, MJ Y y Q (I b) (G b) (k b) T) (hx : (∀ l H b, Sv l (I b) → H = G b → MD Y (Th Y.X y Q) .normal l H (k b) T) → MJ Y x (Th Y.X y Q) l H m T) : MJ Y (.seq x y) Q l H m T :=
  MJ.seq (hx fun l H b hs hG e => DJ.sub hs (hG ▸ h b e))
section
variable {σ : Type} {α : Type} {I : α → Fv} {G : α → List Ob} {body : σ → Option (σ ⊕ R)}
/-- the post of a round -/
def LpM (Y : Cy) (π : α → σ) (I : α → Fv) (G : α → List Ob) (body : σ → Option (σ ⊕ R)) (T : R → Prop) (n : Nat) (Q : Exit → Act → World → Prop) : Exit → Act → World → Prop := LpJ Y (fun q : α × Nat => I q.1) (fun q => G q.1) (fun q => ∃ r, Rch body q.2 (π q.1) r ∧ T r) (·.2) n Q
/-- beside the state of the function's loop there may be numbers that it does not know -/
theorem MJ.loop {c : Code} {s0 : σ} (π : α → σ) (I : α → Fv) (G : α → List Ob) (x0 : α) (hx : π x0 = s0) (h0 : Sv l (I x0)) (hG : H = G x0)
    (round : ∀ x n, MJ Y c (LpM Y π I G body T n Q) (I x) (G x) (body (π x)) (TL body T n)) : MJ Y (.loop c) Q l H (Lp body s0) T := fun e => by
  obtain ⟨r, h1, h2⟩ := e
  obtain ⟨n, hn⟩ := Lp.rch h1
  refine J.loop (α := α × Nat) (fun q => I q.1) (fun q => G q.1) (fun q => ∃ r, Rch body q.2 (π q.1) r ∧ T r) (·.2) (x0, n) h0 hG ⟨r, by rw [hx]; exact hn, h2⟩ ?_
  rintro ⟨x, n⟩ ⟨r, h1, h2⟩
  refine round x n ?_
  cases h1 with
  | out h => exact ⟨_, h, h2⟩
  | on h k => exact ⟨_, h, _, r, Nat.lt_succ_self _, k, h2⟩
theorem MD.next {π : α → σ} {n : Nat} {s : σ} (x : α) (hx : π x = s) (hs : Sv l (I x)) (hG : H = G x) : MD Y (LpM Y π I G body T n Q) .normal l H (some (.inl s)) (TL body T n) := fun e => by
  obtain ⟨k, r, h1, h2, h3⟩ := e.some
  subst hx
  exact DJ.loop (α := α × Nat) (x, k) hs hG ⟨r, h2, h3⟩ h1
theorem MD.lpE {π : α → σ} {n : Nat} {id : Nat} (h : MD Y Q (.exit id) l H m T) : MD Y (LpM Y π I G body T n Q) (.exit id) l H (m.map .inr) (TL body T n) := fun e => DJ.loopE (h e.map)
theorem MD.lpR {π : α → σ} {n : Nat} (h : MD Y Q .ret l H m T) : MD Y (LpM Y π I G body T n Q) .ret l H (m.map .inr) (TL body T n) := fun e => DJ.loopR (h e.map)
end
/-! regions -/
theorem MJ.region {id : Nat} {os : List Oper} (h : MS Y os.toArray Q os l H m T) : MJ Y (.region id os.toArray false) Q l H m T := fun e => J.region (h e)
variable {ops : Array Oper} {rest : List Oper}
theorem MS.nil (h : MD Y Q .normal l H m T) : MS Y ops Q [] l H m T := h
theorem MS.sub {l' : Fv} (hs : Sv l l') (h : MS Y ops Q rest l' H m T) : MS Y ops Q rest l H m T := fun e => SJ.sub hs (h e)
section
variable {t : Nat} {op : Op} {ty : TypeId} {pos : String} {af : Array Edge} {d : V} {dst : Option Tmp} {rd wr : List (Nat × Ob)}
theorem MS.q (h : It Y.X.P op ty (evV l) [] [] d) (hd : Nat.blt t Y.X.N = true) (k : MS Y ops Q rest ((t, d) :: l) H m T) : MS Y ops Q ({ dst := some t, op := op, type := ty, pos := pos, after := af, guard := none } :: rest) l H m T := fun e => SJ.q h hd (k e)
theorem MS.it (h : It Y.X.P op ty (evV l) rd wr d) (hrd : rdOk H rd) (hd : dOk Y.X.N dst = true) (k : MS Y ops Q rest (putV dst d l) (setW H wr) m T) :
    MS Y ops Q ({ dst := dst, op := op, type := ty, pos := pos, after := af, guard := none } :: rest) l H m T := fun e => SJ.it h hrd hd (k e)
/-- one that the function asks for, too -/
theorem MS.b {α : Type} {x : Option α} {f : α → Option R} {dd : α → V} (h : ∀ z, x = some z → It Y.X.P op ty (evV l) [] [] (dd z)) (hd : Nat.blt t Y.X.N = true) (k : ∀ z, MS Y ops Q rest ((t, dd z) :: l) H (f z) T) :
    MS Y ops Q ({ dst := some t, op := op, type := ty, pos := pos, after := af, guard := none } :: rest) l H (x.bind f) T := fun e => by
  obtain ⟨z, h1, h2⟩ := e.bind
  exact SJ.q (h z h1) hd (k z h2)
theorem MS.bi {α : Type} {x : Option α} {f : α → Option R} {dd : α → V} {rr ww : α → List (Nat × Ob)} (h : ∀ z, x = some z → It Y.X.P op ty (evV l) (rr z) (ww z) (dd z)) (hrd : ∀ z, rdOk H (rr z)) (hd : dOk Y.X.N dst = true) (k : ∀ z, MS Y ops Q rest (putV dst (dd z) l) (setW H (ww z)) (f z) T) :
    MS Y ops Q ({ dst := dst, op := op, type := ty, pos := pos, after := af, guard := none } :: rest) l H (x.bind f) T := fun e => by
  obtain ⟨z, h1, h2⟩ := e.bind
  exact SJ.it (h z h1) (hrd z) hd (k z h2)
theorem MS.yes {j : Nat} {want b : Bool} (dj : Nat) (hj : (ops[j]?).bind (·.dst) = some dj) (hb : lk l dj = some (vB b)) (he : b = want)
    (k : MS Y ops Q ({ dst := dst, op := op, type := ty, pos := pos, after := af, guard := none } :: rest) l H m T) : MS Y ops Q ({ dst := dst, op := op, type := ty, pos := pos, after := af, guard := some (j, want) } :: rest) l H m T := fun e => SJ.yes dj hj hb he (k e)
theorem MS.no {j : Nat} {want b : Bool} (dj : Nat) (hj : (ops[j]?).bind (·.dst) = some dj) (hb : lk l dj = some (vB b)) (he : b = !want) (hd : dOk Y.X.N dst = true)
    (k : MS Y ops Q rest (putV dst (.p (.v undef)) l) H m T) : MS Y ops Q ({ dst := dst, op := op, type := ty, pos := pos, after := af, guard := some (j, want) } :: rest) l H m T := fun e => SJ.no dj hj hb he hd (k e)
end
/-- a condition of which the second part is asked for behind the first: the function forks -/
theorem MS.fork {b : Bool} (d : Nat) (hb : lk l d = some (vB b)) (ht : MS Y ops Q rest ((d, vB true) :: l) H m T) (hf : MS Y ops Q rest ((d, vB false) :: l) H m' T) : MS Y ops Q rest l H (if b = true then m else m') T := fun e => by
  rcases e.ite with ⟨q, e⟩ | ⟨q, e⟩
  · subst q; exact SJ.sub (Sv.s' hb) (ht e)
  · subst q; exact SJ.sub (Sv.s' hb) (hf e)
end
end Go.Dp
namespace Go.Dp
open Go Go.Mi Go.RowKit
def wi (n : Int) : Int := IntKind.i64.wrap n
def w8 (n : Int) : Int := IntKind.u8.wrap n
def ix {α : Type} (xs : List α) (j : Int) : Option α := if 0 ≤ j then xs[j.toNat]? else none
def ap {α : Type} (xs ys : List α) : Option (List α) := if xs.length + ys.length ≤ 1099511627776 then some (xs ++ ys) else none
def dvd (a b : Int) : Option Int := if b = 0 then none else some (a.tdiv b)
def md (a b : Int) : Option Int := if b = 0 then none else some (a.tmod b)
theorem wi_eq {n : Int} (h1 : -9223372036854775808 ≤ n) (h2 : n < 9223372036854775808) : wi n = n := by
  unfold wi IntKind.wrap
  simp [IntKind.signed, IntKind.bits]
  split <;> omega
theorem w8_eq {n : Int} (h1 : 0 ≤ n) (h2 : n < 256) : w8 n = n := by
  simp only [w8, IntKind.wrap, IntKind.signed, IntKind.bits]
  simp; omega
theorem ix_some {α : Type} {xs : List α} {j : Int} {z : α} (h : ix xs j = some z) : 0 ≤ j ∧ xs[j.toNat]? = some z := by
  unfold ix at h; split at h
  · exact ⟨by assumption, h⟩
  · cases h
theorem ap_some {α : Type} {xs ys zs : List α} (h : ap xs ys = some zs) : xs.length + ys.length ≤ 1099511627776 ∧ zs = xs ++ ys := by
  unfold ap at h; split at h
  · cases h; exact ⟨by assumption, rfl⟩
  · cases h
theorem ap_by {n b : Nat} (h : n ≤ 1099511627776) (hb : Nat.ble b 128 = true) : n * b ≤ 140737488355328 := by
  have hb := Nat.le_of_ble_eq_true hb
  calc n * b ≤ 1099511627776 * 128 := Nat.mul_le_mul h hb
    _ = 140737488355328 := rfl
theorem dvd_some {a b z : Int} (h : dvd a b = some z) : b ≠ 0 ∧ z = a.tdiv b := by
  unfold dvd at h; split at h
  · cases h
  · cases h; exact ⟨by assumption, rfl⟩
theorem md_some {a b z : Int} (h : md a b = some z) : b ≠ 0 ∧ z = a.tmod b := by
  unfold md at h; split at h
  · cases h
  · cases h; exact ⟨by assumption, rfl⟩
section
variable {Pg : Program} {ty : TypeId} {ρ : Operand → Option V}
section
variable {T U : TypeId} {x y : Operand} {k : IntKind} {a b : Int}
theorem i_addW (hx : ρ x = some (.p (.v (.int k a)))) (hy : ρ y = some (.p (.v (.int k b)))) : It Pg (.binOp .add T x y U) ty ρ [] [] (.p (.v (.int k (k.wrap (a + b))))) :=
  i_bin hx hy fun w' => by simp [Sem.run_bind, eqGuard_int, Result.andThen, binOp, Op.intArith]
theorem i_subW (hx : ρ x = some (.p (.v (.int k a)))) (hy : ρ y = some (.p (.v (.int k b)))) : It Pg (.binOp .sub T x y U) ty ρ [] [] (.p (.v (.int k (k.wrap (a - b))))) :=
  i_bin hx hy fun w' => by simp [Sem.run_bind, eqGuard_int, Result.andThen, binOp, Op.intArith]
theorem i_mulW (hx : ρ x = some (.p (.v (.int k a)))) (hy : ρ y = some (.p (.v (.int k b)))) : It Pg (.binOp .mul T x y U) ty ρ [] [] (.p (.v (.int k (k.wrap (a * b))))) :=
  i_bin hx hy fun w' => by simp [Sem.run_bind, eqGuard_int, Result.andThen, binOp, Op.intArith]
theorem i_quoW (hx : ρ x = some (.p (.v (.int k a)))) (hy : ρ y = some (.p (.v (.int k b)))) (h0 : b ≠ 0) : It Pg (.binOp .quo T x y U) ty ρ [] [] (.p (.v (.int k (k.wrap (a.tdiv b))))) :=
  i_bin hx hy fun w' => by simp [Sem.run_bind, eqGuard_int, Result.andThen, binOp, Op.intDiv, h0]
end
theorem i_convW {S T : TypeId} {k k' : IntKind} {x : Operand} {n : Int} (hS : ∀ w, (underlying S).run Pg w = .ok (.int k) w) (hT : ∀ w, (underlying T).run Pg w = .ok (.int k') w) (hx : ρ x = some (.p (.v (.int k n)))) :
    It Pg (.convert S T x) ty ρ [] [] (.p (.v (.int k' (k'.wrap n)))) := .plain fun w e o ho _ hf => by
  have e1 := hf x (by simp [Op.operands]) _ hx
  unfold execOp; rw [ho]; simp [e1, convert, hS, hT, Sem.run_bind, Result.andThen, Conv.intToInt]
theorem i_boxE {T : TypeId} {x : Operand} {d : V} {cs : List P} (hx : ρ x = some d) (hc : d.cells = cs.map .p) (h1 : cs.all P.one = true) : It Pg (.box T x) ty ρ [] [] (.el cs) := fun g w H e q hq _ hr hrd h => by
  have hone : d.cells.all V.one = true := by rw [hc, List.all_map]; exact h1
  obtain ⟨vs, hvs, hrv, _⟩ := (h x (by simp [Op.operands]) _ hx).cells hone
  rw [hc] at hrv
  have hp := rps_of hrv
  have hg := Rs.grow (E := upd g.E w.heap.size cs.length) hr (alloc_below w (.cells vs.toArray T)) (fun b hb => upd_ne (by omega))
  refine .inl ⟨.pointer (some ⟨w.heap.size, 0, none⟩), w.alloc (.cells vs.toArray T), ?_, _, hg, el_mk (us := vs) (hp.mo hg.mo.size hg.mo.E hg.mo.cell) ?_ (by simp) fun j u hj => ?_⟩
  · unfold execOp; rw [hq]
    simp [Instr.box, newVar, newRow, newObj, Sem.run_bind, Sem.run, Result.andThen, hvs]
  · show 0 + cs.length ≤ upd g.E w.heap.size cs.length w.heap.size; rw [upd_eq]; omega
  · rw [(alloc_blk w vs T).cell, Nat.zero_add]; exact hj
end
/-! entries and returns -/
theorem CD.ofM {R : Type} {Pg : Program} {f : FuncId} {fn : Func} {c : Code} {N : Nat} {ds : List V} {H : List Ob} {m : Option R} {r : R} {P : R → V → List Ob → Prop} (hm : m = some r) (hf : Pg.funcs[f]? = some fn) (hb : fn.body = some c) (hN : fn.ntmps = N) (hle : Nat.ble ds.length N = true)
    (h : ∀ w g, MJ ⟨⟨none, Pg, N, []⟩, w, g, H⟩ c (bodyPost Pg fn (RQ w g H (P r))) (enumV 0 ds) H m (fun q => q = r)) : CD Pg f ds H (P r) := CD.of hf hb hN hle fun w g => h w g ⟨r, hm, rfl⟩
theorem MJ.ext {Y : Cy} {c : Code} {Q : Exit → Act → World → Prop} {l : Fv} {H : List Ob} {R : Type} {m : Option R} {T : R → Prop} (n : Nat) (h : MJ Y c Q l (H ++ List.replicate n .dead) m T) : MJ Y c Q l H m T := fun e => J.ext n (h e)
section
variable {R : Type} {Pg : Program} {N : Nat} {l : Fv} {fn : Func} {e : Exit} {w0 : World} {g0 : Gh} {H0 H Hr : List Ob} {P : R → V → List Ob → Prop} {sel : List Nat} {q r : R}
theorem MD.ret1 {rv : ResultVar} {d x : V} (hp : P q x Hr) (hE : Exit.ends e = true) (hres : fn.results = #[rv]) (h1 : Rd Pg l H rv d) (hw : Wv d (x.ren (sf sel))) (hk : Kp H0 H Hr sel) (hlt : x.lt Hr.length = true) : MD ⟨⟨none, Pg, N, []⟩, w0, g0, H0⟩ (bodyPost Pg fn (RQ w0 g0 H0 (P r))) e l H (some q) (fun q => q = r) := fun h => by
  have := h.some; subst this; exact DJ.ret1 hE hres h1 hw hk hlt hp
theorem MD.ret2 {rv rv' : ResultVar} {d d' x x' : V} (hp : P q (.tup [x, x']) Hr) (hE : Exit.ends e = true) (hres : fn.results = #[rv, rv']) (h1 : Rd Pg l H rv d) (h2 : Rd Pg l H rv' d') (hw : Wv d (x.ren (sf sel))) (hw' : Wv d' (x'.ren (sf sel))) (hk : Kp H0 H Hr sel) (hlt : (V.tup [x, x']).lt Hr.length = true) :
    MD ⟨⟨none, Pg, N, []⟩, w0, g0, H0⟩ (bodyPost Pg fn (RQ w0 g0 H0 (P r))) e l H (some q) (fun q => q = r) := fun h => by
  have := h.some; subst this; exact DJ.ret2 hE hres h1 h2 hw hw' hk hlt hp
theorem MD.ret3 {rv rv' rv'' : ResultVar} {d d' d'' x x' x'' : V} (hp : P q (.tup [x, x', x'']) Hr) (hE : Exit.ends e = true) (hres : fn.results = #[rv, rv', rv'']) (h1 : Rd Pg l H rv d) (h2 : Rd Pg l H rv' d') (h3 : Rd Pg l H rv'' d'') (hw : Wv d (x.ren (sf sel))) (hw' : Wv d' (x'.ren (sf sel))) (hw'' : Wv d'' (x''.ren (sf sel))) (hk : Kp H0 H Hr sel) (hlt : (V.tup [x, x', x'']).lt Hr.length = true) :
    MD ⟨⟨none, Pg, N, []⟩, w0, g0, H0⟩ (bodyPost Pg fn (RQ w0 g0 H0 (P r))) e l H (some q) (fun q => q = r) := fun h => by
  have := h.some; subst this; exact DJ.ret3 hE hres h1 h2 h3 hw hw' hw'' hk hlt hp
end
end Go.Dp
namespace Go.Dp
open Go Go.Mi Go.RowKit
def eL {α : Type} (k : Nat) (e : α → List P) (xs : List α) : List P := [sl k e xs]
def eK (i : IntKind) (n : Int) : List P := [.v (.int i n)]
def evs (l : Fv) : List Operand → Option (List V)
  | [] => some []
  | x :: xs => match evV l x, evs l xs with
    | some d, some ds => some (d :: ds)
    | _, _ => none
theorem evs_map {l : Fv} : ∀ {os : List Operand} {ds : List V}, evs l os = some ds → os.map (evV l) = ds.map some
  | [], ds, h => by simp only [evs, Option.some.injEq] at h; subst h; rfl
  | x :: xs, ds, h => by
    simp only [evs] at h
    cases hx : evV l x with
    | none => rw [hx] at h; cases h
    | some d =>
      cases hy : evs l xs with
      | none => rw [hx, hy] at h; cases h
      | some es => rw [hx, hy] at h; cases h; simp [hx, evs_map hy]
theorem i_bsN {α : Type} {Pg : Program} {ty : TypeId} {l : Fv} {U el k n : Nat} {z : Value} {parts : List (Nat × Operand)} {ds : List V} (xs : List α) (e : α → List P) (ht : ∀ w, (underlying U).run Pg w = .ok (.slice el) w) (hk : ∀ w, (sizeOf el).run Pg w = .ok k w) (hz : ∀ w, (zeroValue el).run Pg w = .ok z w) (hx : evs l (parts.map (·.2)) = some ds) (hparts : parts = (parts.map (·.2)).zipIdx.map (fun p => (p.2, p.1))) (ho : (ds.all fun d => d.cells.all V.one && Nat.beq d.cells.length k) = true) (hcs : ds.flatMap V.cells = (xs.flatMap e).map .p) (hn : ds.length = xs.length) (hn' : xs.length = n) (hle : Nat.ble (xs.length * k) 16777216 = true) : It Pg (.buildSlice U n parts.toArray) ty (evV l) [] [] (vL k e xs) := by
  subst hn'
  exact i_bs xs ht hk hz (by simpa using hparts) (evs_map hx) ho hcs hn (Nat.le_of_ble_eq_true hle)
theorem i_bsTN {α : Type} {Pg : Program} {ty : TypeId} {l : Fv} {U el k n i : Nat} {z : Value} {parts : List (Nat × Operand)} {ds : List V} (xs : List α) (e : α → List P) (ht : ∀ w, (underlying U).run Pg w = .ok (.slice el) w) (hk : ∀ w, (sizeOf el).run Pg w = .ok k w) (hz : ∀ w, (zeroValue el).run Pg w = .ok z w) (hx : evs l (parts.map (·.2)) = some ds) (hparts : parts = (parts.map (·.2)).zipIdx.map (fun p => (p.2, p.1))) (ho : (ds.all fun d => d.cells.all V.one && Nat.beq d.cells.length k) = true) (hcs : ds.flatMap V.cells = (xs.flatMap e).map .p) (hn : ds.length = xs.length) (hn' : xs.length = n) (hle : Nat.ble (xs.length * k) 16777216 = true) (hm : Nat.ble xs.length 16777216 = true) : It Pg (.buildSlice U n parts.toArray) ty (evV l) [(i, .dead)] [(i, .tok el k 0)] (tk k e xs i 0) := by
  subst hn'
  exact i_bsliceT (i := i) ht hk hz (by simpa using hparts) (evs_map hx) ho hcs hn (Nat.le_of_ble_eq_true hle) (Nat.le_trans (Nat.le_of_ble_eq_true hm) (by decide))
theorem build_run {Pg : Program} {T : TypeId} {z : Value} {zs : List Value} {fs : Array Field} {pl : List (Nat × Nat)} (hz : ∀ w, (zeroValue T).run Pg w = .ok z w) (hu : ∀ w, (underlying T).run Pg w = .ok (.struct fs) w) (hp : ∀ w, ((fs.mapM fun f => do pure (f.offset, ← sizeOf f.type)) : Sem _).run Pg w = .ok pl.toArray w) (hzs : z.cells = zs.toArray) (c : Array Value) (ps : List (Nat × Value)) (w : World)
    (h : Instr.fill (fun i => pl[i]?) zs.toArray ps = some c) : (Instr.build T ps.toArray).run Pg w = .ok (.agg c) w := by
  unfold Instr.build
  have h' : Instr.fill (fun i => pl.toArray[i]?) z.cells ps = some c := by rw [hzs, ← h]; congr 1; funext i; simp
  simp only [Sem.run_bind, hz, hu, hp w, Result.andThen, h', Sem.run_pure]
theorem Sv.tr {l l' l'' : Fv} (h : Sv l l') (k : Sv l' l'') : Sv l l'' := fun t d hd => by
  obtain ⟨d', h1, h2⟩ := k t d hd
  obtain ⟨d'', h3, h4⟩ := h t d' h1
  exact ⟨d'', h3, fun g w H v hv => h2 _ _ _ _ (h4 _ _ _ _ hv)⟩
theorem Sv.cut {l : Fv} {d s : Nat} {u v : V} (h : lk l s = some v) : Sv ((d, u) :: (s, v) :: l) ((d, u) :: l) := fun t x hx => by
  refine ⟨x, ?_, .rf⟩
  simp only [lk] at hx ⊢
  cases hb : Nat.beq d t with
  | true => rw [hb] at hx; exact hx
  | false =>
    rw [hb] at hx
    simp only [cond_false] at hx ⊢
    cases hc : Nat.beq s t with
    | true => have := Nat.eq_of_beq_eq_true hc; subst this; rw [h] at hx; simpa using hx
    | false => exact hx
section
variable {Y : Cy} {Q : Exit → Act → World → Prop} {l : Fv} {H : List Ob} {R : Type} {m : Option R} {T : R → Prop} {ops : Array Oper} {rest : List Oper} {t : Nat} {ty : TypeId} {pos : String} {af : Array Edge} {dst : Option Tmp}
theorem MS.nilL {α : Type} (e : α → List P) (U k i s : Nat) (ht : lk l s = some (.p (.v (.slice none 0 0)))) (hi : H[i]? = some .dead) (h : MS Y ops Q rest ((s, tk k e [] i 0) :: l) (H.set i (.tok U k 0)) m T) : MS Y ops Q rest l H m T := fun e' => SJ.niL e U k i s ht hi (h e')
theorem MJ.nilL {c : Code} {α : Type} (e : α → List P) (U k i s : Nat) (ht : lk l s = some (.p (.v (.slice none 0 0)))) (hi : H[i]? = some .dead) (h : MJ Y c Q ((s, tk k e [] i 0) :: l) (H.set i (.tok U k 0)) m T) : MJ Y c Q l H m T := fun e' => J.nil e U k i s ht hi (h e')
/-- an operation that was left out leaves out those that hang on it -/
theorem MS.noU {dst : Option Tmp} {op : Op} {ty : TypeId} {pos : String} {af : Array Edge} {j : Nat} {want : Bool} (dj : Nat) (hj : (ops[j]?).bind (·.dst) = some dj) (hb : lk l dj = some (.p (.v undef))) (hd : dOk Y.X.N dst = true)
    (k : MS Y ops Q rest (putV dst (.p (.v undef)) l) H m T) : MS Y ops Q ({ dst := dst, op := op, type := ty, pos := pos, after := af, guard := some (j, want) } :: rest) l H m T := fun e g w a hr ha => by
  obtain ⟨v, h1, h2⟩ := ha.2.2 dj _ hb
  have hv := h2.vi
  have hy : yielded ops a.tmps j = none := by unfold yielded; rw [hj]; simp [h1, hv, undef]
  have hne : (none == some want) = false := rfl
  simp only [segL, Region.wanted, hy, hne]
  exact k e g w _ hr (ha.put hd (.v _))
/-- a condition whose parts are plain -/
theorem MS.and {b r : Bool} (n d dj : Nat) (hb : lk l dj = some (vB b)) (ht : (∀ l', Sv l' ((d, vB r) :: (dj, vB true) :: l) → MS Y ops Q (rest.drop n) l' H m T) → MS Y ops Q rest ((dj, vB true) :: l) H m T)
    (hf : (∀ l', Sv l' ((d, vB false) :: (dj, vB false) :: l) → MS Y ops Q (rest.drop n) l' H m T) → MS Y ops Q rest ((dj, vB false) :: l) H m T) (k : MS Y ops Q (rest.drop n) ((d, vB (b && r)) :: l) H m T) : MS Y ops Q rest l H m T := fun e => by
  cases b with
  | true => exact SJ.sub (Sv.s' hb) (ht (fun l' hs e => SJ.sub (hs.tr (Sv.cut hb)) (k e)) e)
  | false => exact SJ.sub (Sv.s' hb) (hf (fun l' hs e => SJ.sub (hs.tr (Sv.cut hb)) (k e)) e)
theorem MS.or {b r : Bool} (n d dj : Nat) (hb : lk l dj = some (vB b)) (hf : (∀ l', Sv l' ((d, vB r) :: (dj, vB false) :: l) → MS Y ops Q (rest.drop n) l' H m T) → MS Y ops Q rest ((dj, vB false) :: l) H m T)
    (ht : (∀ l', Sv l' ((d, vB true) :: (dj, vB true) :: l) → MS Y ops Q (rest.drop n) l' H m T) → MS Y ops Q rest ((dj, vB true) :: l) H m T) (k : MS Y ops Q (rest.drop n) ((d, vB (b || r)) :: l) H m T) : MS Y ops Q rest l H m T := fun e => by
  cases b with
  | true => exact SJ.sub (Sv.s' hb) (ht (fun l' hs e => SJ.sub (hs.tr (Sv.cut hb)) (k e)) e)
  | false => exact SJ.sub (Sv.s' hb) (hf (fun l' hs e => SJ.sub (hs.tr (Sv.cut hb)) (k e)) e)
end
theorem Sv.up {l l' : Fv} {d : Nat} {v : V} (hd : lk l' d = some v) (hl : l'.drop (l'.length - l.length) = l) (h : (l'.take (l'.length - l.length)).all (fun q => Nat.beq q.1 d || (lk l q.1).isNone) = true) : Sv l' ((d, v) :: l) := fun t u hu => by
  simp only [lk] at hu
  cases hb : Nat.beq d t with
  | true => rw [hb] at hu; have := Nat.eq_of_beq_eq_true hb; subst this; simp only [cond_true, Option.some.injEq] at hu; subst hu; exact ⟨v, hd, .rf⟩
  | false =>
    rw [hb] at hu
    simp only [cond_false] at hu
    refine ⟨u, ?_, .rf⟩
    generalize l'.length - l.length = n at hl h
    clear hd
    induction n generalizing l' with
    | zero => rw [List.drop_zero] at hl; subst hl; exact hu
    | succ n ih =>
      cases l' with
      | nil => rw [List.drop_nil] at hl; subst hl; exact hu
      | cons q l' =>
        simp only [List.take_succ_cons, List.drop_succ_cons, List.all_cons, Bool.and_eq_true] at hl h
        have k := ih hl h.2
        simp only [lk]
        cases hc : Nat.beq q.1 t with
        | false => simpa using k
        | true =>
          have := Nat.eq_of_beq_eq_true hc; subst this
          have h1 := h.1
          rw [hu, Bool.or_eq_true] at h1
          rcases h1 with h1 | h1
          · have := Nat.eq_of_beq_eq_true h1; rw [this, Nat.beq_refl] at hb; cases hb
          · simp at h1
section
variable {Y : Cy} {Q : Exit → Act → World → Prop} {l : Fv} {H : List Ob} {R : Type} {m : Option R} {T : R → Prop}
theorem MJ.or {y : Code} {d : Nat} {b r : Bool} (hb : lk l d = some (vB b)) (hf : (∀ l', Sv l' ((d, vB r) :: l) → MD Y Q .normal l' H m T) → MJ Y y Q l H m T) (k : MD Y Q .normal ((d, vB (b || r)) :: l) H m T) : MJ Y (.cond (.tmp d) .skip y) Q l H m T := fun e =>
  J.or hb (fun _ c => hf (fun l' hs _ => c l' hs) e) (k e)
theorem MJ.and {x : Code} {d : Nat} {b r : Bool} (hb : lk l d = some (vB b)) (ht : (∀ l', Sv l' ((d, vB r) :: l) → MD Y Q .normal l' H m T) → MJ Y x Q l H m T) (k : MD Y Q .normal ((d, vB (b && r)) :: l) H m T) : MJ Y (.cond (.tmp d) x .skip) Q l H m T := fun e =>
  J.and hb (fun _ c => ht (fun l' hs _ => c l' hs) e) (k e)
end
/-! regions that draw their order -/
theorem ext_ev {l l' : Fv} (h : ∀ t, lk l t = lk l' t) : evV l = evV l' := funext fun x => by cases x <;> simp [evV, h]
theorem ext_put {l l' : Fv} (h : ∀ t, lk l t = lk l' t) (dst : Option Tmp) (d : V) (t : Nat) : lk (putV dst d l) t = lk (putV dst d l') t := by
  cases dst with
  | none => exact h t
  | some s => simp only [putV, lk, h t]
theorem ItO.ext {Pg : Program} {os : List Oper} {o : Oper} {l l' : Fv} {m : Im} (h : ∀ t, lk l t = lk l' t) (k : ItO Pg os o l m) : ItO Pg os o l' m := by
  cases k with
  | run hg h1 => exact .run hg (ext_ev h ▸ h1)
  | on hg hj hb h1 => exact .on hg hj (h _ ▸ hb) (ext_ev h ▸ h1)
  | off hg hj hb hm => exact .off hg hj (h _ ▸ hb) hm
  | offT hg hj hb hm => exact .offT hg hj (h _ ▸ hb) hm
theorem Its.ext {Pg : Program} {os0 : List Oper} : ∀ {os : List Oper} {ms : List Im} {l l' : Fv}, (∀ t, lk l t = lk l' t) → Its Pg os0 os ms l → Its Pg os0 os ms l'
  | [], [], _, _, _, _ => trivial
  | [], _ :: _, _, _, _, k => k.elim
  | _ :: _, [], _, _, _, k => k.elim
  | o :: os, m :: ms, l, l', h, k => ⟨k.1.ext h, Its.ext (ext_put h _ _) k.2⟩
theorem frS_ext {L : Nat → Bool} : ∀ (k : Nat) (os : List Oper) (ms : List Im) (l l' : Fv), (∀ t, lk l t = lk l' t) → ∀ t, lk (frS k os ms L l) t = lk (frS k os ms L l') t
  | _, [], ms, _, _, h => by cases ms <;> exact h
  | _, _ :: _, [], _, _, h => h
  | k, o :: os, m :: ms, l, l', h => by
    rw [frS, frS]
    refine frS_ext (k + 1) os ms _ _ ?_
    split
    · exact ext_put h _ _
    · exact h
theorem AJ.ext {Y : Cy} {Q : Exit → Act → World → Prop} {os0 rest : List Oper} {l l' : Fv} {H : List Ob} {acc : List (List Nat × List Nat)} (h : ∀ t, lk l' t = lk l t) (k : AJ Y Q os0 rest l' H acc) : AJ Y Q os0 rest l H acc := by
  obtain ⟨ms, h1, h2, h5, h3, h4⟩ := k
  exact ⟨ms, h1.ext h, h2, h5, h3, DJ.sub (fun t d hd => ⟨d, by rw [← frS_ext 0 rest ms l' l h]; exact hd, .rf⟩) h4⟩
inductive GOk (os : List Oper) (l : Fv) : Option (Nat × Bool) → Prop
  | n : GOk os l none
  | y {j dj : Nat} {want : Bool} (hj : (os[j]?).bind (·.dst) = some dj) (hb : lk l dj = some (vB want)) : GOk os l (some (j, want))
theorem AJ.gi {Y : Cy} {Q : Exit → Act → World → Prop} {os0 : List Oper} {dst : Option Tmp} {op : Op} {ty : TypeId} {pos : String} {af : Array Edge} {gd : Option (Nat × Bool)} {rest : List Oper} {l : Fv} {H : List Ob} {acc : List (List Nat × List Nat)} {rd wr : List (Nat × Ob)} {d : V} (h : It Y.X.P op ty (evV l) rd wr d) (hi : rdOk H rd) (hg : GOk os0 l gd)
    (k : AJ Y Q os0 rest (putV dst d l) (setW H wr) (acc ++ [(rd.map (·.1), wr.map (·.1))])) : AJ Y Q os0 ({ dst := dst, op := op, type := ty, pos := pos, after := af, guard := gd } :: rest) l H acc := by
  refine AJ.cons (m := ⟨rd, wr, d, fun _ => True⟩) ?_ hi k
  cases hg with
  | n => exact .run rfl h.pw
  | y hj hb => exact .on rfl hj hb h.pw
section
variable {Y : Cy} {Q : Exit → Act → World → Prop} {l : Fv} {H : List Ob} {R : Type} {m m' : Option R} {T : R → Prop} {os rest : List Oper} {acc : List (List Nat × List Nat)}
theorem MJ.any {id : Nat} (hm : Y.X.P.follows .mixedOrders = true) (h : MA Y Q os os l H [] m T) : MJ Y (.region id os.toArray true) Q l H m T := fun e => J.any hm (h e)
theorem MA.nil (hc : allOk os Y.X.N acc os acc (masks os []) 0 = true) (h : MD Y Q .normal l H m T) : MA Y Q os [] l H acc m T := fun e => AJ.nil hc (h e)
theorem MA.fork {b : Bool} (d : Nat) (hb : lk l d = some (vB b)) (ht : MA Y Q os rest ((d, vB true) :: l) H acc m T) (hf : MA Y Q os rest ((d, vB false) :: l) H acc m' T) : MA Y Q os rest l H acc (if b = true then m else m') T := fun e => by
  have hx : ∀ {c : Bool}, b = c → ∀ t, lk ((d, vB c) :: l) t = lk l t := fun q t => by
    subst q
    simp only [lk]
    cases hc : Nat.beq d t with
    | true => have := Nat.eq_of_beq_eq_true hc; subst this; exact hb.symm
    | false => rfl
  rcases e.ite with ⟨q, e⟩ | ⟨q, e⟩
  · exact AJ.ext (hx q) (ht e)
  · exact AJ.ext (hx q) (hf e)
theorem MA.no {dst : Option Tmp} {op : Op} {ty : TypeId} {pos : String} {af : Array Edge} {j dj : Nat} {want : Bool} (hj : (os[j]?).bind (·.dst) = some dj) (hb : lk l dj = some (vB (!want))) (k : MA Y Q os rest (putV dst (.p (.v undef)) l) H (acc ++ [([], [])]) m T) :
    MA Y Q os ({ dst := dst, op := op, type := ty, pos := pos, after := af, guard := some (j, want) } :: rest) l H acc m T := fun e => AJ.cons (m := Im.no) (.off rfl hj hb rfl) rd0 (k e)
end
/-! objects that nobody speaks of any more -/
mutual
def V.no (i : Nat) : V → Bool
  | .p _ => true
  | .tk _ _ _ t _ => !Nat.beq t i
  | .ref j _ => !Nat.beq j i
  | .el _ => true
  | .arr j _ _ _ => !Nat.beq j i
  | .map j => !Nat.beq j i
  | .fn _ b c => noL i b && noL i c
  | .agg cs => noL i cs
  | .tup cs => noL i cs
  | .yld j => !Nat.beq j i
  | .z => true
  | .gs _ _ t _ _ => !Nat.beq t i
  | .gp t _ _ => !Nat.beq t i
def noL (i : Nat) : List V → Bool
  | [] => true
  | d :: ds => d.no i && noL i ds
end
def noF (i : Nat) : Fv → Bool
  | [] => true
  | p :: r => p.2.no i && noF i r
theorem lk_noF {i : Nat} : ∀ {l : Fv} {t : Nat} {d : V}, noF i l = true → lk l t = some d → d.no i = true
  | (e, v) :: r, t, d, h, hd => by
    simp only [noF, Bool.and_eq_true] at h
    simp only [lk] at hd
    cases hb : Nat.beq e t with
    | true => rw [hb] at hd; simp at hd; rw [← hd]; exact h.1
    | false => rw [hb] at hd; simp at hd; exact lk_noF h.2 hd
def Ob.no (i : Nat) : Ob → Bool
  | .cells _ cs => noL i cs
  | .mp _ _ kv => noL i (kv.map (·.2))
  | .loop _ _ _ _ fr _ _ _ j => !Nat.beq j i && noF i fr
  | .itr j => !Nat.beq j i
  | _ => true
section
variable {g : Gh} {w : World} {H : List Ob} {i : Nat}
theorem live_kill {j : Nat} (h : j ≠ i) : live (H.set i .dead) j ↔ live H j := by unfold live; rw [set_ne h]
theorem tk_kill {t m : Nat} {v : Value} (h : t ≠ i) (k : Tk g H t m v) : Tk g (H.set i .dead) t m v := by
  obtain ⟨m', a, b⟩ := k
  exact ⟨m', by unfold cur; rw [set_ne h]; exact a, b⟩
theorem bne_ne {j i : Nat} (h : (!Nat.beq j i) = true) : j ≠ i := fun e => by subst e; rw [Nat.beq_refl] at h; cases h
mutual
theorem RV.kill : ∀ {d : V} {v : Value}, d.no i = true → RV g w H d v → RV g w (H.set i .dead) d v
  | _, _, _, .p h => .p h
  | _, _, hn, .tk h ht => .tk h (tk_kill (bne_ne hn) ht)
  | _, _, hn, .ref hl => .ref ((live_kill (bne_ne hn)).2 hl)
  | _, _, _, .el u hE hb hu h => .el u hE hb hu h
  | _, _, hn, .arr hl => .arr ((live_kill (bne_ne hn)).2 hl)
  | _, _, hn, .map hl => .map ((live_kill (bne_ne hn)).2 hl)
  | _, _, hn, .fn h1 h2 => by
    simp only [V.no, Bool.and_eq_true] at hn
    exact .fn (RVs.kill hn.1 h1) (RVs.kill hn.2 h2)
  | _, _, hn, .agg h => .agg (RVs.kill hn h)
  | _, _, hn, .tup h => .tup (RVs.kill hn h)
  | _, _, hn, .yld hl => .yld ((live_kill (bne_ne hn)).2 hl)
  | _, _, _, .z => .z
  | _, _, hn, .gs h1 h => .gs h1 (by obtain ⟨m', a, b⟩ := h; exact ⟨m', by unfold cur; rw [set_ne (bne_ne hn)]; exact a, b⟩)
  | _, _, hn, .gp h1 h => .gp h1 (by obtain ⟨m', a, b⟩ := h; exact ⟨m', by unfold cur; rw [set_ne (bne_ne hn)]; exact a, b⟩)
theorem RVs.kill : ∀ {ds : List V} {vs : List Value}, noL i ds = true → RVs g w H ds vs → RVs g w (H.set i .dead) ds vs
  | _, _, _, .nil => .nil
  | _, _, hn, .cons h hs => by
    simp only [noL, Bool.and_eq_true] at hn
    exact .cons (RV.kill hn.1 h) (RVs.kill hn.2 hs)
end
theorem RO.kill {j : Nat} {o : Ob} (hn : o.no i = true) (h : RO g w H j o) : RO g w (H.set i .dead) j o := by
  cases o with
  | dead => trivial
  | cells T cs => obtain ⟨us, h1, h2, h3⟩ := h; exact ⟨us, h1, h2.kill hn, h3⟩
  | pc T cs => exact h
  | tok T k m => exact h
  | gr T k m cs => exact h
  | fz T cs => exact h
  | mp c bs kv => obtain ⟨us, h1, h2, h3⟩ := h; exact ⟨us, h1, h2, h3.kill hn⟩
  | loop st pd f N fr ps a b k =>
    obtain ⟨f0, tm, h1, h2, h3, h4⟩ := h
    simp only [Ob.no, Bool.and_eq_true] at hn
    refine ⟨f0, tm, h1, h2, (live_kill (bne_ne hn.1)).2 h3, fun t d hd => ?_⟩
    obtain ⟨v, hv, hr⟩ := h4 t d hd
    exact ⟨v, hv, RV.kill (lk_noF hn.2 hd) hr⟩
  | dfr b => exact h
  | itr k => obtain ⟨a, b, h1, h3⟩ := h; exact ⟨a, b, h1, (live_kill (bne_ne hn)).2 h3⟩
theorem Rs.kill {w0 : World} {g0 : Gh} {H0 : List Ob} (h : Rs w0 g0 H0 g w H) (h0 : H0.length ≤ i) (hn : H.all (Ob.no i) = true) : Rs w0 g0 H0 g w (H.set i .dead) := by
  have hob : ∀ j b, own g (H.set i .dead) j b → own g H j b := fun j b ho => by
    by_cases e : j = i
    · subst e
      unfold own at ho
      by_cases hl : j < H.length
      · rw [set_eq hl] at ho; exact ho.elim
      · rw [List.getElem?_eq_none (by simp; omega)] at ho; exact ho.elim
    · unfold own at ho ⊢; rw [set_ne e] at ho; exact ho
  refine ⟨h.os, h.tape, h.output, h.gl, ⟨h.mo.size, h.mo.E, h.mo.cell, fun j hj => ?_, fun t m ht => ?_⟩, h.blk, fun j o hj => ?_, fun j k b h1 h2 => h.sep j k b (hob _ _ h1) (hob _ _ h2), fun j b h1 => h.lb j b (hob _ _ h1)⟩
  · have := live_lt hj
    exact ⟨(live_kill (by omega)).2 (h.mo.live j hj).1, (h.mo.live j hj).2⟩
  · have := cur_lt ht
    obtain ⟨m', a, b⟩ := h.mo.tok t m ht
    exact ⟨m', by unfold cur; rw [set_ne (by omega)]; exact a, b⟩
  · by_cases e : j = i
    · subst e
      have hl : j < H.length := by have := (List.getElem?_eq_some_iff.1 hj).1; simpa using this
      rw [set_eq hl] at hj; cases hj; trivial
    · rw [set_ne e] at hj
      exact (h.ob j o hj).kill (List.all_eq_true.1 hn o (List.mem_of_getElem? hj))
end
def dropAll : List Ob → List Nat → List Ob
  | H, [] => H
  | H, i :: is => dropAll (H.set i .dead) is
def allNo (k0 : Nat) (l : Fv) : List Ob → List Nat → Bool
  | _, [] => true
  | H, i :: is => Nat.ble k0 i && H.all (Ob.no i) && l.all (fun q => q.2.no i) && allNo k0 l (H.set i .dead) is
theorem lk_mem : ∀ {l : Fv} {t : Nat} {d : V}, lk l t = some d → ∃ s, (s, d) ∈ l
  | [], t, d, h => by simp [lk] at h
  | (s, u) :: l, t, d, h => by
    simp only [lk] at h
    cases hb : Nat.beq s t with
    | true => rw [hb] at h; simp at h; subst h; exact ⟨s, by simp⟩
    | false => rw [hb] at h; simp at h; obtain ⟨s', hs⟩ := lk_mem h; exact ⟨s', by simp [hs]⟩
theorem OkD.kill {X : Cx} {g : Gh} {w : World} {H : List Ob} {l : Fv} {a : Act} {i : Nat} (h : OkD X g w H l a) (hn : l.all (fun q => q.2.no i) = true) : OkD X g w (H.set i .dead) l a :=
  ⟨h.1, h.2.1, fun t d ht => by
    obtain ⟨v, h1, h2⟩ := h.2.2 t d ht
    obtain ⟨s, hs⟩ := lk_mem ht
    exact ⟨v, h1, h2.kill (List.all_eq_true.1 hn _ hs)⟩⟩
theorem kill_all {w0 : World} {g0 : Gh} {H0 : List Ob} {X : Cx} {g : Gh} {w : World} {l : Fv} {a : Act} : ∀ {is : List Nat} {H : List Ob}, Rs w0 g0 H0 g w H → OkD X g w H l a → allNo H0.length l H is = true → Rs w0 g0 H0 g w (dropAll H is) ∧ OkD X g w (dropAll H is) l a
  | [], H, hr, ha, _ => ⟨hr, ha⟩
  | i :: is, H, hr, ha, hn => by
    simp only [allNo, Bool.and_eq_true, Nat.ble_eq] at hn
    obtain ⟨⟨⟨h1, h2⟩, h3⟩, h4⟩ := hn
    exact kill_all (is := is) (H := H.set i .dead) (hr.kill h1 h2) (ha.kill h3) h4
section
variable {Y : Cy} {Q : Exit → Act → World → Prop} {l : Fv} {H : List Ob} {R : Type} {m : Option R} {T : R → Prop}
theorem MD.drop {e : Exit} {l' : Fv} (is : List Nat) (hs : Sv l l') (hn : allNo Y.H0.length l' H is = true) (h : MD Y Q e l' (dropAll H is) m T) : MD Y Q e l H m T := fun q g w a hr ha => by
  obtain ⟨h1, h2⟩ := kill_all hr (ha.sub hs) hn
  exact h q g w a h1 h2
theorem MD.meet {β : Type} {I : β → Fv} {G : β → List Ob} {k : β → Option R} {e : Exit} (j : ∀ l H b, Sv l (I b) → H = G b → MD Y Q e l H (k b) T) (is : List Nat) (b : β) (hs : Sv l (I b)) (hn : allNo Y.H0.length (I b) H is = true) (hG : dropAll H is = G b) : MD Y Q e l H (k b) T := .drop is hs hn (j _ _ b .rf hG)
theorem MD.nextK {σ α : Type} {I : α → Fv} {G : α → List Ob} {body : σ → Option (σ ⊕ R)} {π : α → σ} {n : Nat} {s : σ} (is : List Nat) (x : α) (hx : π x = s) (hs : Sv l (I x)) (hn : allNo Y.H0.length (I x) H is = true) (hG : dropAll H is = G x) :
    MD Y (LpM Y π I G body T n Q) .normal l H (some (.inl s)) (TL body T n) := .drop is hs hn (.next x hx .rf hG)
end
end Go.Dp
