/- The step rules that all walks of these texts use: frames as lists of known slots, one rule for each form of code and for each kind of operation. Plain lemmas over any program; nothing of one program stands here. -/
import Derived.CallsIn
import Derived.OrdersIn
import Derived.RangeFuncLeaves
import Derived.RangeFuncOwn
import Derived.Deep.Quiet
import Derived.WalkKit
set_option linter.all false
namespace Go.Mi
open Go Go.RowKit

/-- what conditions say -/
theorem dd : (∀ (p : Prop) [Decidable p], (decide p = true) = p) ∧ (∀ (p : Prop) [Decidable p], (decide p = false) = ¬p) ∧ (∀ b : Bool, ((!b) = true) = (b = false)) ∧ (∀ b : Bool, ((!b) = false) = (b = true)) ∧
    (∀ a b : Bool, ((a || b) = true) = (a = true ∨ b = true)) ∧ (∀ a b : Bool, ((a && b) = true) = (a = true ∧ b = true)) ∧ (∀ a b : Bool, ((a || b) = false) = (a = false ∧ b = false)) ∧ (∀ a b : Bool, ((a && b) = false) = (a = true → b = false)) ∧
    (∀ a b : Int, (¬ a < b) = (b ≤ a)) ∧ (∀ a b : Int, (¬ a ≤ b) = (b < a)) :=
  ⟨fun _ _ => decide_eq_true_eq, fun _ _ => by simp, fun _ => by simp, fun _ => by simp, fun _ _ => by simp, fun _ _ => by simp, fun _ _ => by simp, fun _ _ => by simp, fun _ _ => by simp, fun _ _ => by simp⟩
/-! ### frames -/
abbrev Frm := List (Nat × Value)
def look : Frm → Nat → Option Value
  | [], _ => none
  | (d, v) :: l, t => cond (Nat.beq d t) (some v) (look l t)
def ev (l : Frm) : Operand → Option Value
  | .tmp t => look l t
  | .const v => some v
  | .global g => some (.pointer (some ⟨g, 0, none⟩))
  | .func f => some (.func (.func f) #[] #[])
def evs (l : Frm) : List Operand → Option (List Value)
  | [] => some []
  | x :: xs => match ev l x, evs l xs with
    | some v, some vs => some (v :: vs)
    | _, _ => none
abbrev Fw (r : Option Nat) : Fence := { fn := fun _ => True, depth := none, alive := false, round := r }
structure Cx where
  r : Option Nat
  P : Program
  N : Nat
  ds : List Deferred
def Ok (X : Cx) (l : Frm) (a : Act) : Prop := a.defers = X.ds ∧ a.tmps.size = X.N ∧ ∀ t v, look l t = some v → a.tmps[t]? = some v
theorem Ok.ev {X : Cx} {l : Frm} {a : Act} (h : Ok X l a) {x : Operand} {v : Value} (hv : ev l x = some v) : a.eval x = v := by
  cases x with
  | tmp t => have := h.2.2 t v hv; simp [Act.eval, Array.getD_eq_getD_getElem?, this]
  | const u => simpa [Mi.ev, Act.eval] using hv
  | global g => simpa [Mi.ev, Act.eval] using hv
  | func f => simpa [Mi.ev, Act.eval] using hv
theorem Ok.evs {X : Cx} {l : Frm} {a : Act} (h : Ok X l a) : ∀ {xs : List Operand} {vs : List Value}, evs l xs = some vs → xs.map a.eval = vs := by
  intro xs
  induction xs with
  | nil => intro vs hv; simp [Mi.evs] at hv; simp [← hv]
  | cons x xs ih =>
    intro vs hv
    simp only [Mi.evs] at hv
    split at hv
    · rename_i v us hx hxs
      cases hv
      simp [h.ev hx, ih hxs]
    · cases hv
theorem Ok.put {X : Cx} {l : Frm} {a : Act} (h : Ok X l a) {d : Nat} (hd : Nat.blt d X.N = true) (v : Value) : Ok X ((d, v) :: l) (a.put (some d) v) := by
  refine ⟨h.1, by simp [Act.put, h.2.1], fun t u ht => ?_⟩
  have hd' : d < X.N := by simpa [Nat.blt_eq] using hd
  simp only [look] at ht
  simp only [Act.put, Array.getElem?_setIfInBounds, h.2.1]
  by_cases e : d = t
  · subst e
    have : Nat.beq d d = true := Nat.beq_refl d
    rw [this] at ht
    simp only [cond_true, Option.some.injEq] at ht
    simp [hd', ht]
  · have : Nat.beq d t = false := by
      cases hb : Nat.beq d t with
      | false => rfl
      | true => exact absurd (Nat.eq_of_beq_eq_true hb) e
    rw [this] at ht
    simp only [cond_false] at ht
    simp [e, h.2.2 t u ht]
theorem Ok.put_none {X : Cx} {l : Frm} {a : Act} (h : Ok X l a) (v : Value) : Ok X l (a.put none v) := h
theorem beq_ne {d t : Nat} (e : ¬ d = t) : Nat.beq d t = false := by
  cases hb : Nat.beq d t with
  | false => rfl
  | true => exact absurd (Nat.eq_of_beq_eq_true hb) e
/-- what l' knows, l knows -/
def Sub (l l' : Frm) : Prop := ∀ t v, look l' t = some v → look l t = some v
theorem Sub.nil {l : Frm} : Sub l [] := fun t v h => by simp [look] at h
theorem Sub.refl {l : Frm} : Sub l l := fun _ _ h => h
theorem Sub.cons {l l' : Frm} {t : Nat} {v : Value} (h : look l t = some v) (hs : Sub l l') : Sub l ((t, v) :: l') := fun s u hu => by
  simp only [look] at hu
  by_cases e : t = s
  · subst e
    rw [show Nat.beq t t = true from Nat.beq_refl t] at hu
    simp only [cond_true, Option.some.injEq] at hu
    rw [← hu]; exact h
  · rw [beq_ne e] at hu
    exact hs s u hu
theorem Sub.push {l l' : Frm} {t : Nat} {v : Value} (h : look l' t = none) (hs : Sub l l') : Sub ((t, v) :: l) l' := fun s u hu => by
  simp only [look]
  by_cases e : t = s
  · subst e; rw [h] at hu; cases hu
  · rw [beq_ne e]; exact hs s u hu
theorem Sub.same {l l' : Frm} {t : Nat} {v : Value} (hs : Sub l l') : Sub ((t, v) :: l) ((t, v) :: l') := fun s u hu => by
  simp only [look] at hu ⊢
  by_cases e : t = s
  · subst e; rw [show Nat.beq t t = true from Nat.beq_refl t] at hu ⊢; exact hu
  · rw [beq_ne e] at hu ⊢; exact hs s u hu
theorem Sub.shadow {l l' : Frm} {t : Nat} {v u : Value} (hs : Sub ((t, v) :: l) l') : Sub ((t, v) :: (t, u) :: l) l' := fun s x hx => by
  have := hs s x hx
  simp only [look] at this ⊢
  cases h : Nat.beq t s <;> simp only [h] at this ⊢ <;> exact this
theorem Ok.sub {X : Cx} {l : Frm} {a : Act} (h : Ok X l a) {l' : Frm} (hs : Sub l l') : Ok X l' a := ⟨h.1, h.2.1, fun t v ht => h.2.2 t v (hs t v ht)⟩

/-! ### code -/
def W (X : Cx) (c : Code) (Q : Exit → Act → World → Prop) (l : Frm) (w : World) : Prop := ∀ a, Ok X l a → c.wpIn (Fw X.r) 0 X.P Q a w
def D (X : Cx) (Q : Exit → Act → World → Prop) (e : Exit) (l : Frm) (w : World) : Prop := ∀ a, Ok X l a → Q e a w
section
variable {X : Cx} {Q : Exit → Act → World → Prop} {l : Frm} {w : World}
def Th (X : Cx) (y : Code) (Q : Exit → Act → World → Prop) : Exit → Act → World → Prop := Exit.then (fun a w => y.wpIn (Fw X.r) 0 X.P Q a w) Q
theorem W_seq {x y : Code} (h : W X x (Th X y Q) l w) : W X (.seq x y) Q l w := fun a ha => wpIn_seq (h a ha)
theorem W_block {id : Nat} {c : Code} (h : W X c (Exit.inBlock id Q) l w) : W X (.block id c) Q l w := fun a ha => wpIn_block (h a ha)
theorem W_skip (h : D X Q .normal l w) : W X .skip Q l w := fun a ha => wpIn_skip (h a ha)
theorem W_exit {id : Nat} (h : D X Q (.exit id) l w) : W X (.exit id) Q l w := fun a ha => wpIn_exit (h a ha)
theorem W_ret (h : D X Q .ret l w) : W X .ret Q l w := fun a ha => wpIn_ret (h a ha)
theorem W_cond {c : Operand} {x y : Code} {b : Bool} (hc : ev l c = some (.bool b)) (ht : b = true → W X x Q l w) (hf : b = false → W X y Q l w) : W X (.cond c x y) Q l w :=
  fun a ha => wpIn_cond_split (ha.ev hc) (fun e => ht e a ha) (fun e => hf e a ha)
theorem W_condP {c : Operand} {x y : Code} {p : Prop} [Decidable p] (hc : ev l c = some (.bool (decide p))) (ht : p → W X x Q l w) (hf : ¬ p → W X y Q l w) : W X (.cond c x y) Q l w :=
  W_cond hc (fun e => ht (of_decide_eq_true e)) (fun e => hf (of_decide_eq_false e))
theorem W_condT {c : Operand} {x y : Code} (hc : ev l c = some (.bool true)) (ht : W X x Q l w) : W X (.cond c x y) Q l w :=
  fun a ha => wpIn_cond_true (ha.ev hc) (ht a ha)
theorem W_condF {c : Operand} {x y : Code} (hc : ev l c = some (.bool false)) (hf : W X y Q l w) : W X (.cond c x y) Q l w :=
  fun a ha => wpIn_cond_false (ha.ev hc) (hf a ha)
theorem W_sub {c : Code} {l' : Frm} (hs : Sub l l') (h : W X c Q l' w) : W X c Q l w := fun a ha => h a (ha.sub hs)
theorem D_sub {e : Exit} {l' : Frm} (hs : Sub l l') (h : D X Q e l' w) : D X Q e l w := fun a ha => h a (ha.sub hs)
theorem D_then {y : Code} (h : W X y Q l w) : D X (Th X y Q) .normal l w := h
theorem D_then_exit {y : Code} {id : Nat} (h : D X Q (.exit id) l w) : D X (Th X y Q) (.exit id) l w := h
theorem D_then_ret {y : Code} (h : D X Q .ret l w) : D X (Th X y Q) .ret l w := h
theorem D_block {id : Nat} (h : D X Q .normal l w) : D X (Exit.inBlock id Q) .normal l w := h
theorem D_block_ret {id : Nat} (h : D X Q .ret l w) : D X (Exit.inBlock id Q) .ret l w := h
theorem D_block_exit {id : Nat} (h : D X Q .normal l w) : D X (Exit.inBlock id Q) (.exit id) l w := fun a ha => by
  simp only [Exit.inBlock, if_true]; exact h a ha
theorem D_block_other {id id' : Nat} (hne : Nat.beq id' id = false) (h : D X Q (.exit id') l w) : D X (Exit.inBlock id Q) (.exit id') l w := fun a ha => by
  have : ¬ id' = id := fun e => by subst e; rw [Nat.beq_refl] at hne; cases hne
  simp only [Exit.inBlock, this, if_false]; exact h a ha
/-- the post of a loop's round -/
def Lp (X : Cx) {α : Type} (I : α → Frm) (J : α → World → Prop) (μ : α → Nat) (m : Nat) (Q : Exit → Act → World → Prop) : Exit → Act → World → Prop :=
  Exit.then (fun a w => ∃ x, Ok X (I x) a ∧ J x w ∧ μ x < m) Q
theorem least {p : Nat → Prop} (h : ∃ n, p n) : ∃ n, p n ∧ ∀ m, p m → n ≤ m := by
  obtain ⟨n, hn⟩ := h
  induction n using Nat.strongRecOn with
  | _ n ih =>
    by_cases hm : ∃ m, m < n ∧ p m
    · obtain ⟨m, hlt, hp⟩ := hm; exact ih m hlt hp
    · exact ⟨n, hn, fun m hp => Nat.le_of_not_lt fun hlt => hm ⟨m, hlt, hp⟩⟩
theorem W_loop {α : Type} {c : Code} (I : α → Frm) (J : α → World → Prop) (μ : α → Nat) (x0 : α) (h0 : Sub l (I x0)) (hJ : J x0 w)
    (round : ∀ x w, J x w → W X c (Lp X I J μ (μ x) Q) (I x) w) : W X (.loop c) Q l w := by
  classical
  intro a ha
  let p : Act → World → Nat → Prop := fun a w n => ∃ x, Ok X (I x) a ∧ J x w ∧ μ x = n
  let M : Act → World → Nat := fun a w => if h : ∃ n, p a w n then Classical.choose (least h) else 0
  have hM : ∀ a w, (∃ n, p a w n) → p a w (M a w) ∧ ∀ m, p a w m → M a w ≤ m := fun a w h => by
    simp only [M, dif_pos h]; exact Classical.choose_spec (least h)
  refine wpIn_loop (fun a w => ∃ n, p a w n) M ⟨_, x0, ha.sub h0, hJ, rfl⟩ ?_
  intro a w hI
  obtain ⟨⟨x, hok, hj, hmu⟩, _⟩ := hM a w hI
  refine wpIn_mono (round x w hj a hok) ?_
  intro e a' w' hq
  cases e with
  | normal =>
    obtain ⟨x', hok', hj', hlt⟩ := hq
    have hI' : ∃ n, p a' w' n := ⟨_, x', hok', hj', rfl⟩
    exact ⟨hI', by have := (hM a' w' hI').2 _ ⟨x', hok', hj', rfl⟩; omega⟩
  | exit id => exact hq
  | goto t => exact hq
  | ret => exact hq
  | panic ch => exact hq
  | outgrown => exact hq
theorem D_loop {α : Type} {I : α → Frm} {J : α → World → Prop} {μ : α → Nat} {m : Nat} (x : α) (hs : Sub l (I x)) (hJ : J x w) (hlt : μ x < m) : D X (Lp X I J μ m Q) .normal l w :=
  fun _ ha => ⟨x, ha.sub hs, hJ, hlt⟩
theorem D_loop_exit {α : Type} {I : α → Frm} {J : α → World → Prop} {μ : α → Nat} {m : Nat} {id : Nat} (h : D X Q (.exit id) l w) : D X (Lp X I J μ m Q) (.exit id) l w := h
theorem D_loop_ret {α : Type} {I : α → Frm} {J : α → World → Prop} {μ : α → Nat} {m : Nat} (h : D X Q .ret l w) : D X (Lp X I J μ m Q) .ret l w := h
end

/-! ### regions -/
def segL (X : Cx) (ops : Array Oper) (Q : Exit → Act → World → Prop) : List Oper → Act → World → Prop
  | [], a, w => Q .normal a w
  | o :: rest, a, w => if Region.wanted o (yielded ops a.tmps) then o.wpIn (Fw X.r) 0 X.P a w (segL X ops Q rest) Q else segL X ops Q rest (a.put o.dst undef) w
theorem segL_sound {X : Cx} {ops : Array Oper} {Q : Exit → Act → World → Prop} : ∀ (rest : List Oper) (k : Nat) (a : Act) (w : World), (∀ j, rest[j]? = ops[k + j]?) →
    segL X ops Q rest a w → wpOpsIn (Fw X.r) 0 X.P ops Q (List.range' k rest.length) a w
  | [], k, a, w, _, h => h
  | o :: rest, k, a, w, hr, h => by
    have h0 : ops[k]? = some o := by simpa using (hr 0).symm
    have hrest : ∀ j, rest[j]? = ops[k + 1 + j]? := fun j => by have := hr (j + 1); simpa [Nat.add_assoc, Nat.add_comm 1 j] using this
    simp only [List.length_cons, List.range'_succ, wpOpsIn, h0]
    simp only [segL] at h
    split
    · rename_i hw
      simp only [hw, if_true] at h
      exact Oper.wpIn_mono (fun a' w' h' => segL_sound rest (k + 1) a' w' hrest h') h
    · rename_i hw
      simp only [hw] at h
      exact ⟨fun _ _ => trivial, segL_sound rest (k + 1) _ w hrest h⟩
def SG (X : Cx) (ops : Array Oper) (Q : Exit → Act → World → Prop) (rest : List Oper) (l : Frm) (w : World) : Prop := ∀ a, Ok X l a → segL X ops Q rest a w
section
variable {X : Cx} {Q : Exit → Act → World → Prop} {l : Frm} {w w' : World} {ops : Array Oper} {rest : List Oper}
theorem W_region {id : Nat} {os : List Oper} (h : SG X os.toArray Q os l w) : W X (.region id os.toArray false) Q l w := fun a ha => by
  refine wpIn_region ?_
  have := segL_sound (X := X) (ops := os.toArray) (Q := Q) os 0 a w (fun j => by simp) (h a ha)
  simpa [List.range_eq_range'] using this
theorem SG_nil (h : D X Q .normal l w) : SG X ops Q [] l w := h
/-- what one operation yields, in whatever frame that has these slots -/
def Run (P : Program) (op : Op) (ty : TypeId) (l : Frm) (w : World) (v : Value) (w' : World) : Prop :=
  ∀ (X : Cx) (a : Act) (o : Oper), X.P = P → Ok X l a → o.op = op → o.type = ty → (execOp a.eval o).run P w = .ok (.value v) w'
def RunS (P : Program) (op : Op) (ty : TypeId) (l : Frm) (w : World) (w' : World) : Prop :=
  ∀ (X : Cx) (a : Act) (o : Oper), X.P = P → Ok X l a → o.op = op → o.type = ty → (execOp a.eval o).run P w = .ok .skip w'
def Rq (P : Program) (op : Op) (ty : TypeId) (l : Frm) (w : World) (v : Value) : Prop := ∀ w', Below w.heap.size w w' → Run P op ty l w' v w'
theorem no_defer {o : Oper} {ρ : Operand → Value} {P : Program} {w w' : World} {n : Next} (h : (execOp ρ o).run P w = .ok n w') (hn : ∀ d, n ≠ .defer d) : ∀ c, o.op ≠ .defer c := by
  intro c hc
  unfold execOp at h
  rw [hc] at h
  simp only [Sem.run_bind] at h
  cases hr : (resolve ρ c o.type).run P w with
  | ok d w1 => rw [hr] at h; simp only [Result.andThen, Sem.run_pure] at h; cases h; exact hn d rfl
  | halt x w1 => rw [hr] at h; simp only [Result.andThen] at h; cases h
theorem semAt_of {o : Oper} {ρ : Operand → Value} {P : Program} {w w' : World} {n : Next} {r : Option Nat} (h : (execOp ρ o).run P w = .ok n w') (hn : ∀ d, n ≠ .defer d) : (o.semAt r ρ).run P w = .ok n w' := by
  rw [Oper.semAt_eq r ρ o (no_defer h hn)]; exact h
theorem SG_val {d : Nat} {op : Op} {ty : TypeId} {pos : String} {af : Array Edge} {v : Value} (h : Run X.P op ty l w v w') (hd : Nat.blt d X.N = true) (k : SG X ops Q rest ((d, v) :: l) w') :
    SG X ops Q ({ dst := some d, op := op, type := ty, pos := pos, after := af, guard := none } :: rest) l w := fun a ha => by
  simp only [segL, Region.wanted, if_true, Oper.wpIn]
  refine ⟨fun _ _ => trivial, ?_⟩
  rw [semAt_of (h X a _ rfl ha rfl rfl) (by intro d h; cases h)]
  exact k _ (ha.put hd v)
theorem SG_q {d : Nat} {op : Op} {ty : TypeId} {pos : String} {af : Array Edge} {v : Value} (h : Rq X.P op ty l w v) (hd : Nat.blt d X.N = true) (k : SG X ops Q rest ((d, v) :: l) w) :
    SG X ops Q ({ dst := some d, op := op, type := ty, pos := pos, after := af, guard := none } :: rest) l w := SG_val (h w (Below.refl _ _)) hd k
theorem SG_st {op : Op} {ty : TypeId} {pos : String} {af : Array Edge} (h : RunS X.P op ty l w w') (k : SG X ops Q rest l w') :
    SG X ops Q ({ dst := none, op := op, type := ty, pos := pos, after := af, guard := none } :: rest) l w := fun a ha => by
  simp only [segL, Region.wanted, if_true, Oper.wpIn]
  refine ⟨fun _ _ => trivial, ?_⟩
  rw [semAt_of (h X a _ rfl ha rfl rfl) (by intro d h; cases h)]
  exact k _ (ha.put_none undef)
end

/-! ### operations without memory -/
section
variable {P : Program} {l : Frm} {w : World} {ty : TypeId}
theorem Rq_move {x : Operand} {v : Value} (h : ev l x = some v) : Rq P (.move x) ty l w v := fun w' _ X a o _ ha ho _ => by
  unfold execOp; rw [ho]; simp only [ha.ev h]; rfl
theorem Rq_assign {x : Operand} {v : Value} (h : ev l x = some v) : Rq P (.assign x) ty l w v := fun w' _ X a o _ ha ho _ => by
  unfold execOp; rw [ho]; simp only [ha.ev h]; rfl
theorem Rq_pick {c x y : Operand} {b : Bool} {v : Value} (hc : ev l c = some (.bool b)) (hx : b = true → ev l x = some v) (hy : b = false → ev l y = some v) : Rq P (.pick c x y) ty l w v := fun w' _ X a o _ ha ho _ => by
  unfold execOp; rw [ho]; simp only [ha.ev hc]
  cases b
  · simp only [asBool, Sem.run_bind, Sem.run_pure, Result.andThen, Bool.false_eq_true, if_false, ha.ev (hy rfl)]
  · simp only [asBool, Sem.run_bind, Sem.run_pure, Result.andThen, if_true, ha.ev (hx rfl)]
theorem Rq_nilCheck {x : Operand} {p : Addr} (h : ev l x = some (.pointer (some p))) : Rq P (.nilCheck x) ty l w (.pointer (some p)) := fun w' _ X a o _ ha ho _ => by
  unfold execOp; rw [ho]; simp only [ha.ev h]; rfl
theorem Rq_bin {op : BinOp} {T U : TypeId} {x y : Operand} {vx vy v : Value} (hx : ev l x = some vx) (hy : ev l y = some vy)
    (h : ∀ w', Below w.heap.size w w' → (do eqGuard op T x y vx vy; binOp op T vx vy : Sem Value).run P w' = .ok v w') : Rq P (.binOp op T x y U) ty l w v := fun w' hb X a o _ ha ho _ => by
  unfold execOp; rw [ho]; simp only [ha.ev hx, ha.ev hy, Sem.run_bind, h w' hb, Result.andThen, Sem.run_pure]
theorem eqGuard_int {op : BinOp} {T : TypeId} {x y : Operand} {k k' : IntKind} {a b : Int} (w : World) : (eqGuard op T x y (.int k a) (.int k' b)).run P w = .ok () w := by
  unfold eqGuard; cases op <;> simp [Sem.run_pure]
theorem eqGuard_bool {op : BinOp} {T : TypeId} {x y : Operand} {a b : Bool} (w : World) : (eqGuard op T x y (.bool a) (.bool b)).run P w = .ok () w := by
  unfold eqGuard; cases op <;> simp [Sem.run_pure]
theorem eqGuard_string {op : BinOp} {T : TypeId} {x y : Operand} {a b : ByteArray} (w : World) : (eqGuard op T x y (.string a) (.string b)).run P w = .ok () w := by
  unfold eqGuard; cases op <;> simp [Sem.run_pure]
section
variable {T U : TypeId} {x y : Operand} {k : IntKind} {a b : Int}
theorem Rq_add (hx : ev l x = some (.int k a)) (hy : ev l y = some (.int k b)) (hb : k.wrap (a + b) = a + b) : Rq P (.binOp .add T x y U) ty l w (.int k (a + b)) :=
  Rq_bin hx hy fun w' _ => by simp [Sem.run_bind, eqGuard_int, Result.andThen, binOp, Op.intArith, hb]
theorem Rq_sub (hx : ev l x = some (.int k a)) (hy : ev l y = some (.int k b)) (hb : k.wrap (a - b) = a - b) : Rq P (.binOp .sub T x y U) ty l w (.int k (a - b)) :=
  Rq_bin hx hy fun w' _ => by simp [Sem.run_bind, eqGuard_int, Result.andThen, binOp, Op.intArith, hb]
theorem Rq_mul (hx : ev l x = some (.int k a)) (hy : ev l y = some (.int k b)) (hb : k.wrap (a * b) = a * b) : Rq P (.binOp .mul T x y U) ty l w (.int k (a * b)) :=
  Rq_bin hx hy fun w' _ => by simp [Sem.run_bind, eqGuard_int, Result.andThen, binOp, Op.intArith, hb]
theorem Rq_quo (hx : ev l x = some (.int k a)) (hy : ev l y = some (.int k b)) (h0 : b ≠ 0) (hb : k.wrap (a.tdiv b) = a.tdiv b) : Rq P (.binOp .quo T x y U) ty l w (.int k (a.tdiv b)) :=
  Rq_bin hx hy fun w' _ => by simp [Sem.run_bind, eqGuard_int, Result.andThen, binOp, Op.intDiv, hb, h0]
theorem Rq_rem (hx : ev l x = some (.int k a)) (hy : ev l y = some (.int k b)) (h0 : b ≠ 0) : Rq P (.binOp .rem T x y U) ty l w (.int k (a.tmod b)) :=
  Rq_bin hx hy fun w' _ => by simp [Sem.run_bind, eqGuard_int, Result.andThen, binOp, Op.intDiv, h0]
theorem Rq_lss (hx : ev l x = some (.int k a)) (hy : ev l y = some (.int k b)) : Rq P (.binOp .lss T x y U) ty l w (.bool (decide (a < b))) :=
  Rq_bin hx hy fun w' _ => by simp [Sem.run_bind, eqGuard_int, Result.andThen, binOp, Op.intCmp]
theorem Rq_leq (hx : ev l x = some (.int k a)) (hy : ev l y = some (.int k b)) : Rq P (.binOp .leq T x y U) ty l w (.bool (decide (a ≤ b))) :=
  Rq_bin hx hy fun w' _ => by simp [Sem.run_bind, eqGuard_int, Result.andThen, binOp, Op.intCmp]
theorem Rq_gtr (hx : ev l x = some (.int k a)) (hy : ev l y = some (.int k b)) : Rq P (.binOp .gtr T x y U) ty l w (.bool (decide (b < a))) :=
  Rq_bin hx hy fun w' _ => by simp [Sem.run_bind, eqGuard_int, Result.andThen, binOp, Op.intCmp]
theorem Rq_geq (hx : ev l x = some (.int k a)) (hy : ev l y = some (.int k b)) : Rq P (.binOp .geq T x y U) ty l w (.bool (decide (b ≤ a))) :=
  Rq_bin hx hy fun w' _ => by simp [Sem.run_bind, eqGuard_int, Result.andThen, binOp, Op.intCmp]
theorem Rq_eql (hx : ev l x = some (.int k a)) (hy : ev l y = some (.int k b)) : Rq P (.binOp .eql T x y U) ty l w (.bool (decide (a = b))) :=
  Rq_bin hx hy fun w' _ => by simp [Sem.run_bind, eqGuard_int, Result.andThen, binOp, Op.intCmp]; rfl
theorem Rq_neq (hx : ev l x = some (.int k a)) (hy : ev l y = some (.int k b)) : Rq P (.binOp .neq T x y U) ty l w (.bool (!decide (a = b))) :=
  Rq_bin hx hy fun w' _ => by simp [Sem.run_bind, eqGuard_int, Result.andThen, binOp, Op.intCmp]; rfl
end
theorem Rq_eql_bool {T U : TypeId} {x y : Operand} {a b : Bool} (hT : ∀ w, (underlying T).run P w = .ok .bool w) (hx : ev l x = some (.bool a)) (hy : ev l y = some (.bool b)) : Rq P (.binOp .eql T x y U) ty l w (.bool (a == b)) :=
  Rq_bin hx hy fun w' _ => by
    have h2' : ∀ d, (Op.equalIn (d + 1) T (.bool a) (.bool b)).run P w' = .ok (a == b) w' := fun d => by simp [Op.equalIn, hT, Sem.run_bind, Result.andThen]
    have h3 : binOp .eql T (.bool a) (.bool b) = (do pure (.bool (← Op.equalIn (9999 + 1) T (.bool a) (.bool b))) : Sem Value) := rfl
    rw [h3]; simp only [Sem.run_bind, eqGuard_bool, h2' 9999, Result.andThen, Sem.run_pure]
theorem Rq_neq_bool {T U : TypeId} {x y : Operand} {a b : Bool} (hT : ∀ w, (underlying T).run P w = .ok .bool w) (hx : ev l x = some (.bool a)) (hy : ev l y = some (.bool b)) : Rq P (.binOp .neq T x y U) ty l w (.bool (!(a == b))) :=
  Rq_bin hx hy fun w' _ => by
    have h2' : ∀ d, (Op.equalIn (d + 1) T (.bool a) (.bool b)).run P w' = .ok (a == b) w' := fun d => by simp [Op.equalIn, hT, Sem.run_bind, Result.andThen]
    have h3 : binOp .neq T (.bool a) (.bool b) = (do pure (.bool (!(← Op.equalIn (9999 + 1) T (.bool a) (.bool b)))) : Sem Value) := rfl
    rw [h3]; simp only [Sem.run_bind, eqGuard_bool, h2' 9999, Result.andThen, Sem.run_pure]
theorem Rq_not {T : TypeId} {x : Operand} {b : Bool} (hx : ev l x = some (.bool b)) : Rq P (.unOp .not T x) ty l w (.bool (!b)) := fun w' _ X a o _ ha ho _ => by
  unfold execOp; rw [ho]; simp [ha.ev hx, Op.unary, Sem.run_bind, Result.andThen]
theorem Rq_neg {T : TypeId} {x : Operand} {k : IntKind} {n : Int} (hx : ev l x = some (.int k n)) (hb : k.wrap (-n) = -n) : Rq P (.unOp .neg T x) ty l w (.int k (-n)) := fun w' _ X a o _ ha ho _ => by
  unfold execOp; rw [ho]; simp [ha.ev hx, Op.unary, Op.intArith, Sem.run_bind, Result.andThen, hb]
theorem Rq_extract {x : Operand} {i : Nat} {vs : List Value} {v : Value} (hx : ev l x = some (.tuple vs.toArray)) (hv : vs[i]? = some v) : Rq P (.extract x i) ty l w v := fun w' _ X a o _ ha ho _ => by
  unfold execOp; rw [ho]; simp [ha.ev hx, Instr.extract, hv, Sem.run_bind, Result.andThen]
theorem Rq_makeFunc {fn : Fn} {cap : List Operand} {vs : List Value} (hx : evs l cap = some vs) : Rq P (.makeFunc fn #[] cap.toArray) ty l w (.func fn #[] vs.toArray) := fun w' _ X a o _ ha ho _ => by
  unfold execOp; rw [ho]; simp [ha.evs hx, Instr.makeFunc, Sem.run_bind, Result.andThen]
end

/-! ### memory that is read -/
theorem cell_lt {w : World} {p : Addr} {v : Value} (h : w.cell? p = some v) : p.block < w.heap.size := by
  unfold World.cell? at h
  split at h
  · rename_i hb; exact (Array.getElem?_eq_some_iff.1 hb).1
  · cases h
def Cells (w : World) (b o : Nat) (vs : List Value) : Prop := ∀ i, i < vs.length → w.cell? ⟨b, o + i, none⟩ = vs[i]?
theorem Cells.lt {w : World} {b o : Nat} {vs : List Value} (h : Cells w b o vs) (hn : 0 < vs.length) : b < w.heap.size := by
  have := h 0 hn
  rw [List.getElem?_eq_getElem hn] at this
  exact cell_lt this
theorem Cells.below {w w' : World} {b o : Nat} {vs : List Value} (h : Cells w b o vs) (hb : Below w.heap.size w w') : Cells w' b o vs := fun i hi => by
  rw [hb.cell (p := ⟨b, o + i, none⟩) (h.lt (by omega))]; exact h i hi
theorem addr_add (b o n : Nat) : (⟨b, o, none⟩ : Addr).add n = ⟨b, o + n, none⟩ := by
  unfold Addr.add; split
  · rename_i h; subst h; rfl
  · rfl
section
variable {P : Program} {l : Frm} {w : World} {ty : TypeId}
theorem run_loadVar1 {T : TypeId} {p : Addr} {v : Value} (hT : ∀ w, (isAgg T).run P w = .ok false w) (hc : w.cell? p = some v) : (loadVar T p).run P w = .ok v w := by
  unfold loadVar; simp [Sem.run_bind, hT, Result.andThen, Go.load, Sem.run, hc]
theorem run_loadCellsFrom {b o : Nat} : ∀ (n i : Nat) (acc : Array Value) (vs : List Value), (∀ j, j < n → w.cell? ⟨b, o + (i + j), none⟩ = vs[j]?) → vs.length = n →
    (loadCellsFrom ⟨b, o, none⟩ i n acc).run P w = .ok (acc ++ vs.toArray) w
  | 0, i, acc, vs, _, hl => by have : vs = [] := List.length_eq_zero_iff.1 hl; subst this; simp [loadCellsFrom]
  | n + 1, i, acc, vs, hc, hl => by
    match vs, hl with
    | v :: vs, hl =>
      have h0 := hc 0 (by omega)
      have hr := run_loadCellsFrom n (i + 1) (acc.push v) vs (fun j hj => by have := hc (j + 1) (by omega); simpa [Nat.add_assoc, Nat.add_comm 1 j] using this) (by simpa using hl)
      unfold loadCellsFrom
      simp only [Sem.run_bind, Go.load, addr_add]
      simp only [Nat.add_zero, List.getElem?_cons_zero] at h0
      simp only [Sem.run, h0, Result.andThen, hr]
      simp
theorem run_loadVarA {T n : Nat} {b o : Nat} {vs : List Value} (hT : ∀ w, (isAgg T).run P w = .ok true w) (hn : ∀ w, (sizeOf T).run P w = .ok n w) (hc : Cells w b o vs) (hl : vs.length = n) :
    (loadVar T ⟨b, o, none⟩).run P w = .ok (.agg vs.toArray) w := by
  unfold loadVar
  have := run_loadCellsFrom (P := P) (w := w) (b := b) (o := o) n 0 #[] vs (fun j hj => by simpa using hc j (by omega)) hl
  simp [Sem.run_bind, hT, hn, Result.andThen, loadCells, this]
theorem Rq_load {T : TypeId} {x : Operand} {p : Addr} {v : Value} (hT : ∀ w, (isAgg T).run P w = .ok false w) (hx : ev l x = some (.pointer (some p))) (hc : w.cell? p = some v) : Rq P (.load T x) ty l w v := fun w' hb X a o _ ha ho _ => by
  have hc' : w'.cell? p = some v := by rw [hb.cell (cell_lt hc)]; exact hc
  unfold execOp; rw [ho]; simp [ha.ev hx, Instr.loadAt, Instr.sureAddr, Sem.run_bind, Result.andThen, run_loadVar1 hT hc']
theorem Rq_loadA {T n : Nat} {x : Operand} {b off : Nat} {vs : List Value} (hT : ∀ w, (isAgg T).run P w = .ok true w) (hn : ∀ w, (sizeOf T).run P w = .ok n w) (hx : ev l x = some (.pointer (some ⟨b, off, none⟩)))
    (hc : Cells w b off vs) (hl : vs.length = n) : Rq P (.load T x) ty l w (.agg vs.toArray) := fun w' hb X a o _ ha ho _ => by
  unfold execOp; rw [ho]; simp [ha.ev hx, Instr.loadAt, Instr.sureAddr, Sem.run_bind, Result.andThen, run_loadVarA hT hn (hc.below hb) hl]
theorem Rq_fieldAddr {S : TypeId} {f off : Nat} {x : Operand} {b o : Nat} (hf : ∀ w a, (Instr.fieldAt S (.pointer (some a)) f).run P w = .ok (.pointer (some (a.add off))) w)
    (hx : ev l x = some (.pointer (some ⟨b, o, none⟩))) : Rq P (.fieldAddr S x f) ty l w (.pointer (some ⟨b, o + off, none⟩)) := fun w' _ X a op _ ha ho _ => by
  unfold execOp; rw [ho]; simp [ha.ev hx, hf, Sem.run_bind, Result.andThen, addr_add]
end

/-! ### slices that are read -/
def sb : Value → Nat | .slice (some a) _ _ => a.block | _ => 0
def so : Value → Nat | .slice (some a) _ _ => a.off | _ => 0
def scap : Value → Nat | .slice _ _ c => c | _ => 0
/-- v reads as the list xs, each element being 'k' cells 'enc x' -/
structure SL {α : Type} (w : World) (v : Value) (k : Nat) (enc : α → List Value) (xs : List α) : Prop where
  shape : (v = .slice none 0 0 ∧ xs = []) ∨ (v = .slice (some ⟨sb v, so v, none⟩) xs.length (scap v) ∧ xs.length ≤ scap v)
  cells : ∀ i x, xs[i]? = some x → Cells w (sb v) (so v + i * k) (enc x)
  pos : ∀ x, 0 < (enc x).length
section
variable {α : Type} {w w' : World} {v : Value} {k : Nat} {enc : α → List Value} {xs : List α}
theorem SL.below (h : SL w v k enc xs) (hb : Below w.heap.size w w') : SL w' v k enc xs := ⟨h.shape, fun i x hi => (h.cells i x hi).below hb, h.pos⟩
theorem SL.nil (hp : ∀ x, 0 < (enc x).length) : SL w (.slice none 0 0) k enc [] := ⟨.inl ⟨rfl, rfl⟩, fun i x hi => by simp at hi, hp⟩
theorem SL.lt (h : SL w v k enc xs) (hn : 0 < xs.length) : sb v < w.heap.size :=
  (h.cells 0 _ (List.getElem?_eq_getElem hn)).lt (h.pos _)
variable {P : Program} {l : Frm} {ty : TypeId}
theorem SL.cons_shape (h : SL w v k enc xs) (hn : 0 < xs.length) : v = .slice (some ⟨sb v, so v, none⟩) xs.length (scap v) := by
  rcases h.shape with ⟨_, h2⟩ | ⟨h1, _⟩
  · subst h2; simp at hn
  · exact h1
theorem SL.len (h : SL w v k enc xs) : ∃ a c, v = .slice a xs.length c := by
  rcases h.shape with ⟨h1, h2⟩ | ⟨h1, _⟩
  · subst h2; exact ⟨_, _, h1⟩
  · exact ⟨_, _, h1⟩
theorem Rq_len {T E : TypeId} {x : Operand} (h : SL w v k enc xs) (hT : ∀ w, (underlying T).run P w = .ok (.slice E) w) (hx : ev l x = some v) :
    Rq P (.call { callee := .builtin .len, args := #[x], argTypes := #[T] }) ty l w (.int .i64 xs.length) := fun w' _ X a o _ ha ho _ => by
  obtain ⟨p, c, hv⟩ := h.len
  rw [hv] at hx
  unfold execOp; rw [ho]; simp [resolve, ha.ev hx, invoke, builtin, Builtin.len_, hT, Sem.run_bind, Result.andThen, goInt]
theorem Rq_index {T E : TypeId} {x i : Operand} {K : IntKind} {n : Int} (h : SL w v k enc xs) (hT : ∀ w, (underlying T).run P w = .ok (.slice E) w) (hE : ∀ w, (sizeOf E).run P w = .ok k w)
    (hx : ev l x = some v) (hi : ev l i = some (.int K n)) (h0 : 0 ≤ n) (h1 : n < xs.length) :
    Rq P (.indexAddr T x i) ty l w (.pointer (some ⟨sb v, so v + n.toNat * k, none⟩)) := fun w' _ X a o _ ha ho _ => by
  have hv := h.cons_shape (by omega)
  rw [hv] at hx
  unfold execOp; rw [ho]
  have e1 : (0 ≤ n ∧ n < (xs.length : Int)) := ⟨h0, h1⟩
  simp [ha.ev hx, ha.ev hi, Instr.indexAt, asIntOf, hT, hE, Sem.run_bind, Result.andThen, e1, addr_add]
end

/-! ### worlds that changed -/
/-- but for the blocks of S all that was there is as it was -/
structure Chg (S : Nat → Prop) (w w' : World) : Prop where
  os : w'.os = w.os
  tape : w'.tape = w.tape
  output : w'.output = w.output
  size : w.heap.size ≤ w'.heap.size
  block : ∀ k, k < w.heap.size → ¬ S k → w'.heap[k]? = w.heap[k]?
theorem Chg.refl (S : Nat → Prop) (w : World) : Chg S w w := ⟨rfl, rfl, rfl, Nat.le_refl _, fun _ _ _ => rfl⟩
theorem Chg.of_below {w w' : World} (S : Nat → Prop) (h : Below w.heap.size w w') : Chg S w w' := ⟨h.os, h.tape, h.output, h.size, fun k hk _ => h.block k hk⟩
theorem Chg.trans {S : Nat → Prop} {a b c : World} (h : Chg S a b) (k : Chg S b c) : Chg S a c :=
  ⟨k.os.trans h.os, k.tape.trans h.tape, k.output.trans h.output, Nat.le_trans h.size k.size, fun i hi hS => (k.block i (Nat.lt_of_lt_of_le hi h.size) hS).trans (h.block i hi hS)⟩
theorem Chg.mono {S T : Nat → Prop} {w w' : World} (h : Chg S w w') (hST : ∀ k, k < w.heap.size → S k → T k) : Chg T w w' :=
  ⟨h.os, h.tape, h.output, h.size, fun k hk hT => h.block k hk fun hS => hT (hST k hk hS)⟩
theorem Chg.below {S : Nat → Prop} {B : Nat} {w w' : World} (h : Chg S w w') (hB : B ≤ w.heap.size) (hS : ∀ k, k < B → ¬ S k) : Below B w w' :=
  ⟨h.os, h.tape, h.output, h.size, fun k hk => h.block k (Nat.lt_of_lt_of_le hk hB) (hS k hk)⟩
theorem Chg.cell {S : Nat → Prop} {w w' : World} (h : Chg S w w') {p : Addr} {v : Value} (hc : w.cell? p = some v) (hn : ¬ S p.block) : w'.cell? p = some v := by
  rw [← hc]; exact World.cell?_of_block (w := w) (h.block p.block (cell_lt hc) hn)
theorem Cells.chg {S : Nat → Prop} {w w' : World} {b o : Nat} {vs : List Value} (h : Cells w b o vs) (hc : Chg S w w') (hn : ¬ S b) : Cells w' b o vs := fun i hi => by
  have h1 := h i hi
  rw [List.getElem?_eq_getElem hi] at h1 ⊢
  exact hc.cell h1 hn
theorem SL.chg {α : Type} {S : Nat → Prop} {w w' : World} {v : Value} {k : Nat} {enc : α → List Value} {xs : List α} (h : SL w v k enc xs) (hc : Chg S w w') (hn : 0 < xs.length → ¬ S (sb v)) : SL w' v k enc xs :=
  ⟨h.shape, fun i x hi => (h.cells i x hi).chg hc (hn (by have := (List.getElem?_eq_some_iff.1 hi).1; omega)), h.pos⟩
/-- block b is this row of cells -/
def Blk (w : World) (b : Nat) (cs : List Value) (T : TypeId) : Prop := w.heap[b]? = some (.cells cs.toArray T (0, 0))
theorem Blk.lt {w : World} {b : Nat} {cs : List Value} {T : TypeId} (h : Blk w b cs T) : b < w.heap.size := (Array.getElem?_eq_some_iff.1 h).1
theorem Blk.below {w w' : World} {b : Nat} {cs : List Value} {T : TypeId} (h : Blk w b cs T) (hb : Below w.heap.size w w') : Blk w' b cs T := (hb.block b h.lt).trans h
theorem Blk.chg {S : Nat → Prop} {w w' : World} {b : Nat} {cs : List Value} {T : TypeId} (h : Blk w b cs T) (hc : Chg S w w') (hn : ¬ S b) : Blk w' b cs T := (hc.block b h.lt hn).trans h
theorem Blk.cell {w : World} {b o : Nat} {cs : List Value} {T : TypeId} (h : Blk w b cs T) : w.cell? ⟨b, o, none⟩ = cs[o]? := by
  unfold World.cell?; rw [h]; simp
theorem Blk.cells {w : World} {b o : Nat} {cs vs : List Value} {T : TypeId} (h : Blk w b cs T) (hv : (cs.drop o).take vs.length = vs) : Cells w b o vs := fun i hi => by
  rw [h.cell, ← hv]
  have : i < vs.length := hi
  simp [List.getElem?_take, this, List.getElem?_drop]
section
variable {P : Program} {l : Frm} {w : World} {ty : TypeId}
theorem Rq_loadB {T T' : TypeId} {x : Operand} {b o : Nat} {cs : List Value} {v : Value} (hB : Blk w b cs T') (hT : ∀ w, (isAgg T).run P w = .ok false w) (hx : ev l x = some (.pointer (some ⟨b, o, none⟩))) (hv : cs[o]? = some v) : Rq P (.load T x) ty l w v :=
  Rq_load hT hx (hB.cell.trans hv)
theorem Rq_loadBA {T T' n : Nat} {x : Operand} {b o : Nat} {cs vs : List Value} (hB : Blk w b cs T') (hT : ∀ w, (isAgg T).run P w = .ok true w) (hn : ∀ w, (sizeOf T).run P w = .ok n w) (hx : ev l x = some (.pointer (some ⟨b, o, none⟩)))
    (hv : (cs.drop o).take n = vs) (hl : vs.length = n) : Rq P (.load T x) ty l w (.agg vs.toArray) :=
  Rq_loadA hT hn hx (hB.cells (by rw [hl]; exact hv)) hl
theorem Rq_loadBW {T T' n : Nat} {x : Operand} {b : Nat} {cs : List Value} (hB : Blk w b cs T') (hT : ∀ w, (isAgg T).run P w = .ok true w) (hn : ∀ w, (sizeOf T).run P w = .ok n w) (hx : ev l x = some (.pointer (some ⟨b, 0, none⟩)))
    (hl : cs.length = n) : Rq P (.load T x) ty l w (.agg cs.toArray) :=
  Rq_loadA hT hn hx (hB.cells (by simp)) hl
end
theorem alloc_below (w : World) (o : Obj) : Below w.heap.size w (w.alloc o) := (Below.refl _ _).alloc (Nat.le_refl _) _
theorem alloc_blk (w : World) (cs : List Value) (T : TypeId) : Blk (w.alloc (.cells cs.toArray T)) w.heap.size cs T := by
  show (w.heap.push _)[w.heap.size]? = _; simp

/-! ### calls -/
def Pure (P : Program) (f : FuncId) (args : Array Value) (w : World) (v : Value) : Prop := Calls P f args w fun e w' => e = .returned v ∧ Below w.heap.size w w'
/-- what a call hands back, and what it leaves: nothing that was there has turned -/
def Fn (P : Program) (f : FuncId) (args : Array Value) (w : World) (R : Value → World → Prop) : Prop := Calls P f args w fun e w' => ∃ v, e = .returned v ∧ Below w.heap.size w w' ∧ R v w'
theorem Fn.mono {P : Program} {f : FuncId} {args : Array Value} {w : World} {R R' : Value → World → Prop} (h : Fn P f args w R) (hr : ∀ v w', Below w.heap.size w w' → R v w' → R' v w') : Fn P f args w R' :=
  Calls.mono h fun e w' ⟨v, he, hb, hR⟩ => ⟨v, he, hb, hr v w' hb hR⟩
theorem callsIn_of {P : Program} {r : Option Nat} {n : Nat} {f : FuncId} {args : Array Value} {w : World} {R : Ending → World → Prop} (h : Calls P f args w R) : CallsIn (Fw r) n P f args w R :=
  (callsIn_wide (n := n)).2 h
section
variable {X : Cx} {Q : Exit → Act → World → Prop} {l : Frm} {w w' : World} {ops : Array Oper} {rest : List Oper}
/-- a call of a known function -/
theorem run_call {P : Program} {X : Cx} {a : Act} {o : Oper} {f : FuncId} {args : List Operand} {tys : Array TypeId} {vs : List Value} {w : World} (ha : Ok X l a) (ho : o.op = .call { callee := .value (.func f), args := args.toArray, argTypes := tys })
    (hargs : evs l args = some vs) (hf : ∀ args w, (callFunc f args).run P w = .ok (.enter f args) w) : (execOp a.eval o).run P w = .ok (.enter f vs.toArray) w := by
  unfold execOp; rw [ho]
  simp [resolve, Act.eval, Deferred.ofValue, invoke, Sem.run_bind, Result.andThen, hf, ha.evs hargs]
theorem run_callv {P : Program} {X : Cx} {a : Act} {o : Oper} {f : FuncId} {g : Operand} {cap all : List Value} {args : List Operand} {tys : Array TypeId} {vs : List Value} {w : World} (ha : Ok X l a) (ho : o.op = .call { callee := .value g, args := args.toArray, argTypes := tys })
    (hg : ev l g = some (.func (.func f) #[] cap.toArray)) (hargs : evs l args = some vs) (hall : vs ++ cap = all) (hf : ∀ args w, (callFunc f args).run P w = .ok (.enter f args) w) : (execOp a.eval o).run P w = .ok (.enter f all.toArray) w := by
  unfold execOp; rw [ho]
  simp [resolve, ha.ev hg, Deferred.ofValue, invoke, Sem.run_bind, Result.andThen, hf, ha.evs hargs, ← hall]
theorem SG_enter {dst : Option Tmp} {op : Op} {ty : TypeId} {pos : String} {af : Array Edge} {f : FuncId} {vs : Array Value} {K : Value → World → Prop}
    (hrun : ∀ a (o : Oper), Ok X l a → o.op = op → (execOp a.eval o).run X.P w = .ok (.enter f vs) w) (h : Fn X.P f vs w K)
    (k : ∀ v w', Below w.heap.size w w' → K v w' → ∀ a, Ok X l a → segL X ops Q rest (a.put dst v) w') :
    SG X ops Q ({ dst := dst, op := op, type := ty, pos := pos, after := af, guard := none } :: rest) l w := fun a ha => by
  simp only [segL, Region.wanted, if_true, Oper.wpIn]
  refine ⟨fun _ _ => trivial, ?_⟩
  rw [semAt_of (hrun a _ ha rfl) (by intro d h; cases h)]
  refine ⟨(fun h => by cases h), callsIn_of (Calls.mono h ?_)⟩
  rintro e w' ⟨v, rfl, hb, hK⟩
  exact k v w' hb hK a ha
theorem SG_call {d : Nat} {f : FuncId} {args : List Operand} {tys : Array TypeId} {ty : TypeId} {pos : String} {af : Array Edge} {vs : List Value} {K : Value → World → Prop} (hargs : evs l args = some vs)
    (hf : ∀ args w, (callFunc f args).run X.P w = .ok (.enter f args) w) (hd : Nat.blt d X.N = true) (h : Fn X.P f vs.toArray w K) (k : ∀ v w', Below w.heap.size w w' → K v w' → SG X ops Q rest ((d, v) :: l) w') :
    SG X ops Q ({ dst := some d, op := .call { callee := .value (.func f), args := args.toArray, argTypes := tys }, type := ty, pos := pos, after := af, guard := none } :: rest) l w :=
  SG_enter (fun a o ha ho => run_call ha ho hargs hf) h fun v w' hb hK a ha => k v w' hb hK _ (ha.put hd v)
theorem SG_call0 {f : FuncId} {args : List Operand} {tys : Array TypeId} {ty : TypeId} {pos : String} {af : Array Edge} {vs : List Value} {K : Value → World → Prop} (hargs : evs l args = some vs)
    (hf : ∀ args w, (callFunc f args).run X.P w = .ok (.enter f args) w) (h : Fn X.P f vs.toArray w K) (k : ∀ v w', Below w.heap.size w w' → K v w' → SG X ops Q rest l w') :
    SG X ops Q ({ dst := none, op := .call { callee := .value (.func f), args := args.toArray, argTypes := tys }, type := ty, pos := pos, after := af, guard := none } :: rest) l w :=
  SG_enter (fun a o ha ho => run_call ha ho hargs hf) h fun v w' hb hK a ha => k v w' hb hK _ (ha.put_none v)
theorem SG_callv {d : Nat} {f : FuncId} {g : Operand} {cap all : List Value} {args : List Operand} {tys : Array TypeId} {ty : TypeId} {pos : String} {af : Array Edge} {vs : List Value} {K : Value → World → Prop}
    (hg : ev l g = some (.func (.func f) #[] cap.toArray)) (hargs : evs l args = some vs) (hall : vs ++ cap = all)
    (hf : ∀ args w, (callFunc f args).run X.P w = .ok (.enter f args) w) (hd : Nat.blt d X.N = true) (h : Fn X.P f all.toArray w K) (k : ∀ v w', Below w.heap.size w w' → K v w' → SG X ops Q rest ((d, v) :: l) w') :
    SG X ops Q ({ dst := some d, op := .call { callee := .value g, args := args.toArray, argTypes := tys }, type := ty, pos := pos, after := af, guard := none } :: rest) l w :=
  SG_enter (fun a o ha ho => run_callv ha ho hg hargs hall hf) h fun v w' hb hK a ha => k v w' hb hK _ (ha.put hd v)
/-- a call that changes what was there: its contract as it stands -/
theorem SG_enterC {dst : Option Tmp} {op : Op} {ty : TypeId} {pos : String} {af : Array Edge} {f : FuncId} {vs : Array Value} {K : Value → World → Prop}
    (hrun : ∀ a (o : Oper), Ok X l a → o.op = op → (execOp a.eval o).run X.P w = .ok (.enter f vs) w) (h : Calls X.P f vs w fun e w' => ∃ v, e = .returned v ∧ K v w')
    (k : ∀ v w', K v w' → ∀ a, Ok X l a → segL X ops Q rest (a.put dst v) w') :
    SG X ops Q ({ dst := dst, op := op, type := ty, pos := pos, after := af, guard := none } :: rest) l w := fun a ha => by
  simp only [segL, Region.wanted, if_true, Oper.wpIn]
  refine ⟨fun _ _ => trivial, ?_⟩
  rw [semAt_of (hrun a _ ha rfl) (by intro d h; cases h)]
  refine ⟨(fun h => by cases h), callsIn_of (Calls.mono h ?_)⟩
  rintro e w' ⟨v, rfl, hK⟩
  exact k v w' hK a ha
theorem SG_callC {d : Nat} {f : FuncId} {args : List Operand} {tys : Array TypeId} {ty : TypeId} {pos : String} {af : Array Edge} {vs : List Value} {K : Value → World → Prop} (hargs : evs l args = some vs)
    (hf : ∀ args w, (callFunc f args).run X.P w = .ok (.enter f args) w) (hd : Nat.blt d X.N = true) (h : Calls X.P f vs.toArray w fun e w' => ∃ v, e = .returned v ∧ K v w') (k : ∀ v w', K v w' → SG X ops Q rest ((d, v) :: l) w') :
    SG X ops Q ({ dst := some d, op := .call { callee := .value (.func f), args := args.toArray, argTypes := tys }, type := ty, pos := pos, after := af, guard := none } :: rest) l w :=
  SG_enterC (fun a o ha ho => run_call ha ho hargs hf) h fun v w' hK a ha => k v w' hK _ (ha.put hd v)
theorem SG_callC0 {f : FuncId} {args : List Operand} {tys : Array TypeId} {ty : TypeId} {pos : String} {af : Array Edge} {vs : List Value} {K : Value → World → Prop} (hargs : evs l args = some vs)
    (hf : ∀ args w, (callFunc f args).run X.P w = .ok (.enter f args) w) (h : Calls X.P f vs.toArray w fun e w' => ∃ v, e = .returned v ∧ K v w') (k : ∀ v w', K v w' → SG X ops Q rest l w') :
    SG X ops Q ({ dst := none, op := .call { callee := .value (.func f), args := args.toArray, argTypes := tys }, type := ty, pos := pos, after := af, guard := none } :: rest) l w :=
  SG_enterC (fun a o ha ho => run_call ha ho hargs hf) h fun v w' hK a ha => k v w' hK _ (ha.put_none v)

/-! ### guards -/
theorem yielded_of {ops : Array Oper} {a : Act} {j dj : Nat} {b : Bool} (hj : (ops[j]?).bind (·.dst) = some dj) (ha : Ok X l a) (hb : look l dj = some (.bool b)) : yielded ops a.tmps j = some b := by
  unfold yielded; rw [hj]; simp [ha.2.2 dj _ hb]
theorem SG_yes {dst : Option Tmp} {op : Op} {ty : TypeId} {pos : String} {af : Array Edge} {j : Nat} {want b : Bool} (dj : Nat) (hj : (ops[j]?).bind (·.dst) = some dj) (hb : look l dj = some (.bool b)) (he : b = want)
    (k : SG X ops Q ({ dst := dst, op := op, type := ty, pos := pos, after := af, guard := none } :: rest) l w) :
    SG X ops Q ({ dst := dst, op := op, type := ty, pos := pos, after := af, guard := some (j, want) } :: rest) l w := fun a ha => by
  have h := k a ha
  simp only [segL, Region.wanted, if_true] at h
  simp only [segL, Region.wanted, yielded_of hj ha hb, he, beq_self_eq_true, if_true]
  exact h
theorem SG_no {d : Nat} {op : Op} {ty : TypeId} {pos : String} {af : Array Edge} {j : Nat} {want b : Bool} (dj : Nat) (hj : (ops[j]?).bind (·.dst) = some dj) (hb : look l dj = some (.bool b)) (he : b = !want) (hd : Nat.blt d X.N = true)
    (k : SG X ops Q rest ((d, undef) :: l) w) :
    SG X ops Q ({ dst := some d, op := op, type := ty, pos := pos, after := af, guard := some (j, want) } :: rest) l w := fun a ha => by
  have hne : (some b == some want) = false := by rw [he]; cases want <;> rfl
  simp only [segL, Region.wanted, yielded_of hj ha hb, hne]
  exact k _ (ha.put hd undef)
theorem SG_no0 {op : Op} {ty : TypeId} {pos : String} {af : Array Edge} {j : Nat} {want b : Bool} (dj : Nat) (hj : (ops[j]?).bind (·.dst) = some dj) (hb : look l dj = some (.bool b)) (he : b = !want)
    (k : SG X ops Q rest l w) :
    SG X ops Q ({ dst := none, op := op, type := ty, pos := pos, after := af, guard := some (j, want) } :: rest) l w := fun a ha => by
  have hne : (some b == some want) = false := by rw [he]; cases want <;> rfl
  simp only [segL, Region.wanted, yielded_of hj ha hb, hne]
  exact k _ (ha.put_none undef)
theorem skip_ne {ops : Array Oper} {a : Act} {j dj : Nat} {want : Bool} (hj : (ops[j]?).bind (·.dst) = some dj) (ha : Ok X l a) (hb : look l dj = some undef) : (yielded ops a.tmps j == some want) = false := by
  unfold yielded; rw [hj]; simp only [Option.bind_some, ha.2.2 dj _ hb]; rfl
theorem SG_skip {d : Nat} {op : Op} {ty : TypeId} {pos : String} {af : Array Edge} {j : Nat} {want : Bool} (dj : Nat) (hj : (ops[j]?).bind (·.dst) = some dj) (hb : look l dj = some undef) (hd : Nat.blt d X.N = true)
    (k : SG X ops Q rest ((d, undef) :: l) w) :
    SG X ops Q ({ dst := some d, op := op, type := ty, pos := pos, after := af, guard := some (j, want) } :: rest) l w := fun a ha => by
  simp only [segL, Region.wanted, skip_ne hj ha hb]
  exact k _ (ha.put hd undef)
theorem SG_split {b : Bool} (dj : Nat) (_hb : look l dj = some (.bool b)) (ht : b = true → SG X ops Q rest l w) (hf : b = false → SG X ops Q rest l w) : SG X ops Q rest l w := by
  cases b
  · exact hf rfl
  · exact ht rfl
/-- both ways through the guarded operations meet again behind the next n of them, in slot d -/
theorem SG_and {b r : Bool} (n d dj : Nat) (_hb : look l dj = some (.bool b)) (ht : b = true → (∀ l' w', Below w.heap.size w w' → Sub l' ((d, .bool r) :: l) → SG X ops Q (rest.drop n) l' w') → SG X ops Q rest l w)
    (hf : b = false → (∀ l' w', Below w.heap.size w w' → Sub l' ((d, .bool false) :: l) → SG X ops Q (rest.drop n) l' w') → SG X ops Q rest l w) (k : ∀ w', Below w.heap.size w w' → SG X ops Q (rest.drop n) ((d, .bool (b && r)) :: l) w') : SG X ops Q rest l w := by
  cases b
  · exact hf rfl fun l' w' hb hs a ha => k w' hb a (ha.sub hs)
  · exact ht rfl fun l' w' hb hs a ha => k w' hb a (ha.sub hs)
theorem SG_or {b r : Bool} (n d dj : Nat) (_hb : look l dj = some (.bool b)) (hf : b = false → (∀ l' w', Below w.heap.size w w' → Sub l' ((d, .bool r) :: l) → SG X ops Q (rest.drop n) l' w') → SG X ops Q rest l w)
    (ht : b = true → (∀ l' w', Below w.heap.size w w' → Sub l' ((d, .bool true) :: l) → SG X ops Q (rest.drop n) l' w') → SG X ops Q rest l w) (k : ∀ w', Below w.heap.size w w' → SG X ops Q (rest.drop n) ((d, .bool (b || r)) :: l) w') : SG X ops Q rest l w := by
  cases b
  · exact hf rfl fun l' w' hb hs a ha => k w' hb a (ha.sub hs)
  · exact ht rfl fun l' w' hb hs a ha => k w' hb a (ha.sub hs)
end

/-! ### functions -/
def enumF : Nat → List Value → Frm
  | _, [] => []
  | n, v :: vs => (n, v) :: enumF (n + 1) vs
theorem look_enumF : ∀ (vs : List Value) (n t : Nat) (v : Value), look (enumF n vs) t = some v → n ≤ t ∧ vs[t - n]? = some v
  | [], n, t, v, h => by simp [enumF, look] at h
  | u :: us, n, t, v, h => by
    simp only [enumF, look] at h
    by_cases e : n = t
    · subst e
      rw [show Nat.beq n n = true from Nat.beq_refl n] at h
      simp only [cond_true, Option.some.injEq] at h
      simp [h]
    · rw [beq_ne e] at h
      obtain ⟨h1, h2⟩ := look_enumF us (n + 1) t v h
      refine ⟨by omega, ?_⟩
      have : t - n = (t - (n + 1)) + 1 := by omega
      rw [this]; simpa using h2
theorem calls_of_W {P : Program} {f : FuncId} {fn : Func} {c : Code} {N : Nat} {args : List Value} {w : World} {R : Ending → World → Prop} (hf : P.funcs[f]? = some fn) (hb : fn.body = some c) (hN : fn.ntmps = N) (hle : Nat.ble args.length N = true)
    (h : W ⟨none, P, N, []⟩ c (bodyPost P fn R) (enumF 0 args) w) : Calls P f args.toArray w R := by
  refine (callsIn_wide (n := 0)).1 (callsIn_of_wp hf hb trivial ?_)
  refine h _ ⟨rfl, ?_, fun t v ht => ?_⟩
  · have : args.length ≤ N := Nat.le_of_ble_eq_true hle
    simp [hN]; omega
  · obtain ⟨_, h2⟩ := look_enumF args 0 t v ht
    simp only [Nat.sub_zero] at h2
    have hlt : t < args.length := (List.getElem?_eq_some_iff.1 h2).1
    simp only [Array.getElem?_append, List.size_toArray, hlt, if_true]
    simpa using h2
section
variable {P : Program} {N : Nat} {l : Frm} {w : World} {fn : Func} {R : Ending → World → Prop} {e : Exit}
def Exit.ends : Exit → Bool | .normal => true | .ret => true | _ => false
theorem D_body_of {vs : Value} (he : Exit.ends e = true) (hr : ∀ a, Ok ⟨none, P, N, []⟩ l a → (results fn a.tmps).run P w = .ok vs w) (hR : R (.returned vs) w) : D ⟨none, P, N, []⟩ (bodyPost P fn R) e l w := fun a ha => by
  cases e <;> first | (exact ⟨ha.1, vs, hr a ha, hR⟩) | (simp [Exit.ends] at he)
theorem D_body0 (he : Exit.ends e = true) (hres : fn.results = #[]) (hR : R (.returned (.tuple #[])) w) : D ⟨none, P, N, []⟩ (bodyPost P fn R) e l w :=
  D_body_of he (fun a _ => by simp [results, hres]) hR
theorem D_body1 {t : Nat} {v : Value} (he : Exit.ends e = true) (hres : fn.results = #[.tmp t]) (hv : look l t = some v) (hR : R (.returned v) w) : D ⟨none, P, N, []⟩ (bodyPost P fn R) e l w :=
  D_body_of he (fun a ha => by simp [results, hres, Array.getD_eq_getD_getElem?, ha.2.2 t v hv]) hR
theorem D_body2 {t t' : Nat} {v v' : Value} (he : Exit.ends e = true) (hres : fn.results = #[.tmp t, .tmp t']) (hv : look l t = some v) (hv' : look l t' = some v') (hR : R (.returned (.tuple #[v, v'])) w) : D ⟨none, P, N, []⟩ (bodyPost P fn R) e l w :=
  D_body_of he (fun a ha => by simp [results, hres, Array.getD_eq_getD_getElem?, ha.2.2 t v hv, ha.2.2 t' v' hv']) hR
theorem D_body3 {t t' t'' : Nat} {v v' v'' : Value} (he : Exit.ends e = true) (hres : fn.results = #[.tmp t, .tmp t', .tmp t'']) (hv : look l t = some v) (hv' : look l t' = some v') (hv'' : look l t'' = some v'') (hR : R (.returned (.tuple #[v, v', v''])) w) : D ⟨none, P, N, []⟩ (bodyPost P fn R) e l w :=
  D_body_of he (fun a ha => by simp [results, hres, Array.getD_eq_getD_getElem?, ha.2.2 t v hv, ha.2.2 t' v' hv', ha.2.2 t'' v'' hv'']) hR
end

/-! ### a condition of several parts: both ways meet again -/
section
variable {X : Cx} {Q : Exit → Act → World → Prop} {l : Frm} {w w' : World} {ops : Array Oper} {rest : List Oper}
theorem W_or {y : Code} {d : Nat} {b r : Bool} (hb : look l d = some (.bool b)) (hf : b = false → (∀ l', Sub l' ((d, .bool r) :: l) → D X Q .normal l' w) → W X y Q l w)
    (k : D X Q .normal ((d, .bool (b || r)) :: l) w) : W X (.cond (.tmp d) .skip y) Q l w := by
  have hsub : b = true → Sub l ((d, .bool (b || r)) :: l) := fun e => Sub.cons (by rw [hb, e]; rfl) Sub.refl
  refine W_cond (b := b) hb (fun e => W_skip (D_sub (hsub e) k)) fun e => hf e fun l' hs => D_sub ?_ k
  rw [e]; exact hs
theorem W_and {x : Code} {d : Nat} {b r : Bool} (hb : look l d = some (.bool b)) (ht : b = true → (∀ l', Sub l' ((d, .bool r) :: l) → D X Q .normal l' w) → W X x Q l w)
    (k : D X Q .normal ((d, .bool (b && r)) :: l) w) : W X (.cond (.tmp d) x .skip) Q l w := by
  have hsub : b = false → Sub l ((d, .bool (b && r)) :: l) := fun e => Sub.cons (by rw [hb, e]; rfl) Sub.refl
  refine W_cond (b := b) hb (fun e => ht e fun l' hs => D_sub ?_ k) (fun e => W_skip (D_sub (hsub e) k))
  rw [e]; exact hs

/-! ### regions that draw their order and only read (or call what only reads and makes new memory) -/
theorem wpIn_of_quiet {o : Oper} {a : Act} {C : World → Prop} {K : Act → Prop} {K' : Act → World → Prop} {Q' : Exit → Act → World → Prop} {w : World} (hw : C w) (h : ∀ a w', C w' → K a → K' a w')
    (hh : o.quiet X.P a C K) : o.wpIn (Fw X.r) 0 X.P a w K' Q' := by
  obtain ⟨v, h1, h2⟩ := hh
  have h3 := h1 w hw
  unfold Oper.quietAt at h3
  refine ⟨fun _ _ => trivial, ?_⟩
  generalize hr : (execOp a.eval o).run X.P w = res at h3
  cases res with
  | halt x w' => exact h3.elim
  | ok n w' =>
    cases n <;> simp only [Oper.quietUpon] at h3
    case value u =>
      obtain ⟨e1, e2⟩ := h3
      rw [semAt_of hr (by intro d h; cases h)]
      subst e1; subst e2
      exact h _ _ hw h2
    case skip =>
      obtain ⟨e1, e2⟩ := h3
      rw [semAt_of hr (by intro d h; cases h)]
      subst e1; subst e2
      exact h _ _ hw h2
    case enter f args =>
      obtain ⟨e1, hc⟩ := h3
      rw [semAt_of hr (by intro d h; cases h)]
      subst e1
      exact ⟨(fun h => by cases h), callsIn_of (Calls.mono hc fun e w'' ⟨he, hw''⟩ => by subst he; exact h _ _ hw'' h2)⟩
theorem wpOpIn_of_q {C : World → Prop} {i : Nat} {a : Act} {K : Act → Prop} {K' : Act → World → Prop} {Q' : Exit → Act → World → Prop} {w : World} (hC : C w) (h : ∀ a w', C w' → K a → K' a w')
    (hh : qOp X.P ops C i K a) : wpOpIn (Fw X.r) 0 X.P ops Q' i K' a w := by
  unfold qOp at hh
  unfold wpOpIn
  cases ho : ops[i]? with
  | none => rw [ho] at hh; exact h _ _ hC hh
  | some o =>
    rw [ho] at hh
    simp only at hh ⊢
    split
    · rename_i hw; simp only [hw, if_true] at hh; exact wpIn_of_quiet hC h hh
    · rename_i hw; simp only [hw] at hh; exact ⟨fun _ _ => trivial, h _ _ hC hh⟩
theorem wpAnyIn_of_q {md : Region.Mode} {C : World → Prop} {Q0 : Act → Prop} {Q' : Exit → Act → World → Prop} (hQ : ∀ a w, C w → Q0 a → Q' .normal a w) : ∀ (fuel : Nat) (listed : Array Bool) (a : Act) (w : World), C w →
    wpAnyQ X.P md ops C Q0 fuel listed a → wpAnyIn (Fw X.r) 0 X.P md ops Q' fuel listed a w
  | 0, _, _, _, hw, h => ⟨h.1, hQ _ _ hw h.2⟩
  | fuel + 1, _, _, _, hw, h => ⟨fun h0 => hQ _ _ hw (h.1 h0), fun i hi => wpOpIn_of_q hw (fun a' w' hw' => wpAnyIn_of_q hQ fuel _ a' w' hw') (h.2 i hi)⟩
def QS (X : Cx) (w : World) (ops : Array Oper) (K : Act → Prop) (rest : List Oper) (l : Frm) : Prop := ∀ a, Ok X l a → wpQuiet X.P ops (fun w' => Below w.heap.size w w') K rest a
theorem W_quiet {id : Nat} {os : List Oper} (hm : X.P.follows .mixedOrders = true) (hB : Region.lexB .any os.toArray = true)
    (h : QS X w os.toArray (fun a => ∀ w', Below w.heap.size w w' → Q .normal a w') os l) : W X (.region id os.toArray true) Q l w := fun a ha => by
  simp only [Region.lexB, Bool.and_eq_true] at hB
  refine wpIn_region_any hm (wpAnyIn_of_q (C := fun w' => Below w.heap.size w w') (Q0 := fun a' => ∀ w', Below w.heap.size w w' → Q .normal a' w') (fun _ w' hw' h => h w' hw') _ _ _ _ (Below.refl _ w).drew ?_)
  have := wpAnyQ_lex (P := X.P) (C := fun w' => Below w.heap.size w w') (md := .any) hB.1 os 0 (Array.replicate os.toArray.size false) a (by simp) (by simpa using hB.2) (h a ha)
  simpa using this
theorem QS_nil {K : Exit → Act → World → Prop} (h : ∀ w', Below w.heap.size w w' → D X K .normal l w') : QS X w ops (fun a => ∀ w', Below w.heap.size w w' → K .normal a w') [] l := fun a ha w' hb => h w' hb a ha
variable {K : Act → Prop}
theorem QS_q {d : Nat} {op : Op} {ty : TypeId} {pos : String} {af : Array Edge} {v : Value} (h : Rq X.P op ty l w v) (hd : Nat.blt d X.N = true) (k : QS X w ops K rest ((d, v) :: l)) :
    QS X w ops K ({ dst := some d, op := op, type := ty, pos := pos, after := af, guard := none } :: rest) l := fun a ha => by
  simp only [wpQuiet, Region.wanted, if_true]
  refine ⟨v, fun w' hw' => ?_, k _ (ha.put hd v)⟩
  unfold Oper.quietAt
  rw [h w' hw' X a _ rfl ha rfl rfl]
  exact ⟨rfl, rfl⟩
theorem QS_enter {dst : Option Tmp} {op : Op} {ty : TypeId} {pos : String} {af : Array Edge} {f : FuncId} {vs : Array Value} {v : Value}
    (hrun : ∀ a (o : Oper) w', Ok X l a → o.op = op → (execOp a.eval o).run X.P w' = .ok (.enter f vs) w') (h : ∀ w', Below w.heap.size w w' → Pure X.P f vs w' v)
    (k : ∀ a, Ok X l a → wpQuiet X.P ops (fun w' => Below w.heap.size w w') K rest (a.put dst v)) :
    QS X w ops K ({ dst := dst, op := op, type := ty, pos := pos, after := af, guard := none } :: rest) l := fun a ha => by
  simp only [wpQuiet, Region.wanted, if_true]
  refine ⟨v, fun w' hw' => ?_, k a ha⟩
  unfold Oper.quietAt
  rw [hrun a _ w' ha rfl]
  exact ⟨rfl, Calls.mono (h w' hw') fun e w'' ⟨he, hb⟩ => ⟨he, hw'.trans (hb.mono hw'.size)⟩⟩
theorem QS_call {d : Nat} {f : FuncId} {args : List Operand} {tys : Array TypeId} {ty : TypeId} {pos : String} {af : Array Edge} {vs : List Value} {v : Value} (hargs : evs l args = some vs)
    (hf : ∀ args w, (callFunc f args).run X.P w = .ok (.enter f args) w) (hd : Nat.blt d X.N = true) (h : ∀ w', Below w.heap.size w w' → Pure X.P f vs.toArray w' v) (k : QS X w ops K rest ((d, v) :: l)) :
    QS X w ops K ({ dst := some d, op := .call { callee := .value (.func f), args := args.toArray, argTypes := tys }, type := ty, pos := pos, after := af, guard := none } :: rest) l :=
  QS_enter (fun a o w' ha ho => run_call ha ho hargs hf) h fun a ha => k _ (ha.put hd v)
theorem QS_callv {d : Nat} {f : FuncId} {g : Operand} {cap all : List Value} {args : List Operand} {tys : Array TypeId} {ty : TypeId} {pos : String} {af : Array Edge} {vs : List Value} {v : Value}
    (hg : ev l g = some (.func (.func f) #[] cap.toArray)) (hargs : evs l args = some vs) (hall : vs ++ cap = all)
    (hf : ∀ args w, (callFunc f args).run X.P w = .ok (.enter f args) w) (hd : Nat.blt d X.N = true) (h : ∀ w', Below w.heap.size w w' → Pure X.P f all.toArray w' v) (k : QS X w ops K rest ((d, v) :: l)) :
    QS X w ops K ({ dst := some d, op := .call { callee := .value g, args := args.toArray, argTypes := tys }, type := ty, pos := pos, after := af, guard := none } :: rest) l :=
  QS_enter (fun a o w' ha ho => run_callv ha ho hg hargs hall hf) h fun a ha => k _ (ha.put hd v)
theorem QS_yes {dst : Option Tmp} {op : Op} {ty : TypeId} {pos : String} {af : Array Edge} {j : Nat} {want b : Bool} (dj : Nat) (hj : (ops[j]?).bind (·.dst) = some dj) (hb : look l dj = some (.bool b)) (he : b = want)
    (k : QS X w ops K ({ dst := dst, op := op, type := ty, pos := pos, after := af, guard := none } :: rest) l) :
    QS X w ops K ({ dst := dst, op := op, type := ty, pos := pos, after := af, guard := some (j, want) } :: rest) l := fun a ha => by
  have h := k a ha
  simp only [wpQuiet, Region.wanted, if_true] at h
  simp only [wpQuiet, Region.wanted, yielded_of hj ha hb, he, beq_self_eq_true, if_true]
  exact h
theorem QS_no {d : Nat} {op : Op} {ty : TypeId} {pos : String} {af : Array Edge} {j : Nat} {want b : Bool} (dj : Nat) (hj : (ops[j]?).bind (·.dst) = some dj) (hb : look l dj = some (.bool b)) (he : b = !want) (hd : Nat.blt d X.N = true)
    (k : QS X w ops K rest ((d, undef) :: l)) :
    QS X w ops K ({ dst := some d, op := op, type := ty, pos := pos, after := af, guard := some (j, want) } :: rest) l := fun a ha => by
  have hne : (some b == some want) = false := by rw [he]; cases want <;> rfl
  simp only [wpQuiet, Region.wanted, yielded_of hj ha hb, hne]
  exact k _ (ha.put hd undef)
theorem QS_skip {d : Nat} {op : Op} {ty : TypeId} {pos : String} {af : Array Edge} {j : Nat} {want : Bool} (dj : Nat) (hj : (ops[j]?).bind (·.dst) = some dj) (hb : look l dj = some undef) (hd : Nat.blt d X.N = true)
    (k : QS X w ops K rest ((d, undef) :: l)) :
    QS X w ops K ({ dst := some d, op := op, type := ty, pos := pos, after := af, guard := some (j, want) } :: rest) l := fun a ha => by
  simp only [wpQuiet, Region.wanted, skip_ne hj ha hb]
  exact k _ (ha.put hd undef)
theorem QS_split {b : Bool} (dj : Nat) (_hb : look l dj = some (.bool b)) (ht : b = true → QS X w ops K rest l) (hf : b = false → QS X w ops K rest l) : QS X w ops K rest l := by
  cases b
  · exact hf rfl
  · exact ht rfl
theorem QS_and {b r : Bool} (n d dj : Nat) (_hb : look l dj = some (.bool b)) (ht : b = true → (∀ l', Sub l' ((d, .bool r) :: l) → QS X w ops K (rest.drop n) l') → QS X w ops K rest l)
    (hf : b = false → (∀ l', Sub l' ((d, .bool false) :: l) → QS X w ops K (rest.drop n) l') → QS X w ops K rest l) (k : QS X w ops K (rest.drop n) ((d, .bool (b && r)) :: l)) : QS X w ops K rest l := by
  cases b
  · exact hf rfl fun l' hs a ha => k a (ha.sub hs)
  · exact ht rfl fun l' hs a ha => k a (ha.sub hs)
theorem QS_or {b r : Bool} (n d dj : Nat) (_hb : look l dj = some (.bool b)) (hf : b = false → (∀ l', Sub l' ((d, .bool r) :: l) → QS X w ops K (rest.drop n) l') → QS X w ops K rest l)
    (ht : b = true → (∀ l', Sub l' ((d, .bool true) :: l) → QS X w ops K (rest.drop n) l') → QS X w ops K rest l) (k : QS X w ops K (rest.drop n) ((d, .bool (b || r)) :: l)) : QS X w ops K rest l := by
  cases b
  · exact hf rfl fun l' hs a ha => k a (ha.sub hs)
  · exact ht rfl fun l' hs a ha => k a (ha.sub hs)
end

/-! ### a call that only computes -/
theorem Pure.fn {P : Program} {f : FuncId} {args : Array Value} {w : World} {v : Value} (h : Pure P f args w v) : Fn P f args w (fun u _ => u = v) := Calls.mono h fun e w' ⟨he, hb⟩ => ⟨v, he, hb, rfl⟩
section
variable {X : Cx} {Q : Exit → Act → World → Prop} {l : Frm} {w w' : World} {ops : Array Oper} {rest : List Oper}
theorem SG_pure {d : Nat} {f : FuncId} {args : List Operand} {tys : Array TypeId} {ty : TypeId} {pos : String} {af : Array Edge} {vs : List Value} {v : Value} (hargs : evs l args = some vs)
    (hf : ∀ args w, (callFunc f args).run X.P w = .ok (.enter f args) w) (hd : Nat.blt d X.N = true) (h : Pure X.P f vs.toArray w v) (k : ∀ w', Below w.heap.size w w' → SG X ops Q rest ((d, v) :: l) w') :
    SG X ops Q ({ dst := some d, op := .call { callee := .value (.func f), args := args.toArray, argTypes := tys }, type := ty, pos := pos, after := af, guard := none } :: rest) l w :=
  SG_call hargs hf hd h.fn fun _ w' hb e => by subst e; exact k w' hb
theorem SG_purev {d : Nat} {f : FuncId} {g : Operand} {cap all : List Value} {args : List Operand} {tys : Array TypeId} {ty : TypeId} {pos : String} {af : Array Edge} {vs : List Value} {v : Value}
    (hg : ev l g = some (.func (.func f) #[] cap.toArray)) (hargs : evs l args = some vs) (hall : vs ++ cap = all)
    (hf : ∀ args w, (callFunc f args).run X.P w = .ok (.enter f args) w) (hd : Nat.blt d X.N = true) (h : Pure X.P f all.toArray w v) (k : ∀ w', Below w.heap.size w w' → SG X ops Q rest ((d, v) :: l) w') :
    SG X ops Q ({ dst := some d, op := .call { callee := .value g, args := args.toArray, argTypes := tys }, type := ty, pos := pos, after := af, guard := none } :: rest) l w :=
  SG_callv hg hargs hall hf hd h.fn fun _ w' hb e => by subst e; exact k w' hb

/-! ### new memory -/
theorem SG_box {d : Nat} {T : TypeId} {x : Operand} {ty : TypeId} {pos : String} {af : Array Edge} {v : Value} {cs : List Value} (hx : ev l x = some v) (hcs : v.cells = cs.toArray) (hd : Nat.blt d X.N = true)
    (k : ∀ w' b, b = w.heap.size → Below w.heap.size w w' → w'.heap.size = b + 1 → Blk w' b cs T → SG X ops Q rest ((d, .pointer (some ⟨b, 0, none⟩)) :: l) w') :
    SG X ops Q ({ dst := some d, op := .box T x, type := ty, pos := pos, after := af, guard := none } :: rest) l w := by
  refine SG_val (v := .pointer (some ⟨w.heap.size, 0, none⟩)) (w' := w.alloc (.cells cs.toArray T)) ?_ hd (k _ _ rfl (alloc_below _ _) (by simp) (alloc_blk _ _ _))
  intro X a o hP ha ho _
  unfold execOp; rw [ho]; simp only [ha.ev hx]
  simp [Instr.box, newVar, newRow, newObj, Sem.run_bind, Sem.run, Result.andThen, hcs]
theorem SG_alloc {d : Nat} {T : TypeId} {ty : TypeId} {pos : String} {af : Array Edge} {v : Value} {cs : List Value} (hz : ∀ w, (zeroValue T).run X.P w = .ok v w) (hcs : v.cells = cs.toArray) (hd : Nat.blt d X.N = true)
    (k : ∀ w' b, b = w.heap.size → Below w.heap.size w w' → w'.heap.size = b + 1 → Blk w' b cs T → SG X ops Q rest ((d, .pointer (some ⟨b, 0, none⟩)) :: l) w') :
    SG X ops Q ({ dst := some d, op := .alloc T, type := ty, pos := pos, after := af, guard := none } :: rest) l w := by
  refine SG_val (v := .pointer (some ⟨w.heap.size, 0, none⟩)) (w' := w.alloc (.cells cs.toArray T)) ?_ hd (k _ _ rfl (alloc_below _ _) (by simp) (alloc_blk _ _ _))
  intro X' a o hP ha ho _
  unfold execOp; rw [ho]
  simp [Instr.alloc, hz, newVar, newRow, newObj, Sem.run_bind, Sem.run, Result.andThen, hcs]

/-! ### stores -/
theorem setCell_chg (w : World) (p : Addr) (v : Value) : Chg (· = p.block) w (w.setCell p v) :=
  ⟨rfl, rfl, rfl, by simp [World.setCell], fun k _ hk => Below.heap_setCell _ _ _ _ hk⟩
def one1 : Value → Bool
  | .agg _ | .tuple _ => false
  | _ => true
def setAll : List Value → Nat → List Value → List Value
  | cs, _, [] => cs
  | cs, o, v :: vs => setAll (cs.set o v) (o + 1) vs
theorem Blk.setCell {w : World} {b o : Nat} {cs : List Value} {T : TypeId} {v : Value} (h : Blk w b cs T) : Blk (w.setCell ⟨b, o, none⟩ v) b (cs.set o v) T := by
  unfold Blk at *
  simp only [World.setCell, Array.getElem?_modify, if_true, h, Option.map_some]
  simp
theorem Blk.frozen {w : World} {b o : Nat} {cs : List Value} {T : TypeId} (h : Blk w b cs T) : w.frozen? ⟨b, o, none⟩ = false := by
  unfold World.frozen?; rw [h]; simp
theorem run_storeCells {P : Program} {b : Nat} {T : TypeId} {o : Nat} : ∀ (vs : List Value) (i : Nat) (cs : List Value) (w : World), Blk w b cs T → (∀ v ∈ vs, one1 v = true) → o + i + vs.length ≤ cs.length →
    ∃ w', (storeCells ⟨b, o, none⟩ vs i).run P w = .ok () w' ∧ Chg (· = b) w w' ∧ Blk w' b (setAll cs (o + i) vs) T
  | [], i, cs, w, hB, _, _ => ⟨w, by simp [storeCells], Chg.refl _ _, hB⟩
  | v :: vs, i, cs, w, hB, hone, hle => by
    simp only [List.length_cons] at hle
    have hv := hone v (by simp)
    have hc : w.cell? ⟨b, o + i, none⟩ = some cs[o + i] := by rw [hB.cell]; exact List.getElem?_eq_getElem (by omega)
    obtain ⟨w', h1, h2, h3⟩ := run_storeCells (P := P) (o := o) vs (i + 1) (cs.set (o + i) v) (w.setCell ⟨b, o + i, none⟩ v) hB.setCell (fun u hu => hone u (by simp [hu])) (by simp; omega)
    refine ⟨w', ?_, (setCell_chg w ⟨b, o + i, none⟩ v).trans h2, h3⟩
    have hst : (Go.store ⟨b, o + i, none⟩ v).run P w = .ok () (w.setCell ⟨b, o + i, none⟩ v) := by
      cases v <;> simp [one1] at hv <;> simp [Go.store, Sem.run, hc, hB.frozen]
    unfold storeCells
    simp only [Sem.run_bind, addr_add, hst, Result.andThen, h1]
theorem SG_store {T T' n : Nat} {x y : Operand} {ty : TypeId} {pos : String} {af : Array Edge} {b o : Nat} {cs vs : List Value} {v : Value} (hB : Blk w b cs T') (hx : ev l x = some (.pointer (some ⟨b, o, none⟩))) (hy : ev l y = some v)
    (hvs : v.cells = vs.toArray) (hone : vs.all one1 = true) (hn : ∀ w, (sizeOf T).run X.P w = .ok n w) (hl : vs.length = n) (hle : Nat.ble (o + vs.length) cs.length = true)
    (k : ∀ w', Chg (· = b) w w' → Blk w' b (setAll cs o vs) T' → SG X ops Q rest l w') :
    SG X ops Q ({ dst := none, op := .store T x y, type := ty, pos := pos, after := af, guard := none } :: rest) l w := by
  obtain ⟨w', h1, h2, h3⟩ := run_storeCells (P := X.P) (o := o) vs 0 cs w hB (fun u hu => List.all_eq_true.1 hone u hu) (by have := Nat.le_of_ble_eq_true hle; omega)
  refine SG_st (w' := w') ?_ (k w' h2 (by simpa using h3))
  intro X' a op hP ha ho _
  unfold execOp; rw [ho]
  simp [ha.ev hx, ha.ev hy, Instr.storeAt, Instr.sureAddr, storeVar, hn, hvs, hl, Sem.run_bind, Result.andThen, h1]
end

/-! ### a whole variable is stored -/
theorem setAll_eq : ∀ (vs cs : List Value) (o : Nat), o + vs.length ≤ cs.length → setAll cs o vs = cs.take o ++ vs ++ cs.drop (o + vs.length)
  | [], cs, o, _ => by simp [setAll]
  | v :: vs, cs, o, h => by
    simp only [List.length_cons] at h
    simp only [setAll]
    rw [setAll_eq vs _ _ (by simp; omega)]
    have h1 : (cs.set o v).take (o + 1) = cs.take o ++ [v] := by
      rw [List.take_succ_eq_append_getElem (by simp; omega)]
      simp [List.take_set_of_le]
    have h2 : (cs.set o v).drop (o + 1 + vs.length) = cs.drop (o + 1 + vs.length) := by rw [List.drop_set_of_lt (by omega)]
    rw [h1, h2, List.length_cons, show o + (vs.length + 1) = o + 1 + vs.length by omega]
    simp
section
variable {X : Cx} {Q : Exit → Act → World → Prop} {l : Frm} {w w' : World} {ops : Array Oper} {rest : List Oper}
theorem SG_storeW {T T' n : Nat} {x y : Operand} {ty : TypeId} {pos : String} {af : Array Edge} {b : Nat} {cs vs : List Value} {v : Value} (hB : Blk w b cs T') (hx : ev l x = some (.pointer (some ⟨b, 0, none⟩))) (hy : ev l y = some v)
    (hvs : v.cells = vs.toArray) (hone : vs.all one1 = true) (hn : ∀ w, (sizeOf T).run X.P w = .ok n w) (hl : vs.length = n) (hle : cs.length = n)
    (k : ∀ w', Chg (· = b) w w' → Blk w' b vs T' → SG X ops Q rest l w') :
    SG X ops Q ({ dst := none, op := .store T x y, type := ty, pos := pos, after := af, guard := none } :: rest) l w :=
  SG_store hB hx hy hvs hone hn hl (by rw [Nat.ble_eq]; omega) fun w' hch hB' => k w' hch (by
    rw [setAll_eq _ _ _ (by omega)] at hB'
    rw [List.drop_of_length_le (by omega)] at hB'
    simpa using hB')
end

/-! ### small words for the scripts -/
theorem wrap_i64 {n : Int} (h : -9223372036854775808 ≤ n) (h' : n ≤ 9223372036854775807) : IntKind.i64.wrap n = n := IntWalk.i64_in n ⟨h, h'⟩
theorem wrap_u8 {n : Int} (h : 0 ≤ n) (h' : n ≤ 255) : IntKind.u8.wrap n = n := by
  simp [IntKind.wrap, IntKind.bits, IntKind.signed]; omega
theorem btr {a b c : World} (h : Below a.heap.size a b) (k : Below b.heap.size b c) : Below a.heap.size a c := h.trans (k.mono h.size)
theorem bchg {a b c : World} {x : Nat} (h : Below a.heap.size a b) (k : Chg (· = x) b c) (hx : a.heap.size ≤ x) : Below a.heap.size a c :=
  h.trans (k.below h.size fun i hi e => by subst e; omega)
theorem Cells.cell {w : World} {b o : Nat} {vs : List Value} {v : Value} (h : Cells w b o vs) (i : Nat) (hv : vs[i]? = some v) : w.cell? ⟨b, o + i, none⟩ = some v := by
  rw [h i (List.getElem?_eq_some_iff.1 hv).1, hv]
theorem Cells.drop {w : World} {b o : Nat} {vs : List Value} (h : Cells w b o vs) (n : Nat) : Cells w b (o + n) (vs.drop n) := fun i hi => by
  simp only [List.length_drop] at hi
  rw [Nat.add_assoc, h (n + i) (by omega), List.getElem?_drop]
section
variable {α : Type} {X : Cx} {Q : Exit → Act → World → Prop} {l : Frm} {w w' : World} {ops : Array Oper} {rest : List Oper} {v : Value} {k : Nat} {enc : α → List Value} {xs : List α} {K : Act → Prop}
theorem SG_index {T E : TypeId} {x i : Operand} {KI : IntKind} {n : Int} {d : Nat} {ty : TypeId} {pos : String} {af : Array Edge} (h : SL w v k enc xs) (hT : ∀ w, (underlying T).run X.P w = .ok (.slice E) w) (hE : ∀ w, (sizeOf E).run X.P w = .ok k w)
    (hx : ev l x = some v) (hi : ev l i = some (.int KI n)) (h0 : 0 ≤ n) (h1 : n < xs.length) (hd : Nat.blt d X.N = true)
    (kk : ∀ y, xs[n.toNat]? = some y → Cells w (sb v) (so v + n.toNat * k) (enc y) → SG X ops Q rest ((d, .pointer (some ⟨sb v, so v + n.toNat * k, none⟩)) :: l) w) :
    SG X ops Q ({ dst := some d, op := .indexAddr T x i, type := ty, pos := pos, after := af, guard := none } :: rest) l w := by
  have hlt : n.toNat < xs.length := by omega
  have hy := List.getElem?_eq_getElem hlt
  exact SG_q (Rq_index h hT hE hx hi h0 h1) hd (kk _ hy (h.cells _ _ hy))
theorem QS_index {T E : TypeId} {x i : Operand} {KI : IntKind} {n : Int} {d : Nat} {ty : TypeId} {pos : String} {af : Array Edge} (h : SL w v k enc xs) (hT : ∀ w, (underlying T).run X.P w = .ok (.slice E) w) (hE : ∀ w, (sizeOf E).run X.P w = .ok k w)
    (hx : ev l x = some v) (hi : ev l i = some (.int KI n)) (h0 : 0 ≤ n) (h1 : n < xs.length) (hd : Nat.blt d X.N = true)
    (kk : ∀ y, xs[n.toNat]? = some y → Cells w (sb v) (so v + n.toNat * k) (enc y) → QS X w ops K rest ((d, .pointer (some ⟨sb v, so v + n.toNat * k, none⟩)) :: l)) :
    QS X w ops K ({ dst := some d, op := .indexAddr T x i, type := ty, pos := pos, after := af, guard := none } :: rest) l := by
  have hlt : n.toNat < xs.length := by omega
  have hy := List.getElem?_eq_getElem hlt
  exact QS_q (Rq_index h hT hE hx hi h0 h1) hd (kk _ hy (h.cells _ _ hy))
variable {P : Program} {ty : TypeId}
theorem Rq_convert {S T : TypeId} {k k' : IntKind} {x : Operand} {n : Int} (hS : ∀ w, (underlying S).run P w = .ok (.int k) w) (hT : ∀ w, (underlying T).run P w = .ok (.int k') w) (hx : ev l x = some (.int k n)) (hb : k'.wrap n = n) :
    Rq P (.convert S T x) ty l w (.int k' n) := fun w' _ X a o _ ha ho _ => by
  unfold execOp; rw [ho]; simp [ha.ev hx, convert, hS, hT, Conv.intToInt, Sem.run_bind, Result.andThen, hb]
theorem Rq_field {S f off : Nat} {x : Operand} {cs : List Value} {v : Value} (hf : ∀ (cs : List Value) (v : Value) (w : World), cs[off]? = some v → (Instr.field S (.agg cs.toArray) f).run P w = .ok v w)
    (hx : ev l x = some (.agg cs.toArray)) (hv : cs[off]? = some v) : Rq P (.field S x f) ty l w v := fun w' _ X a o _ ha ho _ => by
  unfold execOp; rw [ho]; simp [ha.ev hx, hf cs v w' hv, Sem.run_bind, Result.andThen]
theorem cells_one {v : Value} (h : one1 v = true) : v.cells = #[v] := by cases v <;> simp [one1] at h <;> rfl
theorem cells_agg (cs : Array Value) : (Value.agg cs).cells = cs := rfl
theorem Rq_build0 {T : Nat} {cs : List Value} (hb : ∀ w, (Instr.build T #[]).run P w = .ok (.agg cs.toArray) w) : Rq P (.build T #[]) ty l w (.agg cs.toArray) := fun w' _ X a o _ ha hop _ => by
  unfold execOp; rw [hop]; simp [hb w', Sem.run_bind, Result.andThen]
theorem Rq_build1 {T i : Nat} {x : Operand} {v : Value} {F : Value → List Value} (hb : ∀ v w, one1 v = true → (Instr.build T #[(i, v)]).run P w = .ok (.agg (F v).toArray) w) (hx : ev l x = some v) (ho : one1 v = true) :
    Rq P (.build T #[(i, x)]) ty l w (.agg (F v).toArray) := fun w' _ X a o _ ha hop _ => by
  unfold execOp; rw [hop]; simp [ha.ev hx, hb v w' ho, Sem.run_bind, Result.andThen]
theorem Rq_build2 {T i j : Nat} {x y : Operand} {v u : Value} {F : Value → Value → List Value} (hb : ∀ v u w, one1 v = true → one1 u = true → (Instr.build T #[(i, v), (j, u)]).run P w = .ok (.agg (F v u).toArray) w)
    (hx : ev l x = some v) (hy : ev l y = some u) (ho : one1 v = true) (ho' : one1 u = true) :
    Rq P (.build T #[(i, x), (j, y)]) ty l w (.agg (F v u).toArray) := fun w' _ X a o _ ha hop _ => by
  unfold execOp; rw [hop]; simp [ha.ev hx, ha.ev hy, hb v u w' ho ho', Sem.run_bind, Result.andThen]
theorem Rq_build3 {T i j m : Nat} {x y z : Operand} {v u t : Value} {F : Value → Value → Value → List Value} (hb : ∀ v u t w, one1 v = true → one1 u = true → one1 t = true → (Instr.build T #[(i, v), (j, u), (m, t)]).run P w = .ok (.agg (F v u t).toArray) w)
    (hx : ev l x = some v) (hy : ev l y = some u) (hz : ev l z = some t) (ho : one1 v = true) (ho' : one1 u = true) (ho'' : one1 t = true) :
    Rq P (.build T #[(i, x), (j, y), (m, z)]) ty l w (.agg (F v u t).toArray) := fun w' _ X a o _ ha hop _ => by
  unfold execOp; rw [hop]; simp [ha.ev hx, ha.ev hy, ha.ev hz, hb v u t w' ho ho' ho'', Sem.run_bind, Result.andThen]
end
section
variable {P : Program} {N : Nat} {l : Frm} {w : World} {fn : Func} {R : Ending → World → Prop} {e : Exit}
/-- how one result is read at a function's end -/
inductive RV (P : Program) (l : Frm) (w : World) : ResultVar → Value → Prop
  | tmp {t : Nat} {v : Value} (h : look l t = some v) : RV P l w (.tmp t) v
  | load {t T : Nat} {p : Addr} {v : Value} (h : look l t = some (.pointer (some p))) (hl : (loadVar T p).run P w = .ok v w) : RV P l w (.cell t T) v
theorem RV.cell {t T T' b o : Nat} {cs : List Value} {v : Value} (h : look l t = some (.pointer (some ⟨b, o, none⟩))) (hB : Blk w b cs T') (hT : ∀ w, (isAgg T).run P w = .ok false w) (hv : cs[o]? = some v) : RV P l w (.cell t T) v :=
  .load h (run_loadVar1 hT (hB.cell.trans hv))
theorem RV.cellA {t T T' b o n : Nat} {cs vs : List Value} (h : look l t = some (.pointer (some ⟨b, o, none⟩))) (hB : Blk w b cs T') (hT : ∀ w, (isAgg T).run P w = .ok true w) (hn : ∀ w, (sizeOf T).run P w = .ok n w)
    (hv : (cs.drop o).take n = vs) (hl : vs.length = n) : RV P l w (.cell t T) (.agg vs.toArray) :=
  .load h (run_loadVarA hT hn (hB.cells (by rw [hl]; exact hv)) hl)
theorem RV.cellW {t T T' b n : Nat} {cs : List Value} (h : look l t = some (.pointer (some ⟨b, 0, none⟩))) (hB : Blk w b cs T') (hT : ∀ w, (isAgg T).run P w = .ok true w) (hn : ∀ w, (sizeOf T).run P w = .ok n w)
    (hl : cs.length = n) : RV P l w (.cell t T) (.agg cs.toArray) := .load h (run_loadVarA hT hn (hB.cells (by simp)) hl)
/-- one result's reading, as the machine makes it -/
def rdRes (a : Act) : ResultVar → Sem Value
  | .tmp t => pure (a.tmps.getD t undef)
  | .cell c t => do loadVar t (← asAddr (a.tmps.getD c undef))
theorem RV.run {r : ResultVar} {v : Value} {a : Act} {X : Cx} (h : RV P l w r v) (ha : Ok X l a) : (rdRes a r).run P w = .ok v w := by
  cases h with
  | tmp h => simp [rdRes, Array.getD_eq_getD_getElem?, ha.2.2 _ _ h]
  | load h hl => simp [rdRes, Array.getD_eq_getD_getElem?, ha.2.2 _ _ h, asAddr, Sem.run_bind, Result.andThen, hl]
theorem results_eq (fn : Func) (a : Act) : results fn a.tmps = (do let vs ← fn.results.mapM (rdRes a); pure (if h : vs.size = 1 then vs[0] else .tuple vs) : Sem Value) := by
  unfold results
  congr 1
theorem D_bodyR1 {r : ResultVar} {v : Value} (he : Exit.ends e = true) (hres : fn.results = #[r]) (h1 : RV P l w r v) (hR : R (.returned v) w) : D ⟨none, P, N, []⟩ (bodyPost P fn R) e l w :=
  D_body_of he (fun a ha => by
    rw [results_eq, hres]
    simp [Sem.run_bind, h1.run ha, Result.andThen]) hR
theorem D_bodyR2 {r r' : ResultVar} {v v' : Value} (he : Exit.ends e = true) (hres : fn.results = #[r, r']) (h1 : RV P l w r v) (h2 : RV P l w r' v') (hR : R (.returned (.tuple #[v, v'])) w) : D ⟨none, P, N, []⟩ (bodyPost P fn R) e l w :=
  D_body_of he (fun a ha => by
    rw [results_eq, hres]
    simp [Sem.run_bind, h1.run ha, h2.run ha, Result.andThen]) hR
theorem D_bodyR3 {r r' r'' : ResultVar} {v v' v'' : Value} (he : Exit.ends e = true) (hres : fn.results = #[r, r', r'']) (h1 : RV P l w r v) (h2 : RV P l w r' v') (h3 : RV P l w r'' v'') (hR : R (.returned (.tuple #[v, v', v''])) w) : D ⟨none, P, N, []⟩ (bodyPost P fn R) e l w :=
  D_body_of he (fun a ha => by
    rw [results_eq, hres]
    simp [Sem.run_bind, h1.run ha, h2.run ha, h3.run ha, Result.andThen]) hR
end

/-! ### regions that draw their order: operations that make new memory come in any order; what changes memory comes last, in one order -/
structure HOp where
  fr : Bool
  deps : List Nat
  R : Value → World → Nat → Nat → Prop
def det (deps : List Nat) (v : Value) : HOp := ⟨false, deps, fun u _ _ _ => u = v⟩
def frs (deps : List Nat) (R : Value → World → Nat → Nat → Prop) : HOp := ⟨true, deps, R⟩
def HOp.stab (h : HOp) : Prop := ∀ u w w' lo hi, Below w.heap.size w w' → hi ≤ w.heap.size → h.R u w lo hi → h.R u w' lo hi
theorem det_stab (deps : List Nat) (v : Value) : (det deps v).stab := fun _ _ _ _ _ _ _ h => h
def AllStab : List HOp → Prop
  | [] => True
  | h :: hs => h.stab ∧ AllStab hs
/-- how one operation goes, in a frame that has these slots -/
def ExH (P : Program) (o : Oper) (l : Frm) (w : World) (Post : Value → World → Prop) : Prop :=
  ∀ (X : Cx) (a : Act), X.P = P → Ok X l a → (∃ v w', (execOp a.eval o).run P w = .ok (.value v) w' ∧ Below w.heap.size w w' ∧ Post v w') ∨ (∃ f vs, (execOp a.eval o).run P w = .ok (.enter f vs) w ∧ Fn P f vs w Post)
def Obl (P : Program) (os : List Oper) (hs : List HOp) (w : World) (o : Oper) (R : Value → World → Nat → Nat → Prop) : List Nat → Frm → Prop
  | [], l => ExH P o l w (fun v w' => R v w' w.heap.size w'.heap.size)
  | e :: es, l => match hs[e]?, (os[e]?).bind (·.dst) with
    | some h, some d => ∀ v lo hi, hi ≤ w.heap.size → h.R v w lo hi → Obl P os hs w o R es ((d, v) :: l)
    | _, _ => False
def Obls (P : Program) (os : List Oper) (hs : List HOp) (l0 : Frm) (w0 : World) : List Oper → List HOp → Prop
  | o :: os', h :: hs' => (∀ w, Below w0.heap.size w0 w → Obl P os hs w o h.R h.deps l0) ∧ Obls P os hs l0 w0 os' hs'
  | _, _ => True
def Fin (B : Nat) (w : World) (K : Frm → Prop) : List Oper → List HOp → List (Nat × Nat) → Frm → Prop
  | o :: os, h :: hs, ivs, l => match o.dst with
    | some d => ∀ v lo hi, h.R v w lo hi → B ≤ lo → lo ≤ hi → hi ≤ w.heap.size → (∀ iv ∈ ivs, hi ≤ iv.1 ∨ iv.2 ≤ lo) → Fin B w K os hs (if h.fr then (lo, hi) :: ivs else ivs) ((d, v) :: l)
    | none => False
  | _, _, _, l => K l
def waits (o : Oper) (j : Nat) : Bool := o.after.any fun e => Region.binds .any e && Nat.beq e.on j
def backOk (o : Oper) (i : Nat) : Bool := o.after.all fun e => !Region.binds .any e || Nat.blt e.on i
def noSel (o : Oper) : Bool := match o.guard with | none => true | _ => false
/-- heads: guards none, a slot of its own that the frame does not know, what it reads is waited for; tails wait for all before them -/
def headsChk (l0 : Frm) (n : Nat) : List Oper → List (List Nat) → Nat → List Nat → Bool
  | o :: os, ds :: dss, i, seen => noSel o && backOk o i && (match o.dst with
      | some d => !(seen.contains d) && (look l0 d).isNone && headsChk l0 n os dss (i + 1) (d :: seen)
      | none => false) && ds.all (fun e => Nat.blt e n && waits o e)
  | [], [], _, _ => true
  | _, _, _, _ => false
def tailsChk : List Oper → Nat → Bool
  | o :: os, i => noSel o && backOk o i && (List.range i).all (fun j => waits o j) && tailsChk os (i + 1)
  | [], _ => true
section
variable {X : Cx} {Q : Exit → Act → World → Prop} {l : Frm} {w w' : World}
theorem waits_spec {o : Oper} {j : Nat} (h : waits o j = true) : ∃ e ∈ o.after, Region.binds .any e = true ∧ e.on = j := by
  unfold waits at h
  rw [← Array.any_toList, List.any_eq_true] at h
  obtain ⟨e, he, hb⟩ := h
  simp only [Bool.and_eq_true] at hb
  exact ⟨e, Array.mem_toList_iff.1 he, hb.1, Nat.eq_of_beq_eq_true hb.2⟩
theorem backOk_spec {o : Oper} {i : Nat} (h : backOk o i = true) : ∀ e ∈ o.after, Region.binds .any e = true → e.on < i := fun e he hb => by
  unfold backOk at h
  rw [Array.all_eq_true_iff_forall_mem] at h
  have := h e he
  simpa [hb, Nat.blt_eq] using this
theorem cnt_set : ∀ (L : List Bool) (i : Nat), L[i]? = some false → (L.set i true).count false + 1 = L.count false
  | [], i, h => by simp at h
  | b :: L, 0, h => by simp at h; subst h; simp
  | b :: L, i + 1, h => by
    have := cnt_set L i (by simpa using h)
    simp only [List.set_cons_succ, List.count_cons]
    omega
theorem listed_get {listed : Array Bool} {i : Nat} (h : listed.getD i true = false) : listed.toList[i]? = some false := by
  rw [Array.getD_eq_getD_getElem?] at h
  rw [Array.getElem?_toList]
  cases hx : listed[i]? with
  | none => rw [hx] at h; simp at h
  | some b => rw [hx] at h; simp at h; rw [h]
/-- whom an operation waits for, all steps together, as bits -/
def maskOf (acc : List Nat) (o : Oper) : Nat := o.after.toList.foldl (fun s e => if Region.binds .any e then s ||| (1 <<< e.on) ||| acc.getD e.on 0 else s) 0
def masks : List Oper → List Nat → List Nat
  | [], acc => acc
  | o :: os, acc => masks os (acc ++ [maskOf acc o])
def Closed (os : List Oper) (listed : Array Bool) : Prop := ∀ i o, listed.getD i false = true → os[i]? = some o → ∀ e ∈ o.after, Region.binds .any e = true → listed.getD e.on false = true
theorem maskOf_spec {acc : List Nat} {o : Oper} {j : Nat} (h : (maskOf acc o).testBit j = true) : ∃ e ∈ o.after, Region.binds .any e = true ∧ (e.on = j ∨ (acc.getD e.on 0).testBit j = true) := by
  unfold maskOf at h
  have key : ∀ (l : List Edge) (s : Nat), (l.foldl (fun s e => if Region.binds .any e then s ||| (1 <<< e.on) ||| acc.getD e.on 0 else s) s).testBit j = true →
      s.testBit j = true ∨ ∃ e ∈ l, Region.binds .any e = true ∧ (e.on = j ∨ (acc.getD e.on 0).testBit j = true) := by
    intro l
    induction l with
    | nil => intro s h; exact .inl h
    | cons e l ih =>
      intro s h
      simp only [List.foldl_cons] at h
      rcases ih _ h with h' | ⟨e', he', hb⟩
      · by_cases hb : Region.binds .any e = true
        · simp only [hb, if_true, Nat.testBit_or, Bool.or_eq_true] at h'
          rcases h' with (h' | h') | h'
          · exact .inl h'
          · refine .inr ⟨e, by simp, hb, .inl ?_⟩
            rw [Nat.one_shiftLeft, Nat.testBit_two_pow] at h'
            simpa using h'
          · exact .inr ⟨e, by simp, hb, .inr h'⟩
        · simp only [hb, Bool.false_eq_true, if_false] at h'
          exact .inl h'
      · exact .inr ⟨e', by simp [he'], hb⟩
  rcases key _ _ h with h | ⟨e, he, hb⟩
  · simp at h
  · exact ⟨e, Array.mem_toList_iff.1 he, hb⟩
theorem masks_spec {os : List Oper} {listed : Array Bool} (hc : Closed os listed) : ∀ (rest : List Oper) (acc : List Nat), os.drop acc.length = rest →
    (∀ k o, k < acc.length → os[k]? = some o → (∀ e ∈ o.after, Region.binds .any e = true → listed.getD e.on false = true) → ∀ j, (acc.getD k 0).testBit j = true → listed.getD j false = true) →
    ∀ k o, os[k]? = some o → (∀ e ∈ o.after, Region.binds .any e = true → listed.getD e.on false = true) → ∀ j, ((masks rest acc).getD k 0).testBit j = true → listed.getD j false = true
  | [], acc, hr, hacc => fun k o ho hd j hj => by
    simp only [masks] at hj
    by_cases hk : k < acc.length
    · exact hacc k o hk ho hd j hj
    · simp [List.getD_eq_getElem?_getD, List.getElem?_eq_none (Nat.le_of_not_lt hk)] at hj
  | x :: rest, acc, hr, hacc => fun k o ho hd j hj => by
    simp only [masks] at hj
    refine masks_spec hc rest (acc ++ [maskOf acc x]) (by rw [List.length_append, ← List.drop_drop, hr]; rfl) (fun k o hk ho hd j hj => ?_) k o ho hd j hj
    simp only [List.length_append, List.length_cons, List.length_nil] at hk
    by_cases hk' : k < acc.length
    · rw [List.getD_eq_getElem?_getD, List.getElem?_append_left hk', ← List.getD_eq_getElem?_getD] at hj
      exact hacc k o hk' ho hd j hj
    · have hkeq : k = acc.length := by omega
      subst hkeq
      have hx : os[acc.length]? = some x := by have := congrArg (·[0]?) hr; simpa using this
      rw [hx] at ho; cases ho
      simp [List.getD_eq_getElem?_getD] at hj
      obtain ⟨e, he, hb, hj'⟩ := maskOf_spec hj
      have hl := hd e he hb
      rcases hj' with rfl | hj'
      · exact hl
      · by_cases hek : e.on < acc.length
        · obtain ⟨oe, hoe⟩ : ∃ oe, os[e.on]? = some oe := by
            have h1 : os.length = acc.length + (x :: rest).length := by
              have := congrArg List.length hr; simp only [List.length_drop] at this
              have : acc.length < os.length := (List.getElem?_eq_some_iff.1 hx).1
              simp only [List.length_cons] at *; omega
            exact ⟨_, List.getElem?_eq_getElem (by omega)⟩
          exact hacc e.on oe hek hoe (fun e' he' hb' => hc e.on oe hl hoe e' he' hb') j hj'
        · rw [List.getD_eq_getElem?_getD, List.getElem?_eq_none (Nat.le_of_not_lt hek)] at hj'
          simp at hj'
def waitsT (os : List Oper) (k j : Nat) : Bool := ((masks os []).getD k 0).testBit j
theorem waitsT_spec {os : List Oper} {listed : Array Bool} {k j : Nat} {o : Oper} (hc : Closed os listed) (ho : os[k]? = some o) (hd : ∀ e ∈ o.after, Region.binds .any e = true → listed.getD e.on false = true) (h : waitsT os k j = true) : listed.getD j false = true :=
  masks_spec hc os [] rfl (fun k o hk => by simp at hk) k o ho hd j h
theorem Closed.set {os : List Oper} {listed : Array Bool} {i : Nat} {o : Oper} (hc : Closed os listed) (ho : os[i]? = some o) (hd : ∀ e ∈ o.after, Region.binds .any e = true → listed.getD e.on false = true) : Closed os (listed.setIfInBounds i true) := fun k x hk hx e he hb => by
  by_cases hki : i = k
  · subst hki; rw [ho] at hx; cases hx; exact getD_set_true (hd e he hb)
  · rw [getD_set_ne false hki] at hk; exact getD_set_true (hc k x hk hx e he hb)
/-- the tail, one after another -/
theorem tail_run {n : Nat} {os : List Oper} (hchk : ∀ k o, n ≤ k → os[k]? = some o → noSel o = true ∧ backOk o k = true ∧ ∀ j, j < k → waitsT os k j = true) :
    ∀ (m k : Nat) (listed : Array Bool) (a : Act) (w : World), Closed os listed → os.length - k = m → n ≤ k → k ≤ os.length → listed.size = os.length → (∀ i, i < k → listed.getD i false = true) → (∀ i, k ≤ i → i < os.length → listed.getD i true = false) →
    segL X os.toArray Q (os.drop k) a w → wpAnyIn (Fw X.r) 0 X.P .any os.toArray Q m listed a w
  | 0, k, listed, a, w, _, hm, hn, hk, hsz, hlo, hhi, h => by
    have hk' : k = os.length := by omega
    subst hk'
    refine ⟨?_, by simpa [segL] using h⟩
    rw [List.eq_nil_iff_forall_not_mem]
    intro i hi
    obtain ⟨h0, o, ho, _⟩ := mem_ready.1 hi
    have hlt : i < os.length := by simpa using (Array.getElem?_eq_some_iff.1 ho).1
    have h1 := hlo i hlt
    simp only [Array.getD_eq_getD_getElem?] at h0 h1
    cases hx : listed[i]? with
    | none => rw [hx] at h1; simp at h1
    | some b => rw [hx] at h0 h1; simp at h0 h1; rw [h0] at h1; cases h1
  | m + 1, k, listed, a, w, hcl, hm, hn, hk, hsz, hlo, hhi, h => by
    have hkl : k < os.length := by omega
    have ho : os[k]? = some os[k] := List.getElem?_eq_getElem hkl
    obtain ⟨c1, c2, c3⟩ := hchk k _ hn ho
    have hready : k ∈ Region.ready .any os.toArray listed := mem_ready.2 ⟨hhi k (Nat.le_refl _) hkl, os[k], by simpa using ho, fun e he hb => hlo _ (backOk_spec c2 e he hb)⟩
    refine ⟨fun h0 => by rw [h0] at hready; simp at hready, fun i hi => ?_⟩
    have hik : i = k := by
      obtain ⟨h0, o, ho', hall⟩ := mem_ready.1 hi
      have hlt : i < os.length := by simpa using (Array.getElem?_eq_some_iff.1 ho').1
      rcases Nat.lt_trichotomy i k with hlt' | heq | hgt
      · have h1 := hlo i hlt'
        simp only [Array.getD_eq_getD_getElem?] at h0 h1
        cases hx : listed[i]? with
        | none => rw [hx] at h1; simp at h1
        | some b => rw [hx] at h0 h1; simp at h0 h1; rw [h0] at h1; cases h1
      · exact heq
      · obtain ⟨_, _, c3'⟩ := hchk i o (by omega) (by simpa using ho')
        have h1 := waitsT_spec hcl (by simpa using ho') hall (c3' k hgt)
        have h2 := hhi k (Nat.le_refl _) hkl
        simp only [Array.getD_eq_getD_getElem?] at h1 h2
        cases hx : listed[k]? with
        | none => rw [hx] at h1; simp at h1
        | some b => rw [hx] at h1 h2; simp at h1 h2; rw [h1] at h2; cases h2
    subst hik
    rw [List.drop_eq_getElem_cons hkl] at h
    simp only [segL] at h
    have hg : os[i].guard = none := by unfold noSel at c1; split at c1 <;> simp_all
    have hwt : ∀ y, Region.wanted os[i] y = true := fun y => by unfold Region.wanted; rw [hg]
    simp only [hwt, if_true] at h
    unfold wpOpIn
    have ho2 : os.toArray[i]? = some os[i] := by simpa using ho
    simp only [ho2, hwt, if_true]
    refine Oper.wpIn_mono (fun a' w' h' => tail_run hchk m (i + 1) _ a' w' (hcl.set ho (fun e he hb => hlo _ (backOk_spec c2 e he hb))) (by omega) (by omega) (by omega) (by simp [hsz]) ?_ ?_ h') h
    · intro j hj
      by_cases e : i = j
      · subst e; simp [Array.getD_eq_getD_getElem?, Array.getElem?_setIfInBounds, hsz, hkl]
      · rw [getD_set_ne false e]; exact hlo j (by omega)
    · intro j hj hjl
      rw [getD_set_ne true (by omega)]; exact hhi j (by omega) hjl

/-- what is known when some heads have run -/
structure HSt (X : Cx) (os : List Oper) (hs : List HOp) (n : Nat) (l0 : Frm) (w0 : World) (listed : Array Bool) (a : Act) (w : World) (val : Nat → Value) (lo hi : Nat → Nat) : Prop where
  ok : Ok X l0 a
  below : Below w0.heap.size w0 w
  got : ∀ (i : Nat) (h : HOp) (d : Nat), listed.getD i false = true → hs[i]? = some h → (os[i]?).bind (·.dst) = some d → a.tmps[d]? = some (val i) ∧ h.R (val i) w (lo i) (hi i) ∧ w0.heap.size ≤ lo i ∧ lo i ≤ hi i ∧ hi i ≤ w.heap.size
  apart : ∀ i j, listed.getD i false = true → listed.getD j false = true → i ≠ j → hi i ≤ lo j ∨ hi j ≤ lo i
  top : ∀ i, listed.getD i false = true → hi i ≤ w.heap.size
  closed : Closed os listed
/-- a guard that is on: the head that it names yields what it wants -/
def GOk (os : List Oper) (hs : List HOp) (n : Nat) (o : Oper) : Prop := ∃ j want h d, o.guard = some (j, want) ∧ hs[j]? = some h ∧ (os[j]?).bind (·.dst) = some d ∧ waits o j = true ∧ ∀ u w lo hi, h.R u w lo hi → u = .bool want
structure HChk (N : Nat) (os : List Oper) (hs : List HOp) (n : Nat) (l0 : Frm) : Prop where
  len : hs.length = n
  le : n ≤ os.length
  head : ∀ (i : Nat) (o : Oper), i < n → os[i]? = some o → (noSel o = true ∨ GOk os hs n o) ∧ backOk o i = true ∧ ∃ d, o.dst = some d ∧ look l0 d = none ∧ d < N
  distinct : ∀ (i j d : Nat), i < n → j < n → (os[i]?).bind (·.dst) = some d → (os[j]?).bind (·.dst) = some d → i = j
  deps : ∀ (i : Nat) (o : Oper) (h : HOp), os[i]? = some o → hs[i]? = some h → ∀ e ∈ h.deps, e < n ∧ waits o e = true
  tail : ∀ (k : Nat) (o : Oper), n ≤ k → os[k]? = some o → noSel o = true ∧ backOk o k = true ∧ ∀ j, j < k → waitsT os k j = true
theorem AllStab.get : ∀ {hs : List HOp} {i : Nat} {h : HOp}, AllStab hs → hs[i]? = some h → h.stab
  | [], i, h, _, hi => by simp at hi
  | g :: hs, 0, h, hs', hi => by simp at hi; subst hi; exact hs'.1
  | g :: hs, i + 1, h, hs', hi => AllStab.get hs'.2 (by simpa using hi)
theorem Obls.get {P : Program} {os : List Oper} {hs : List HOp} {l0 : Frm} {w0 : World} : ∀ {os' : List Oper} {hs' : List HOp} {i : Nat} {o : Oper} {h : HOp}, Obls P os hs l0 w0 os' hs' → os'[i]? = some o → hs'[i]? = some h → ∀ w, Below w0.heap.size w0 w → Obl P os hs w o h.R h.deps l0
  | [], _, i, o, h, _, ho, _ => by simp at ho
  | _ :: _, [], i, o, h, _, _, hh => by simp at hh
  | x :: os', g :: hs', 0, o, h, hob, ho, hh => by simp at ho hh; subst ho; subst hh; exact hob.1
  | x :: os', g :: hs', i + 1, o, h, hob, ho, hh => Obls.get hob.2 (by simpa using ho) (by simpa using hh)
/-- an obligation, with what its operation reads already there -/
theorem Obl.run {os : List Oper} {hs : List HOp} {w : World} {o : Oper} {R : Value → World → Nat → Nat → Prop} {a : Act} {val : Nat → Value} {lo hi : Nat → Nat} : ∀ {ds : List Nat} {l : Frm}, Obl X.P os hs w o R ds l → Ok X l a →
    (∀ e ∈ ds, ∀ h d, hs[e]? = some h → (os[e]?).bind (·.dst) = some d → a.tmps[d]? = some (val e) ∧ h.R (val e) w (lo e) (hi e) ∧ hi e ≤ w.heap.size) →
    ∃ l', Ok X l' a ∧ ExH X.P o l' w (fun v w' => R v w' w.heap.size w'.heap.size)
  | [], l, h, hok, _ => ⟨l, hok, h⟩
  | e :: ds, l, h, hok, hd => by
    simp only [Obl] at h
    split at h
    · rename_i g d hg hdst
      obtain ⟨h1, h2, h3⟩ := hd e (by simp) g d hg hdst
      refine Obl.run (h (val e) (lo e) (hi e) h3 h2) ⟨hok.1, hok.2.1, fun t v ht => ?_⟩ (fun e' he' => hd e' (by simp [he']))
      simp only [look] at ht
      by_cases q : d = t
      · subst q; rw [show Nat.beq d d = true from Nat.beq_refl d] at ht; simp only [cond_true, Option.some.injEq] at ht; rw [← ht]; exact h1
      · rw [beq_ne q] at ht; exact hok.2.2 t v ht
    · exact h.elim
theorem ExH.wp {o : Oper} {w : World} {a : Act} {Post : Value → World → Prop} {K : Act → World → Prop} {Q' : Exit → Act → World → Prop} (h : ExH X.P o l w Post) (ha : Ok X l a)
    (k : ∀ v w', Below w.heap.size w w' → Post v w' → K (a.put o.dst v) w') : o.wpIn (Fw X.r) 0 X.P a w K Q' := by
  refine ⟨fun _ _ => trivial, ?_⟩
  rcases h X a rfl ha with ⟨v, w', hr, hb, hp⟩ | ⟨f, vs, hr, hc⟩
  · rw [semAt_of hr (by intro d h; cases h)]
    exact k v w' hb hp
  · rw [semAt_of hr (by intro d h; cases h)]
    refine ⟨(fun h => by cases h), callsIn_of (Calls.mono hc ?_)⟩
    rintro e w' ⟨v, rfl, hb, hp⟩
    exact k v w' hb hp
theorem head_run {os : List Oper} {hs : List HOp} {n : Nat} {l0 : Frm} {w0 : World} (hc : HChk X.N os hs n l0) (hst : AllStab hs) (hob : Obls X.P os hs l0 w0 os hs)
    (hend : ∀ listed a w val lo hi, HSt X os hs n l0 w0 listed a w val lo hi → (∀ i, i < n → listed.getD i false = true) → segL X os.toArray Q (os.drop n) a w) :
    ∀ (m : Nat) (listed : Array Bool) (a : Act) (w : World) (val : Nat → Value) (lo hi : Nat → Nat), listed.toList.count false = m + (os.length - n) → listed.size = os.length → (∀ i, n ≤ i → i < os.length → listed.getD i true = false) →
      HSt X os hs n l0 w0 listed a w val lo hi → wpAnyIn (Fw X.r) 0 X.P .any os.toArray Q (m + (os.length - n)) listed a w := by
  intro m
  induction m with
  | zero =>
    intro listed a w val lo hi hcnt hsz htl H
    -- all heads are listed
    have hall : ∀ i, i < n → listed.getD i false = true := by
      intro i hi'
      have hsplit : listed.toList = listed.toList.take n ++ listed.toList.drop n := (List.take_append_drop _ _).symm
      rw [hsplit, List.count_append] at hcnt
      have hdrop : (listed.toList.drop n).count false = os.length - n := by
        rw [List.count_eq_length.2]
        · simp [hsz]
        · intro b hb
          obtain ⟨j, hj⟩ := List.getElem?_of_mem hb
          rw [List.getElem?_drop] at hj
          have hlt : n + j < os.length := by have := (List.getElem?_eq_some_iff.1 hj).1; simp [hsz] at this; exact this
          have := listed_get (htl (n + j) (by omega) hlt)
          rw [this] at hj; cases hj; rfl
      have htake : (listed.toList.take n).count false = 0 := by omega
      rw [List.count_eq_zero] at htake
      have hlt : i < listed.size := by have := hc.le; omega
      have hget : listed.getD i false = listed[i] := by simp [Array.getD_eq_getD_getElem?, hlt]
      rw [hget]
      cases hb : listed[i] with
      | true => rfl
      | false =>
        exfalso; apply htake
        rw [List.mem_take_iff_getElem]
        exact ⟨i, by simp; omega, by simpa using hb⟩
    have hs' := hend listed a w val lo hi H hall
    rw [Nat.zero_add]
    exact tail_run hc.tail (os.length - n) n listed a w H.closed rfl (Nat.le_refl _) hc.le hsz hall htl hs'
  | succ m ih =>
    intro listed a w val lo hi hcnt hsz htl H
    rw [show m + 1 + (os.length - n) = (m + (os.length - n)) + 1 by omega]
    -- some head is not listed
    have hex : ∃ i, i < n ∧ listed.getD i true = false := by
      refine Classical.byContradiction fun hno => ?_
      have hall : ∀ i, i < n → listed.getD i true = true := fun i hi' => by
        cases hb : listed.getD i true with
        | true => rfl
        | false => exact absurd ⟨i, hi', hb⟩ hno
      have hsplit : listed.toList = listed.toList.take n ++ listed.toList.drop n := (List.take_append_drop _ _).symm
      rw [hsplit, List.count_append] at hcnt
      have h1 : (listed.toList.take n).count false = 0 := by
        rw [List.count_eq_zero]
        intro hm
        obtain ⟨i, hi', hb⟩ := List.mem_take_iff_getElem.1 hm
        have hlt : i < listed.size := by simp at hi'; omega
        have := hall i (by simp at hi'; omega)
        rw [Array.getD_eq_getD_getElem?, Array.getElem?_eq_getElem hlt] at this
        simp at this hb; rw [this] at hb; cases hb
      have h2 : (listed.toList.drop n).count false ≤ os.length - n := by
        refine Nat.le_trans List.count_le_length ?_
        simp [hsz]
      omega
    obtain ⟨i0, ⟨hi0, hu0⟩, hleast⟩ := least hex
    have hlt0 : i0 < os.length := Nat.lt_of_lt_of_le hi0 hc.le
    have ho0 : os[i0]? = some os[i0] := List.getElem?_eq_getElem hlt0
    have hr0 : i0 ∈ Region.ready .any os.toArray listed := by
      refine mem_ready.2 ⟨hu0, os[i0], by simpa using ho0, fun e he hb => ?_⟩
      have hlt := backOk_spec (hc.head i0 _ hi0 ho0).2.1 e he hb
      have hle : e.on < listed.size := by omega
      cases hv : listed.getD e.on true with
      | true => rw [Array.getD_eq_getD_getElem?, Array.getElem?_eq_getElem hle] at hv ⊢; simpa using hv
      | false => have := hleast e.on ⟨by omega, hv⟩; omega
    refine ⟨fun h0 => by rw [h0] at hr0; simp at hr0, fun i hi' => ?_⟩
    obtain ⟨hun, o, ho, hall⟩ := mem_ready.1 hi'
    have ho' : os[i]? = some o := by simpa using ho
    have hil : i < os.length := (List.getElem?_eq_some_iff.1 ho').1
    have hin : i < n := by
      refine Nat.lt_of_not_le fun hge => ?_
      obtain ⟨_, _, c3⟩ := hc.tail i o hge ho'
      have h1 := waitsT_spec H.closed ho' hall (c3 i0 (by omega))
      have hle : i0 < listed.size := by omega
      rw [Array.getD_eq_getD_getElem?, Array.getElem?_eq_getElem hle] at h1 hu0
      simp at h1 hu0; rw [h1] at hu0; cases hu0
    obtain ⟨c1, c2, d, hd, hlk, hdN⟩ := hc.head i o hin ho'
    have hwt : Region.wanted o (yielded os.toArray a.tmps) = true := by
      rcases c1 with c1 | ⟨j, want, h, dj, hg, hh, hdj, hw, hR⟩
      · have hg : o.guard = none := by unfold noSel at c1; split at c1 <;> simp_all
        unfold Region.wanted; rw [hg]
      · obtain ⟨e', he', hb', hon⟩ := waits_spec hw
        have hl := hall e' he' hb'
        rw [hon] at hl
        obtain ⟨g1, g2, _⟩ := H.got j h dj hl hh hdj
        have hv := hR _ _ _ _ g2
        unfold Region.wanted; rw [hg]
        have : yielded os.toArray a.tmps j = some want := by
          unfold yielded
          rw [show (os.toArray[j]?).bind (·.dst) = some dj by simpa using hdj]
          simp [g1, hv]
        simp [this]
    have hhl : i < hs.length := by rw [hc.len]; exact hin
    have hh : hs[i]? = some hs[i] := List.getElem?_eq_getElem hhl
    unfold wpOpIn
    simp only [ho, hwt, if_true]
    obtain ⟨l', hok', hex'⟩ := Obl.run (hob.get ho' hh w H.below) H.ok (val := val) (lo := lo) (hi := hi) fun e he h d' hh' hd' => by
      have hw := (hc.deps i o _ ho' hh e he).2
      obtain ⟨e', he', hb', hon⟩ := waits_spec hw
      have := hall e' he' hb'
      rw [hon] at this
      obtain ⟨g1, g2, _, _, g5⟩ := H.got e h d' this hh' hd'
      exact ⟨g1, g2, g5⟩
    refine hex'.wp hok' fun v w' hb hR => ?_
    have hdi : (os[i]?).bind (·.dst) = some d := by rw [ho']; exact hd
    have hfalse : listed.toList[i]? = some false := listed_get hun
    refine ih _ _ w' (fun j => if j = i then v else val j) (fun j => if j = i then w.heap.size else lo j) (fun j => if j = i then w'.heap.size else hi j) ?_ (by simp [hsz]) ?_ ?_
    · have := cnt_set _ _ hfalse
      simp only [Array.toList_setIfInBounds]
      omega
    · intro j hj hjl
      rw [getD_set_ne true (by omega)]; exact htl j hj hjl
    · refine ⟨⟨by simp [Act.put, hd, H.ok.1], by simp [Act.put, hd, H.ok.2.1], fun t u ht => ?_⟩, btr H.below hb, ?_, ?_, ?_, H.closed.set ho' hall⟩
      · have hne : d ≠ t := fun e => by subst e; rw [hlk] at ht; cases ht
        simp only [Act.put, hd, Array.getElem?_setIfInBounds, hne, if_false]
        exact H.ok.2.2 t u ht
      · intro j h d' hj hhj hdj
        by_cases hji : j = i
        · subst hji
          rw [hh] at hhj; cases hhj
          rw [hdi] at hdj; cases hdj
          simp only [if_true]
          refine ⟨by simp [Act.put, hd, Array.getElem?_setIfInBounds, H.ok.2.1, hdN], hR, H.below.size, hb.size, Nat.le_refl _⟩
        · simp only [hji, if_false]
          rw [getD_set_ne false (fun e => hji e.symm)] at hj
          obtain ⟨g1, g2, g3, g4, g5⟩ := H.got j h d' hj hhj hdj
          have hjl : j < hs.length := (List.getElem?_eq_some_iff.1 hhj).1
          have hne : d ≠ d' := fun e => by subst e; exact hji (hc.distinct j i d (by rw [← hc.len]; exact hjl) hin hdj hdi)
          refine ⟨by simp only [Act.put, hd, Array.getElem?_setIfInBounds, hne, if_false]; exact g1, hst.get hhj _ _ _ _ _ hb g5 g2, g3, g4, Nat.le_trans g5 hb.size⟩
      · intro j k hj hk hjk
        by_cases hji : j = i
        · subst hji
          have hki : ¬ k = j := fun e => hjk e.symm
          simp only [if_true, hki, if_false]
          rw [getD_set_ne false (fun e => hki e.symm)] at hk
          exact .inr (H.top k hk)
        · by_cases hki : k = i
          · subst hki
            simp only [if_true, hji, if_false]
            rw [getD_set_ne false (fun e => hji e.symm)] at hj
            exact .inl (H.top j hj)
          · simp only [hji, hki, if_false]
            rw [getD_set_ne false (fun e => hji e.symm)] at hj
            rw [getD_set_ne false (fun e => hki e.symm)] at hk
            exact H.apart j k hj hk hjk
      · intro j hj
        by_cases hji : j = i
        · simp only [hji, if_true]; exact Nat.le_refl _
        · simp only [hji, if_false]
          rw [getD_set_ne false (fun e => hji e.symm)] at hj
          exact Nat.le_trans (H.top j hj) hb.size
/-- the check, by reckoning -/
def anyChkS (sel : Oper → Bool) (N n : Nat) (l0 : Frm) (os : List Oper) (dss : List (List Nat)) (ms : List Nat) : Bool :=
  Nat.beq dss.length n && Nat.ble n os.length && (os.take n).zipIdx.all (fun (o, i) => sel o && backOk o i && (match o.dst with | some d => (look l0 d).isNone && Nat.blt d N && ((os.take n).zipIdx.all fun (o', j) => Nat.beq i j || (match o'.dst with | some d' => !Nat.beq d d' | none => true)) | none => false)) &&
  (os.zip dss).all (fun (o, ds) => ds.all fun e => Nat.blt e n && waits o e) && os.zipIdx.all (fun (o, k) => Nat.blt k n || (noSel o && backOk o k && (List.range k).all fun j => (ms.getD k 0).testBit j))
def anyChk (N n : Nat) (l0 : Frm) (os : List Oper) (dss : List (List Nat)) : Bool := anyChkS noSel N n l0 os dss (masks os [])
def anySel (_ : Oper) : Bool := true
theorem anyChkS_sound {sel : Oper → Bool} {N n : Nat} {l0 : Frm} {os : List Oper} {hs : List HOp} (h : anyChkS sel N n l0 os (hs.map (·.deps)) (masks os []) = true) (hsel : ∀ (i : Nat) (o : Oper), i < n → os[i]? = some o → sel o = true → noSel o = true ∨ GOk os hs n o) : HChk N os hs n l0 := by
  simp only [anyChkS, Bool.and_eq_true] at h
  obtain ⟨⟨⟨⟨h1, h2⟩, h3⟩, h4⟩, h5⟩ := h
  have hle : n ≤ os.length := Nat.le_of_ble_eq_true h2
  have hh : ∀ (i : Nat) (o : Oper), i < n → os[i]? = some o → (noSel o = true ∨ GOk os hs n o) ∧ backOk o i = true ∧ ∃ d, o.dst = some d ∧ look l0 d = none ∧ d < N ∧ ∀ (j : Nat) (o' : Oper) (d' : Nat), j < n → os[j]? = some o' → o'.dst = some d' → d = d' → i = j := fun i o hi ho => by
    rw [List.all_eq_true] at h3
    have hm : (o, i) ∈ (os.take n).zipIdx := by
      rw [List.mem_zipIdx_iff_getElem?]; simp [List.getElem?_take, hi, ho]
    have := h3 _ hm
    simp only [Bool.and_eq_true] at this
    obtain ⟨⟨a1, a2⟩, a3⟩ := this
    refine ⟨hsel i o hi ho a1, a2, ?_⟩
    split at a3
    · rename_i d hd
      simp only [Bool.and_eq_true, Option.isNone_iff_eq_none] at a3
      obtain ⟨⟨b1, b2⟩, b3⟩ := a3
      refine ⟨d, hd, b1, by simpa [Nat.blt_eq] using b2, fun j o' d' hj ho' hd' he => ?_⟩
      rw [List.all_eq_true] at b3
      have hm' : (o', j) ∈ (os.take n).zipIdx := by
        rw [List.mem_zipIdx_iff_getElem?]; simp [List.getElem?_take, hj, ho']
      have := b3 _ hm'
      simp only [hd', Bool.or_eq_true] at this
      rcases this with q | q
      · exact Nat.eq_of_beq_eq_true q
      · subst he; rw [show Nat.beq d d = true from Nat.beq_refl d] at q; simp at q
    · simp at a3
  refine ⟨by simpa using Nat.eq_of_beq_eq_true h1, hle, fun i o hi ho => ?_, fun i j d hi hj hdi hdj => ?_, fun i o g ho hg e he => ?_, fun k o hk ho => ?_⟩
  · obtain ⟨a, b, d, c1, c2, c3, _⟩ := hh i o hi ho
    exact ⟨a, b, d, c1, c2, c3⟩
  · obtain ⟨oi, hoi, hdi'⟩ := Option.bind_eq_some_iff.1 hdi
    obtain ⟨oj, hoj, hdj'⟩ := Option.bind_eq_some_iff.1 hdj
    obtain ⟨_, _, d', c1, _, _, c4⟩ := hh i oi hi hoi
    rw [hdi'] at c1; cases c1
    exact c4 j oj d hj hoj hdj' rfl
  · rw [List.all_eq_true] at h4
    have hm : (o, g.deps) ∈ os.zip (hs.map (·.deps)) := by
      rw [List.mem_iff_getElem?]
      exact ⟨i, by simp [List.getElem?_zip_eq_some, ho, hg]⟩
    have := h4 _ hm
    simp only at this
    rw [List.all_eq_true] at this
    have := this e he
    simp only [Bool.and_eq_true] at this
    exact ⟨by simpa [Nat.blt_eq] using this.1, this.2⟩
  · rw [List.all_eq_true] at h5
    have hm : (o, k) ∈ os.zipIdx := by rw [List.mem_zipIdx_iff_getElem?]; exact ho
    have := h5 _ hm
    simp only [Bool.or_eq_true, Bool.and_eq_true] at this
    rcases this with q | ⟨⟨q1, q2⟩, q3⟩
    · simp [Nat.blt_eq] at q; omega
    · rw [List.all_eq_true] at q3
      exact ⟨q1, q2, fun j hj => q3 j (by simp [hj])⟩
theorem anyChk_sound {N n : Nat} {l0 : Frm} {os : List Oper} {hs : List HOp} (h : anyChk N n l0 os (hs.map (·.deps)) = true) : HChk N os hs n l0 := anyChkS_sound h fun _ _ _ _ h => .inl h
/-- the guards of the heads are on -/
def GOns (os : List Oper) (hs : List HOp) (n : Nat) : List Oper → Nat → Prop
  | o :: os', m + 1 => (noSel o = true ∨ GOk os hs n o) ∧ GOns os hs n os' m
  | _, _ => True
theorem GOns.get {os : List Oper} {hs : List HOp} {n : Nat} : ∀ {os' : List Oper} {m i : Nat} {o : Oper}, GOns os hs n os' m → i < m → os'[i]? = some o → noSel o = true ∨ GOk os hs n o
  | [], m, i, o, _, _, ho => by simp at ho
  | x :: os', 0, i, o, _, hi, _ => by omega
  | x :: os', m + 1, 0, o, h, _, ho => by simp at ho; subst ho; exact h.1
  | x :: os', m + 1, i + 1, o, h, hi, ho => GOns.get (m := m) (i := i) h.2 (Nat.lt_of_succ_lt_succ hi) (by simpa using ho)
/-- the state at the end of the heads, spelled out slot by slot -/
theorem fin_run {os0 : List Oper} {hs0 : List HOp} {l0 : Frm} {w0 : World} {listed : Array Bool} {a : Act} {val : Nat → Value} {lo hi : Nat → Nat} {n : Nat} {K : Frm → Prop} {N : Nat} (_hc : HChk N os0 hs0 n l0)
    (H : HSt X os0 hs0 n l0 w0 listed a w val lo hi) (hall : ∀ i, i < n → listed.getD i false = true) : ∀ (hs : List HOp) (os : List Oper) (i : Nat) (ivs : List (Nat × Nat)) (l : Frm), hs0.drop i = hs → os0.drop i = os → i + hs.length = n → Ok X l a →
    (∀ iv ∈ ivs, ∃ j, j < i ∧ iv = (lo j, hi j)) → Fin w0.heap.size w K os hs ivs l → ∃ l', Ok X l' a ∧ K l'
  | [], os, i, ivs, l, hhs, hos, hn, hok, _, hF => by
    cases os <;> exact ⟨l, hok, hF⟩
  | h :: hs, [], i, ivs, l, hhs, hos, hn, hok, _, hF => ⟨l, hok, hF⟩
  | h :: hs, o :: os, i, ivs, l, hhs, hos, hn, hok, hiv, hF => by
    have hh : hs0[i]? = some h := by have := congrArg (·[0]?) hhs; simpa using this
    have ho : os0[i]? = some o := by have := congrArg (·[0]?) hos; simpa using this
    simp only [Fin] at hF
    split at hF
    · rename_i d hd
      have hin : i < n := by simp at hn; omega
      obtain ⟨g1, g2, g3, g4, g5⟩ := H.got i h d (hall i hin) hh (by rw [ho]; exact hd)
      refine fin_run _hc H hall hs os (i + 1) _ _ (by rw [← List.drop_drop, hhs]; rfl) (by rw [← List.drop_drop, hos]; rfl) (by simp at hn; omega) ⟨hok.1, hok.2.1, fun t v ht => ?_⟩ ?_ (hF (val i) (lo i) (hi i) g2 g3 g4 g5 fun iv hm => ?_)
      · simp only [look] at ht
        by_cases q : d = t
        · subst q; rw [show Nat.beq d d = true from Nat.beq_refl d] at ht; simp only [cond_true, Option.some.injEq] at ht; rw [← ht]; exact g1
        · rw [beq_ne q] at ht; exact hok.2.2 t v ht
      · intro iv hm
        split at hm
        · simp only [List.mem_cons] at hm
          rcases hm with rfl | hm
          · exact ⟨i, by omega, rfl⟩
          · obtain ⟨j, hj, e⟩ := hiv iv hm; exact ⟨j, by omega, e⟩
        · obtain ⟨j, hj, e⟩ := hiv iv hm; exact ⟨j, by omega, e⟩
      · obtain ⟨j, hj, rfl⟩ := hiv iv hm
        exact H.apart i j (hall i hin) (hall j (by omega)) (by omega)
    · exact hF.elim
/-- **A region that draws its order**: the first n operations in any order, each by its own word; the others behind them. -/
theorem W_any {id : Nat} {os : List Oper} (n : Nat) (dss : List (List Nat)) (hs : List HOp) (hm : X.P.follows .mixedOrders = true) (hchk' : anyChk X.N n l os dss = true) (hdss : hs.map (·.deps) = dss) (hst : AllStab hs) (hob : Obls X.P os hs l w os hs)
    (htail : ∀ w', Below w.heap.size w w' → Fin w.heap.size w' (fun l' => SG X os.toArray Q (os.drop n) l' w') os hs [] l) : W X (.region id os.toArray true) Q l w := fun a ha => by
  have hc := anyChk_sound (hs := hs) (by rw [hdss]; exact hchk')
  refine wpIn_region_any hm ?_
  have := head_run (X := X) (Q := Q) hc hst hob (fun listed a w' val lo hi H hall => by
    obtain ⟨l', hok', hK⟩ := fin_run (X := X) (w := w') (K := fun l' => SG X os.toArray Q (os.drop n) l' w') hc H hall hs os 0 [] l rfl rfl (by simpa using hc.len) H.ok (fun _ h => by simp at h) (htail w' H.below)
    exact hK a hok') n (Array.replicate os.toArray.size false) a w.drew (fun _ => undef) (fun _ => 0) (fun _ => 0) (by simp; have := hc.le; omega) (by simp)
    (fun i hn hi => by simp [Array.getD_eq_getD_getElem?, hi])
    ⟨ha, (Below.refl _ w).drew, fun i h d hl => by simp only [Array.getD_eq_getD_getElem?] at hl; rw [Array.getElem?_replicate] at hl; split at hl <;> simp at hl,
      fun i j hl => by simp only [Array.getD_eq_getD_getElem?] at hl; rw [Array.getElem?_replicate] at hl; split at hl <;> simp at hl,
      fun i hl => by simp only [Array.getD_eq_getD_getElem?] at hl; rw [Array.getElem?_replicate] at hl; split at hl <;> simp at hl,
      fun i o hl => by simp only [Array.getD_eq_getD_getElem?] at hl; rw [Array.getElem?_replicate] at hl; split at hl <;> simp at hl⟩
  have e : n + (os.length - n) = os.toArray.size := by have := hc.le; simp; omega
  rw [e] at this
  exact this
/-- the same where heads have guards that are on -/
theorem W_anyT {id : Nat} {os : List Oper} (n : Nat) (dss : List (List Nat)) (hs : List HOp) (hm : X.P.follows .mixedOrders = true) (hchk' : anyChkS anySel X.N n l os dss (masks os []) = true) (hdss : hs.map (·.deps) = dss) (hg : GOns os hs n os n) (hst : AllStab hs) (hob : Obls X.P os hs l w os hs)
    (htail : ∀ w', Below w.heap.size w w' → Fin w.heap.size w' (fun l' => SG X os.toArray Q (os.drop n) l' w') os hs [] l) : W X (.region id os.toArray true) Q l w := fun a ha => by
  have hc := anyChkS_sound (hs := hs) (by rw [hdss]; exact hchk') fun i o hi ho _ => hg.get hi ho
  refine wpIn_region_any hm ?_
  have := head_run (X := X) (Q := Q) hc hst hob (fun listed a w' val lo hi H hall => by
    obtain ⟨l', hok', hK⟩ := fin_run (X := X) (w := w') (K := fun l' => SG X os.toArray Q (os.drop n) l' w') hc H hall hs os 0 [] l rfl rfl (by simpa using hc.len) H.ok (fun _ h => by simp at h) (htail w' H.below)
    exact hK a hok') n (Array.replicate os.toArray.size false) a w.drew (fun _ => undef) (fun _ => 0) (fun _ => 0) (by simp; have := hc.le; omega) (by simp)
    (fun i hn hi => by simp [Array.getD_eq_getD_getElem?, hi])
    ⟨ha, (Below.refl _ w).drew, fun i h d hl => by simp only [Array.getD_eq_getD_getElem?] at hl; rw [Array.getElem?_replicate] at hl; split at hl <;> simp at hl,
      fun i j hl => by simp only [Array.getD_eq_getD_getElem?] at hl; rw [Array.getElem?_replicate] at hl; split at hl <;> simp at hl,
      fun i hl => by simp only [Array.getD_eq_getD_getElem?] at hl; rw [Array.getElem?_replicate] at hl; split at hl <;> simp at hl,
      fun i o hl => by simp only [Array.getD_eq_getD_getElem?] at hl; rw [Array.getElem?_replicate] at hl; split at hl <;> simp at hl⟩
  have e : n + (os.length - n) = os.toArray.size := by have := hc.le; simp; omega
  rw [e] at this
  exact this
theorem Fin_det {B : Nat} {K : Frm → Prop} {o : Oper} {os : List Oper} {ds : List Nat} {v : Value} {hs : List HOp} {ivs : List (Nat × Nat)} {d : Nat} (hd : o.dst = some d) (h : Fin B w K os hs ivs ((d, v) :: l)) : Fin B w K (o :: os) (det ds v :: hs) ivs l := by
  simp only [Fin, hd]
  intro u lo hi e _ _ _ _
  simp only [det] at e
  subst e
  simpa [det] using h
theorem Fin_frs {B : Nat} {K : Frm → Prop} {o : Oper} {os : List Oper} {ds : List Nat} {R : Value → World → Nat → Nat → Prop} {hs : List HOp} {ivs : List (Nat × Nat)} {d : Nat} (hd : o.dst = some d)
    (h : ∀ v lo hi, R v w lo hi → B ≤ lo → lo ≤ hi → hi ≤ w.heap.size → (∀ iv ∈ ivs, hi ≤ iv.1 ∨ iv.2 ≤ lo) → Fin B w K os hs ((lo, hi) :: ivs) ((d, v) :: l)) : Fin B w K (o :: os) (frs ds R :: hs) ivs l := by
  simp only [Fin, hd]
  intro v lo hi e h1 h2 h3 h4
  simpa [frs] using h v lo hi e h1 h2 h3 h4
theorem Fin_nil {B : Nat} {K : Frm → Prop} {os : List Oper} {ivs : List (Nat × Nat)} (h : K l) : Fin B w K os [] ivs l := by
  cases os <;> exact h
theorem Obl_nil {P : Program} {os : List Oper} {hs : List HOp} {o : Oper} {R : Value → World → Nat → Nat → Prop} (h : ExH P o l w (fun v w' => R v w' w.heap.size w'.heap.size)) : Obl P os hs w o R [] l := h
theorem Obl_det {P : Program} {os : List Oper} {hs : List HOp} {o : Oper} {R : Value → World → Nat → Nat → Prop} {e d : Nat} {es ds : List Nat} {v : Value} (hh : hs[e]? = some (det ds v)) (hd : (os[e]?).bind (·.dst) = some d)
    (h : Obl P os hs w o R es ((d, v) :: l)) : Obl P os hs w o R (e :: es) l := by
  simp only [Obl, hh, hd]
  intro u lo hi _ he
  simp only [det] at he
  subst he; exact h
theorem Obl_frs {P : Program} {os : List Oper} {hs : List HOp} {o : Oper} {R R' : Value → World → Nat → Nat → Prop} {e d : Nat} {es ds : List Nat} (hh : hs[e]? = some (frs ds R')) (hd : (os[e]?).bind (·.dst) = some d)
    (h : ∀ v lo hi, hi ≤ w.heap.size → R' v w lo hi → Obl P os hs w o R es ((d, v) :: l)) : Obl P os hs w o R (e :: es) l := by
  simp only [Obl, hh, hd]
  intro v lo hi hle he
  exact h v lo hi hle he
theorem Obls_cons {P : Program} {os : List Oper} {hs : List HOp} {l0 : Frm} {w0 : World} {o : Oper} {os' : List Oper} {h : HOp} {hs' : List HOp} (h1 : ∀ w, Below w0.heap.size w0 w → Obl P os hs w o h.R h.deps l0) (h2 : Obls P os hs l0 w0 os' hs') :
    Obls P os hs l0 w0 (o :: os') (h :: hs') := ⟨h1, h2⟩
theorem Obls_nil {P : Program} {os : List Oper} {hs : List HOp} {l0 : Frm} {w0 : World} {os' : List Oper} : Obls P os hs l0 w0 os' [] := by cases os' <;> trivial
/-- one head after another: an operation that yields one value -/
theorem Ex_q {P : Program} {d : Option Nat} {op : Op} {ty : TypeId} {pos : String} {af : Array Edge} {g : Option (Nat × Bool)} {v : Value} {ds : List Nat} (h : Rq P op ty l w v) :
    ExH P { dst := d, op := op, type := ty, pos := pos, after := af, guard := g } l w (fun u w' => (det ds v).R u w' w.heap.size w'.heap.size) := fun X a hP ha =>
  .inl ⟨v, w, by subst hP; exact h w (Below.refl _ _) X a _ rfl ha rfl rfl, Below.refl _ _, rfl⟩
theorem Ex_q2 {P : Program} {d : Option Nat} {op : Op} {ty : TypeId} {pos : String} {af : Array Edge} {g : Option (Nat × Bool)} {v v' : Value} {ds : List Nat} (h : Rq P op ty l w v) (e : v' = v) :
    ExH P { dst := d, op := op, type := ty, pos := pos, after := af, guard := g } l w (fun u w' => (det ds v').R u w' w.heap.size w'.heap.size) := by subst e; exact Ex_q h
theorem Ex_call {P : Program} {d : Option Nat} {f : FuncId} {args : List Operand} {tys : Array TypeId} {ty : TypeId} {pos : String} {af : Array Edge} {g : Option (Nat × Bool)} {vs : List Value} {Post : Value → World → Prop} (hargs : evs l args = some vs)
    (hf : ∀ args w, (callFunc f args).run P w = .ok (.enter f args) w) (h : Fn P f vs.toArray w Post) : ExH P { dst := d, op := .call { callee := .value (.func f), args := args.toArray, argTypes := tys }, type := ty, pos := pos, after := af, guard := g } l w Post := fun X a hP ha =>
  .inr ⟨f, _, by subst hP; exact run_call ha rfl hargs hf, h⟩
theorem Ex_callv {P : Program} {d : Option Nat} {f : FuncId} {go : Operand} {cap all : List Value} {args : List Operand} {tys : Array TypeId} {ty : TypeId} {pos : String} {af : Array Edge} {g : Option (Nat × Bool)} {vs : List Value} {Post : Value → World → Prop}
    (hg : ev l go = some (.func (.func f) #[] cap.toArray)) (hargs : evs l args = some vs) (hall : vs ++ cap = all)
    (hf : ∀ args w, (callFunc f args).run P w = .ok (.enter f args) w) (h : Fn P f all.toArray w Post) : ExH P { dst := d, op := .call { callee := .value go, args := args.toArray, argTypes := tys }, type := ty, pos := pos, after := af, guard := g } l w Post := fun X a hP ha =>
  .inr ⟨f, _, by subst hP; exact run_callv ha rfl hg hargs hall hf, h⟩
theorem fn_det1 {P : Program} {f : FuncId} {args : Array Value} {v : Value} {ds : List Nat} (h : Pure P f args w v) : Fn P f args w (fun u w' => (det ds v).R u w' w.heap.size w'.heap.size) := h.fn
theorem fn_det2 {P : Program} {f : FuncId} {args : Array Value} {v v' : Value} {ds : List Nat} (h : Pure P f args w v) (e : v' = v) : Fn P f args w (fun u w' => (det ds v').R u w' w.heap.size w'.heap.size) := by subst e; exact h.fn
theorem Ex_run {P : Program} {o : Oper} {v : Value} {Post : Value → World → Prop} (h : Run P o.op o.type l w v w') (hb : Below w.heap.size w w') (hp : Post v w') : ExH P o l w Post := fun X a hP ha =>
  .inl ⟨v, w', h X a o hP ha rfl rfl, hb, hp⟩
end

/-! ### function values -/
def isNilF : Value → Bool | .nilFunc => true | _ => false
section
variable {P : Program} {X : Cx} {Q : Exit → Act → World → Prop} {l : Frm} {w w' : World} {ops : Array Oper} {rest : List Oper} {ty : TypeId}
theorem Rq_eql_fn {T U : TypeId} {x : Operand} {v : Value} {a b : Array TypeId} {va : Bool} (hT : ∀ w, (underlying T).run P w = .ok (.func a b va) w) (hx : ev l x = some v) (hv : v = .nilFunc ∨ ∃ f p q, v = .func f p q) :
    Rq P (.binOp .eql T x (.const .nilFunc) U) ty l w (.bool (isNilF v)) := by
  refine Rq_bin hx rfl fun w' _ => ?_
  have h1 : (eqGuard .eql T x (.const .nilFunc) v .nilFunc).run P w' = .ok () w' := by
    rcases hv with rfl | ⟨f, p, q, rfl⟩ <;> rfl
  have h2' : ∀ d, (Op.equalIn (d + 1) T v .nilFunc).run P w' = .ok (isNilF v) w' := fun d => by
    rcases hv with rfl | ⟨f, p, q, rfl⟩ <;> simp [Op.equalIn, hT, Sem.run_bind, Result.andThen, isNilF]
  have h2 := h2' 9999
  have h3 : binOp .eql T v .nilFunc = (do pure (.bool (← Op.equalIn (9999 + 1) T v .nilFunc)) : Sem Value) := by
    rcases hv with rfl | ⟨f, p, q, rfl⟩ <;> rfl
  rw [h3]
  simp only [Sem.run_bind, h1, h2, Result.andThen, Sem.run_pure]
/-- a call of a function value of which it is known what it does -/
theorem SG_pureE {d : Nat} {g : Operand} {v r : Value} {args : List Operand} {tys : Array TypeId} {pos : String} {af : Array Edge} {vs : List Value}
    (hg : ev l g = some v) (hargs : evs l args = some vs) (hd : Nat.blt d X.N = true)
    (h : ∃ f cap, v = .func (.func f) #[] cap.toArray ∧ (∀ args w, (callFunc f args).run X.P w = .ok (.enter f args) w) ∧ Pure X.P f (vs ++ cap).toArray w r) (k : ∀ w', Below w.heap.size w w' → SG X ops Q rest ((d, r) :: l) w') :
    SG X ops Q ({ dst := some d, op := .call { callee := .value g, args := args.toArray, argTypes := tys }, type := ty, pos := pos, after := af, guard := none } :: rest) l w := by
  obtain ⟨f, cap, rfl, hf, hp⟩ := h
  exact SG_purev hg hargs rfl hf hd hp k
end

/-- the blocks from lo to hi lie as they lay -/
structure Keep (lo hi : Nat) (w w' : World) : Prop where
  size : w.heap.size ≤ w'.heap.size
  block : ∀ k, lo ≤ k → k < hi → w'.heap[k]? = w.heap[k]?
theorem Keep.trans {lo hi : Nat} {a b c : World} (h : Keep lo hi a b) (k : Keep lo hi b c) : Keep lo hi a c := ⟨Nat.le_trans h.size k.size, fun i h1 h2 => (k.block i h1 h2).trans (h.block i h1 h2)⟩
theorem Keep.of_below {lo hi B : Nat} {w w' : World} (h : Below B w w') (hle : hi ≤ B) : Keep lo hi w w' := ⟨h.size, fun k _ hk => h.block k (Nat.lt_of_lt_of_le hk hle)⟩
theorem Keep.of_chg {lo hi b : Nat} {w w' : World} (h : Chg (· = b) w w') (hb : b < lo ∨ hi ≤ b) (hle : hi ≤ w.heap.size) : Keep lo hi w w' := ⟨h.size, fun k h1 h2 => h.block k (Nat.lt_of_lt_of_le h2 hle) (fun e => by omega)⟩
theorem Keep.refl (lo hi : Nat) (w : World) : Keep lo hi w w := ⟨Nat.le_refl _, fun _ _ _ => rfl⟩
theorem Blk.keep {lo hi : Nat} {w w' : World} {b : Nat} {cs : List Value} {T : TypeId} (h : Blk w b cs T) (hk : Keep lo hi w w') (h1 : lo ≤ b) (h2 : b < hi) : Blk w' b cs T := (hk.block b h1 h2).trans h
/-! ### slices of array variables -/
section
variable {P : Program} {l : Frm} {w : World} {ty : TypeId}
theorem Rq_asliceH {T E : TypeId} {x i : Operand} {b n k : Nat} {K : IntKind} {h : Int} (hT : ∀ w, (underlying T).run P w = .ok (.array n E) w) (hE : ∀ w, (sizeOf E).run P w = .ok k w)
    (hx : ev l x = some (.pointer (some ⟨b, 0, none⟩))) (hi : ev l i = some (.int K h)) (h0 : 0 ≤ h) (h1 : h ≤ n) : Rq P (.slice T x none (some i) none) ty l w (.slice (some ⟨b, 0, none⟩) h.toNat n) := fun w' _ X a o _ ha hop _ => by
  unfold execOp; rw [hop]
  simp only [Option.map_some, Option.map_none, ha.ev hx, ha.ev hi]
  simp [Instr.sliceAt, Instr.sureAddr, Instr.sliceBounds, Sem.run_bind, hT, hE, run_sliceBound _ _ _ _ _ h0 h1, Result.andThen, addr_add]
theorem Rq_asliceL {T E : TypeId} {x i : Operand} {b n k : Nat} {K : IntKind} {h : Int} (hT : ∀ w, (underlying T).run P w = .ok (.array n E) w) (hE : ∀ w, (sizeOf E).run P w = .ok k w)
    (hx : ev l x = some (.pointer (some ⟨b, 0, none⟩))) (hi : ev l i = some (.int K h)) (h0 : 0 ≤ h) (h1 : h ≤ n) :
    Rq P (.slice T x (some i) none none) ty l w (.slice (some ⟨b, (if n = h.toNat then 0 else h.toNat * k), none⟩) (n - h.toNat) (n - h.toNat)) := fun w' _ X a o _ ha hop _ => by
  unfold execOp; rw [hop]
  simp only [Option.map_some, Option.map_none, ha.ev hx, ha.ev hi]
  simp [Instr.sliceAt, Instr.sureAddr, Instr.sliceBounds, Sem.run_bind, hT, hE, run_sliceBound _ _ _ _ _ h0 h1, Result.andThen, addr_add]
  split <;> simp
end
theorem SL.of_blk {α : Type} {w : World} {b o c : Nat} {cs : List Value} {T : TypeId} {enc : α → List Value} {val : α → Value} {xs : List α} (hB : Blk w b cs T) (hv : ∀ x, enc x = [val x]) (hcs : (cs.drop o).take xs.length = xs.map val) (hc : xs.length ≤ c) :
    SL w (.slice (some ⟨b, o, none⟩) xs.length c) 1 enc xs := by
  refine ⟨.inr ⟨rfl, hc⟩, fun i x hi => ?_, fun x => by rw [hv]; simp⟩
  rw [hv, show sb (.slice (some ⟨b, o, none⟩) xs.length c) = b from rfl, show so (.slice (some ⟨b, o, none⟩) xs.length c) = o from rfl]
  refine hB.cells ?_
  have hlt := (List.getElem?_eq_some_iff.1 hi).1
  have h2 : ((cs.drop o).take xs.length)[i]? = some (val x) := by rw [hcs, List.getElem?_map, hi]; rfl
  rw [List.getElem?_take_of_lt hlt, List.getElem?_drop] at h2
  have h3 := List.getElem?_eq_some_iff.1 h2
  rw [List.length_singleton, Nat.mul_one, List.drop_eq_getElem_cons h3.1]
  simp [h3.2]
def AllocR (cs : List Value) (T : TypeId) (u : Value) (w : World) (lo hi : Nat) : Prop := ∃ b, u = .pointer (some ⟨b, 0, none⟩) ∧ Blk w b cs T ∧ lo ≤ b ∧ b < hi
theorem AllocR.stab (cs : List Value) (T : TypeId) (ds : List Nat) : (frs ds (AllocR cs T)).stab := fun _ _ _ _ _ hb _ ⟨b, h1, h2, h3, h4⟩ => ⟨b, h1, h2.below hb, h3, h4⟩
theorem Ex_alloc {P : Program} {l : Frm} {w : World} {d : Option Nat} {T : TypeId} {ty : TypeId} {pos : String} {af : Array Edge} {g : Option (Nat × Bool)} {v : Value} {cs : List Value} {ds : List Nat} (hz : ∀ w, (zeroValue T).run P w = .ok v w) (hcs : v.cells = cs.toArray) :
    ExH P { dst := d, op := .alloc T, type := ty, pos := pos, after := af, guard := g } l w (fun u w' => (frs ds (AllocR cs T)).R u w' w.heap.size w'.heap.size) := by
  refine Ex_run (v := .pointer (some ⟨w.heap.size, 0, none⟩)) (w' := w.alloc (.cells cs.toArray T)) ?_ (alloc_below _ _) ⟨_, rfl, alloc_blk _ _ _, Nat.le_refl _, by simp⟩
  intro X' a o hP ha ho _
  unfold execOp; rw [ho]
  simp [Instr.alloc, hz, newVar, newRow, newObj, Sem.run_bind, Sem.run, Result.andThen, hcs]
theorem SL.of_blkH {α : Type} {w : World} {b m n : Nat} {cs : List Value} {T : TypeId} {enc : α → List Value} {val : α → Value} {xs : List α} (hB : Blk w b cs T) (hv : ∀ x, enc x = [val x]) (hcs : cs = xs.map val) (hn : n ≤ xs.length) (hm : n ≤ m) :
    SL w (.slice (some ⟨b, 0, none⟩) (n : Int).toNat m) 1 enc (xs.take n) := by
  have e : (xs.take n).length = n := by simp; omega
  have := SL.of_blk (o := 0) (c := m) (xs := xs.take n) hB hv (by rw [e, hcs, List.drop_zero, List.map_take]) (by omega)
  rwa [e] at this
theorem SL.of_blkL {α : Type} {w : World} {b m n : Nat} {cs : List Value} {T : TypeId} {enc : α → List Value} {val : α → Value} {xs : List α} (hB : Blk w b cs T) (hv : ∀ x, enc x = [val x]) (hcs : cs = xs.map val) (hm : xs.length = m) (hn : n ≤ m) :
    SL w (.slice (some ⟨b, (if m = (n : Int).toNat then 0 else (n : Int).toNat * 1), none⟩) (m - (n : Int).toNat) (m - (n : Int).toNat)) 1 enc (xs.drop n) := by
  simp only [Int.toNat_natCast, Nat.mul_one]
  have e : (xs.drop n).length = m - n := by simp; omega
  have := SL.of_blk (o := if m = n then 0 else n) (c := m - n) (xs := xs.drop n) hB hv (by
    rw [e, hcs]
    split
    · subst m; simp [List.drop_of_length_le (show xs.length ≤ n by omega)]; omega
    · rw [← List.map_drop, List.take_of_length_le (by simp; omega)]) (by omega)
  rwa [e] at this
end Go.Mi
