/- The step rules that all walks of these texts use: frames as lists of known slots, one rule for each form of code and for each kind of operation. Plain lemmas over any program; nothing of one program stands here. -/
import Derived.CallsIn
import Derived.OrdersIn
import Derived.RangeFuncLeaves
import Derived.RangeFuncOwn
import Derived.Deep.Quiet
import Derived.WalkKit
set_option linter.all false
namespace Go.Mi
open Go Go.RowKit
/-- what conditions say -/
theorem dd : (∀ (p : Prop) [Decidable p], (decide p = true) = p) ∧ (∀ (p : Prop) [Decidable p], (decide p = false) = ¬p) ∧ (∀ b : Bool, ((!b) = true) = (b = false)) ∧ (∀ b : Bool, ((!b) = false) = (b = true)) ∧
    (∀ a b : Bool, ((a || b) = true) = (a = true ∨ b = true)) ∧ (∀ a b : Bool, ((a && b) = true) = (a = true ∧ b = true)) ∧ (∀ a b : Bool, ((a || b) = false) = (a = false ∧ b = false)) ∧ (∀ a b : Bool, ((a && b) = false) = (a = true → b = false)) ∧
    (∀ a b : Int, (¬ a < b) = (b ≤ a)) ∧ (∀ a b : Int, (¬ a ≤ b) = (b < a)) :=
  ⟨fun _ _ => decide_eq_true_eq, fun _ _ => by simp, fun _ => by simp, fun _ => by simp, fun _ _ => by simp, fun _ _ => by simp, fun _ _ => by simp, fun _ _ => by simp, fun _ _ => by simp, fun _ _ => by simp⟩
/-! ### frames -/
abbrev Frm := List (Nat × Value)
def look : Frm → Nat → Option Value
  | [], _ => none
  | (d, v) :: l, t => cond (Nat.beq d t) (some v) (look l t)
def ev (l : Frm) : Operand → Option Value
  | .tmp t => look l t
  | .const v => some v
  | .global g => some (.pointer (some ⟨g, 0, none⟩))
  | .func f => some (.func (.func f) #[] #[])
def evs (l : Frm) : List Operand → Option (List Value)
  | [] => some []
  | x :: xs => match ev l x, evs l xs with
    | some v, some vs => some (v :: vs)
    | _, _ => none
abbrev Fw (r : Option Nat) : Fence := { fn := fun _ => True, depth := none, alive := false, round := r }
structure Cx where
  r : Option Nat
  P : Program
  N : Nat
  ds : List Deferred
def Ok (X : Cx) (l : Frm) (a : Act) : Prop := a.defers = X.ds ∧ a.tmps.size = X.N ∧ ∀ t v, look l t = some v → a.tmps[t]? = some v
theorem Ok.ev {X : Cx} {l : Frm} {a : Act} (h : Ok X l a) {x : Operand} {v : Value} (hv : ev l x = some v) : a.eval x = v := by
  cases x with
  | tmp t => have := h.2.2 t v hv; simp [Act.eval, Array.getD_eq_getD_getElem?, this]
  | const u => simpa [Mi.ev, Act.eval] using hv
  | global g => simpa [Mi.ev, Act.eval] using hv
  | func f => simpa [Mi.ev, Act.eval] using hv
theorem Ok.evs {X : Cx} {l : Frm} {a : Act} (h : Ok X l a) : ∀ {xs : List Operand} {vs : List Value}, evs l xs = some vs → xs.map a.eval = vs := by
  intro xs
  induction xs with
  | nil => intro vs hv; simp [Mi.evs] at hv; simp [← hv]
  | cons x xs ih =>
    intro vs hv
    simp only [Mi.evs] at hv
    split at hv
    · rename_i v us hx hxs
      cases hv
      simp [h.ev hx, ih hxs]
    · cases hv
theorem Ok.put {X : Cx} {l : Frm} {a : Act} (h : Ok X l a) {d : Nat} (hd : Nat.blt d X.N = true) (v : Value) : Ok X ((d, v) :: l) (a.put (some d) v) := by
  refine ⟨h.1, by simp [Act.put, h.2.1], fun t u ht => ?_⟩
  have hd' : d < X.N := by simpa [Nat.blt_eq] using hd
  simp only [look] at ht
  simp only [Act.put, Array.getElem?_setIfInBounds, h.2.1]
  by_cases e : d = t
  · subst e
    have : Nat.beq d d = true := Nat.beq_refl d
    rw [this] at ht
    simp only [cond_true, Option.some.injEq] at ht
    simp [hd', ht]
  · have : Nat.beq d t = false := by
      cases hb : Nat.beq d t with
      | false => rfl
      | true => exact absurd (Nat.eq_of_beq_eq_true hb) e
    rw [this] at ht
    simp only [cond_false] at ht
    simp [e, h.2.2 t u ht]
theorem beq_ne {d t : Nat} (e : ¬ d = t) : Nat.beq d t = false := by
  cases hb : Nat.beq d t with
  | false => rfl
  | true => exact absurd (Nat.eq_of_beq_eq_true hb) e
/-- what l' knows, l knows -/
def Sub (l l' : Frm) : Prop := ∀ t v, look l' t = some v → look l t = some v
theorem Sub.nil {l : Frm} : Sub l [] := fun t v h => by simp [look] at h
theorem Sub.refl {l : Frm} : Sub l l := fun _ _ h => h
theorem Sub.cons {l l' : Frm} {t : Nat} {v : Value} (h : look l t = some v) (hs : Sub l l') : Sub l ((t, v) :: l') := fun s u hu => by
  simp only [look] at hu
  by_cases e : t = s
  · subst e
    rw [show Nat.beq t t = true from Nat.beq_refl t] at hu
    simp only [cond_true, Option.some.injEq] at hu
    rw [← hu]; exact h
  · rw [beq_ne e] at hu
    exact hs s u hu
theorem Sub.push {l l' : Frm} {t : Nat} {v : Value} (h : look l' t = none) (hs : Sub l l') : Sub ((t, v) :: l) l' := fun s u hu => by
  simp only [look]
  by_cases e : t = s
  · subst e; rw [h] at hu; cases hu
  · rw [beq_ne e]; exact hs s u hu
theorem Sub.same {l l' : Frm} {t : Nat} {v : Value} (hs : Sub l l') : Sub ((t, v) :: l) ((t, v) :: l') := fun s u hu => by
  simp only [look] at hu ⊢
  by_cases e : t = s
  · subst e; rw [show Nat.beq t t = true from Nat.beq_refl t] at hu ⊢; exact hu
  · rw [beq_ne e] at hu ⊢; exact hs s u hu
theorem Ok.sub {X : Cx} {l : Frm} {a : Act} (h : Ok X l a) {l' : Frm} (hs : Sub l l') : Ok X l' a := ⟨h.1, h.2.1, fun t v ht => h.2.2 t v (hs t v ht)⟩
/-! ### code -/
def W (X : Cx) (c : Code) (Q : Exit → Act → World → Prop) (l : Frm) (w : World) : Prop := ∀ a, Ok X l a → c.wpIn (Fw X.r) 0 X.P Q a w
def D (X : Cx) (Q : Exit → Act → World → Prop) (e : Exit) (l : Frm) (w : World) : Prop := ∀ a, Ok X l a → Q e a w
section
variable {X : Cx} {Q : Exit → Act → World → Prop} {l : Frm} {w : World}
def Th (X : Cx) (y : Code) (Q : Exit → Act → World → Prop) : Exit → Act → World → Prop := Exit.then (fun a w => y.wpIn (Fw X.r) 0 X.P Q a w) Q
theorem W_seq {x y : Code} (h : W X x (Th X y Q) l w) : W X (.seq x y) Q l w := fun a ha => wpIn_seq (h a ha)
theorem W_block {id : Nat} {c : Code} (h : W X c (Exit.inBlock id Q) l w) : W X (.block id c) Q l w := fun a ha => wpIn_block (h a ha)
theorem W_condT {c : Operand} {x y : Code} (hc : ev l c = some (.bool true)) (ht : W X x Q l w) : W X (.cond c x y) Q l w :=
  fun a ha => wpIn_cond_true (ha.ev hc) (ht a ha)
theorem D_then {y : Code} (h : W X y Q l w) : D X (Th X y Q) .normal l w := h
theorem D_block {id : Nat} (h : D X Q .normal l w) : D X (Exit.inBlock id Q) .normal l w := h
/-- the post of a loop's round -/
def Lp (X : Cx) {α : Type} (I : α → Frm) (J : α → World → Prop) (μ : α → Nat) (m : Nat) (Q : Exit → Act → World → Prop) : Exit → Act → World → Prop :=
  Exit.then (fun a w => ∃ x, Ok X (I x) a ∧ J x w ∧ μ x < m) Q
theorem least {p : Nat → Prop} (h : ∃ n, p n) : ∃ n, p n ∧ ∀ m, p m → n ≤ m := by
  obtain ⟨n, hn⟩ := h
  induction n using Nat.strongRecOn with
  | _ n ih =>
    by_cases hm : ∃ m, m < n ∧ p m
    · obtain ⟨m, hlt, hp⟩ := hm; exact ih m hlt hp
    · exact ⟨n, hn, fun m hp => Nat.le_of_not_lt fun hlt => hm ⟨m, hlt, hp⟩⟩
end
/-! ### regions -/
def segL (X : Cx) (ops : Array Oper) (Q : Exit → Act → World → Prop) : List Oper → Act → World → Prop
  | [], a, w => Q .normal a w
  | o :: rest, a, w => if Region.wanted o (yielded ops a.tmps) then o.wpIn (Fw X.r) 0 X.P a w (segL X ops Q rest) Q else segL X ops Q rest (a.put o.dst undef) w
theorem segL_sound {X : Cx} {ops : Array Oper} {Q : Exit → Act → World → Prop} : ∀ (rest : List Oper) (k : Nat) (a : Act) (w : World), (∀ j, rest[j]? = ops[k + j]?) →
    segL X ops Q rest a w → wpOpsIn (Fw X.r) 0 X.P ops Q (List.range' k rest.length) a w
  | [], k, a, w, _, h => h
  | o :: rest, k, a, w, hr, h => by
    have h0 : ops[k]? = some o := by simpa using (hr 0).symm
    have hrest : ∀ j, rest[j]? = ops[k + 1 + j]? := fun j => by have := hr (j + 1); simpa [Nat.add_assoc, Nat.add_comm 1 j] using this
    simp only [List.length_cons, List.range'_succ, wpOpsIn, h0]
    simp only [segL] at h
    split
    · rename_i hw
      simp only [hw, if_true] at h
      exact Oper.wpIn_mono (fun a' w' h' => segL_sound rest (k + 1) a' w' hrest h') h
    · rename_i hw
      simp only [hw] at h
      exact ⟨fun _ _ => trivial, segL_sound rest (k + 1) _ w hrest h⟩
def SG (X : Cx) (ops : Array Oper) (Q : Exit → Act → World → Prop) (rest : List Oper) (l : Frm) (w : World) : Prop := ∀ a, Ok X l a → segL X ops Q rest a w
section
variable {X : Cx} {Q : Exit → Act → World → Prop} {l : Frm} {w w' : World} {ops : Array Oper} {rest : List Oper}
theorem W_region {id : Nat} {os : List Oper} (h : SG X os.toArray Q os l w) : W X (.region id os.toArray false) Q l w := fun a ha => by
  refine wpIn_region ?_
  have := segL_sound (X := X) (ops := os.toArray) (Q := Q) os 0 a w (fun j => by simp) (h a ha)
  simpa [List.range_eq_range'] using this
theorem SG_nil (h : D X Q .normal l w) : SG X ops Q [] l w := h
/-- what one operation yields, in whatever frame that has these slots -/
def Run (P : Program) (op : Op) (ty : TypeId) (l : Frm) (w : World) (v : Value) (w' : World) : Prop :=
  ∀ (X : Cx) (a : Act) (o : Oper), X.P = P → Ok X l a → o.op = op → o.type = ty → (execOp a.eval o).run P w = .ok (.value v) w'
def RunS (P : Program) (op : Op) (ty : TypeId) (l : Frm) (w : World) (w' : World) : Prop :=
  ∀ (X : Cx) (a : Act) (o : Oper), X.P = P → Ok X l a → o.op = op → o.type = ty → (execOp a.eval o).run P w = .ok .skip w'
def Rq (P : Program) (op : Op) (ty : TypeId) (l : Frm) (w : World) (v : Value) : Prop := ∀ w', Below w.heap.size w w' → Run P op ty l w' v w'
theorem no_defer {o : Oper} {ρ : Operand → Value} {P : Program} {w w' : World} {n : Next} (h : (execOp ρ o).run P w = .ok n w') (hn : ∀ d, n ≠ .defer d) : ∀ c, o.op ≠ .defer c := by
  intro c hc
  unfold execOp at h
  rw [hc] at h
  simp only [Sem.run_bind] at h
  cases hr : (resolve ρ c o.type).run P w with
  | ok d w1 => rw [hr] at h; simp only [Result.andThen, Sem.run_pure] at h; cases h; exact hn d rfl
  | halt x w1 => rw [hr] at h; simp only [Result.andThen] at h; cases h
theorem semAt_of {o : Oper} {ρ : Operand → Value} {P : Program} {w w' : World} {n : Next} {r : Option Nat} (h : (execOp ρ o).run P w = .ok n w') (hn : ∀ d, n ≠ .defer d) : (o.semAt r ρ).run P w = .ok n w' := by
  rw [Oper.semAt_eq r ρ o (no_defer h hn)]; exact h
theorem SG_val {d : Nat} {op : Op} {ty : TypeId} {pos : String} {af : Array Edge} {v : Value} (h : Run X.P op ty l w v w') (hd : Nat.blt d X.N = true) (k : SG X ops Q rest ((d, v) :: l) w') :
    SG X ops Q ({ dst := some d, op := op, type := ty, pos := pos, after := af, guard := none } :: rest) l w := fun a ha => by
  simp only [segL, Region.wanted, if_true, Oper.wpIn]
  refine ⟨fun _ _ => trivial, ?_⟩
  rw [semAt_of (h X a _ rfl ha rfl rfl) (by intro d h; cases h)]
  exact k _ (ha.put hd v)
theorem SG_q {d : Nat} {op : Op} {ty : TypeId} {pos : String} {af : Array Edge} {v : Value} (h : Rq X.P op ty l w v) (hd : Nat.blt d X.N = true) (k : SG X ops Q rest ((d, v) :: l) w) :
    SG X ops Q ({ dst := some d, op := op, type := ty, pos := pos, after := af, guard := none } :: rest) l w := SG_val (h w (Below.refl _ _)) hd k
end
/-! ### operations without memory -/
section
variable {P : Program} {l : Frm} {w : World} {ty : TypeId}
theorem Rq_assign {x : Operand} {v : Value} (h : ev l x = some v) : Rq P (.assign x) ty l w v := fun w' _ X a o _ ha ho _ => by
  unfold execOp; rw [ho]; simp only [ha.ev h]; rfl
theorem Rq_bin {op : BinOp} {T U : TypeId} {x y : Operand} {vx vy v : Value} (hx : ev l x = some vx) (hy : ev l y = some vy)
    (h : ∀ w', Below w.heap.size w w' → (do eqGuard op T x y vx vy; binOp op T vx vy : Sem Value).run P w' = .ok v w') : Rq P (.binOp op T x y U) ty l w v := fun w' hb X a o _ ha ho _ => by
  unfold execOp; rw [ho]; simp only [ha.ev hx, ha.ev hy, Sem.run_bind, h w' hb, Result.andThen, Sem.run_pure]
theorem eqGuard_int {op : BinOp} {T : TypeId} {x y : Operand} {k k' : IntKind} {a b : Int} (w : World) : (eqGuard op T x y (.int k a) (.int k' b)).run P w = .ok () w := by
  unfold eqGuard; cases op <;> simp [Sem.run_pure]
theorem eqGuard_string {op : BinOp} {T : TypeId} {x y : Operand} {a b : ByteArray} (w : World) : (eqGuard op T x y (.string a) (.string b)).run P w = .ok () w := by
  unfold eqGuard; cases op <;> simp [Sem.run_pure]
section
variable {T U : TypeId} {x y : Operand} {k : IntKind} {a b : Int}
end
end
/-! ### memory that is read -/
theorem cell_lt {w : World} {p : Addr} {v : Value} (h : w.cell? p = some v) : p.block < w.heap.size := by
  unfold World.cell? at h
  split at h
  · rename_i hb; exact (Array.getElem?_eq_some_iff.1 hb).1
  · cases h
def Cells (w : World) (b o : Nat) (vs : List Value) : Prop := ∀ i, i < vs.length → w.cell? ⟨b, o + i, none⟩ = vs[i]?
theorem Cells.lt {w : World} {b o : Nat} {vs : List Value} (h : Cells w b o vs) (hn : 0 < vs.length) : b < w.heap.size := by
  have := h 0 hn
  rw [List.getElem?_eq_getElem hn] at this
  exact cell_lt this
theorem Cells.below {w w' : World} {b o : Nat} {vs : List Value} (h : Cells w b o vs) (hb : Below w.heap.size w w') : Cells w' b o vs := fun i hi => by
  rw [hb.cell (p := ⟨b, o + i, none⟩) (h.lt (by omega))]; exact h i hi
theorem addr_add (b o n : Nat) : (⟨b, o, none⟩ : Addr).add n = ⟨b, o + n, none⟩ := by
  unfold Addr.add; split
  · rename_i h; subst h; rfl
  · rfl
section
variable {P : Program} {l : Frm} {w : World} {ty : TypeId}
theorem run_loadVar1 {T : TypeId} {p : Addr} {v : Value} (hT : ∀ w, (isAgg T).run P w = .ok false w) (hc : w.cell? p = some v) : (loadVar T p).run P w = .ok v w := by
  unfold loadVar; simp [Sem.run_bind, hT, Result.andThen, Go.load, Sem.run, hc]
theorem run_loadCellsFrom {b o : Nat} : ∀ (n i : Nat) (acc : Array Value) (vs : List Value), (∀ j, j < n → w.cell? ⟨b, o + (i + j), none⟩ = vs[j]?) → vs.length = n →
    (loadCellsFrom ⟨b, o, none⟩ i n acc).run P w = .ok (acc ++ vs.toArray) w
  | 0, i, acc, vs, _, hl => by have : vs = [] := List.length_eq_zero_iff.1 hl; subst this; simp [loadCellsFrom]
  | n + 1, i, acc, vs, hc, hl => by
    match vs, hl with
    | v :: vs, hl =>
      have h0 := hc 0 (by omega)
      have hr := run_loadCellsFrom n (i + 1) (acc.push v) vs (fun j hj => by have := hc (j + 1) (by omega); simpa [Nat.add_assoc, Nat.add_comm 1 j] using this) (by simpa using hl)
      unfold loadCellsFrom
      simp only [Sem.run_bind, Go.load, addr_add]
      simp only [Nat.add_zero, List.getElem?_cons_zero] at h0
      simp only [Sem.run, h0, Result.andThen, hr]
      simp
theorem run_loadVarA {T n : Nat} {b o : Nat} {vs : List Value} (hT : ∀ w, (isAgg T).run P w = .ok true w) (hn : ∀ w, (sizeOf T).run P w = .ok n w) (hc : Cells w b o vs) (hl : vs.length = n) :
    (loadVar T ⟨b, o, none⟩).run P w = .ok (.agg vs.toArray) w := by
  unfold loadVar
  have := run_loadCellsFrom (P := P) (w := w) (b := b) (o := o) n 0 #[] vs (fun j hj => by simpa using hc j (by omega)) hl
  simp [Sem.run_bind, hT, hn, Result.andThen, loadCells, this]
end
/-! ### slices that are read -/
def sb : Value → Nat | .slice (some a) _ _ => a.block | _ => 0
def so : Value → Nat | .slice (some a) _ _ => a.off | _ => 0
def scap : Value → Nat | .slice _ _ c => c | _ => 0
/-- v reads as the list xs, each element being 'k' cells 'enc x' -/
structure SL {α : Type} (w : World) (v : Value) (k : Nat) (enc : α → List Value) (xs : List α) : Prop where
  shape : (v = .slice none 0 0 ∧ xs = []) ∨ (v = .slice (some ⟨sb v, so v, none⟩) xs.length (scap v) ∧ xs.length ≤ scap v)
  cells : ∀ i x, xs[i]? = some x → Cells w (sb v) (so v + i * k) (enc x)
  pos : ∀ x, 0 < (enc x).length
section
variable {α : Type} {w w' : World} {v : Value} {k : Nat} {enc : α → List Value} {xs : List α}
theorem SL.below (h : SL w v k enc xs) (hb : Below w.heap.size w w') : SL w' v k enc xs := ⟨h.shape, fun i x hi => (h.cells i x hi).below hb, h.pos⟩
theorem SL.nil (hp : ∀ x, 0 < (enc x).length) : SL w (.slice none 0 0) k enc [] := ⟨.inl ⟨rfl, rfl⟩, fun i x hi => by simp at hi, hp⟩
theorem SL.lt (h : SL w v k enc xs) (hn : 0 < xs.length) : sb v < w.heap.size :=
  (h.cells 0 _ (List.getElem?_eq_getElem hn)).lt (h.pos _)
variable {P : Program} {l : Frm} {ty : TypeId}
theorem SL.len (h : SL w v k enc xs) : ∃ a c, v = .slice a xs.length c := by
  rcases h.shape with ⟨h1, h2⟩ | ⟨h1, _⟩
  · subst h2; exact ⟨_, _, h1⟩
  · exact ⟨_, _, h1⟩
end
/-! ### worlds that changed -/
/-- but for the blocks of S all that was there is as it was -/
structure Chg (S : Nat → Prop) (w w' : World) : Prop where
  os : w'.os = w.os
  tape : w'.tape = w.tape
  output : w'.output = w.output
  size : w.heap.size ≤ w'.heap.size
  block : ∀ k, k < w.heap.size → ¬ S k → w'.heap[k]? = w.heap[k]?
theorem Chg.refl (S : Nat → Prop) (w : World) : Chg S w w := ⟨rfl, rfl, rfl, Nat.le_refl _, fun _ _ _ => rfl⟩
theorem Chg.of_below {w w' : World} (S : Nat → Prop) (h : Below w.heap.size w w') : Chg S w w' := ⟨h.os, h.tape, h.output, h.size, fun k hk _ => h.block k hk⟩
theorem Chg.trans {S : Nat → Prop} {a b c : World} (h : Chg S a b) (k : Chg S b c) : Chg S a c :=
  ⟨k.os.trans h.os, k.tape.trans h.tape, k.output.trans h.output, Nat.le_trans h.size k.size, fun i hi hS => (k.block i (Nat.lt_of_lt_of_le hi h.size) hS).trans (h.block i hi hS)⟩
theorem Chg.mono {S T : Nat → Prop} {w w' : World} (h : Chg S w w') (hST : ∀ k, k < w.heap.size → S k → T k) : Chg T w w' :=
  ⟨h.os, h.tape, h.output, h.size, fun k hk hT => h.block k hk fun hS => hT (hST k hk hS)⟩
theorem Chg.below {S : Nat → Prop} {B : Nat} {w w' : World} (h : Chg S w w') (hB : B ≤ w.heap.size) (hS : ∀ k, k < B → ¬ S k) : Below B w w' :=
  ⟨h.os, h.tape, h.output, h.size, fun k hk => h.block k (Nat.lt_of_lt_of_le hk hB) (hS k hk)⟩
theorem Chg.cell {S : Nat → Prop} {w w' : World} (h : Chg S w w') {p : Addr} {v : Value} (hc : w.cell? p = some v) (hn : ¬ S p.block) : w'.cell? p = some v := by
  rw [← hc]; exact World.cell?_of_block (w := w) (h.block p.block (cell_lt hc) hn)
theorem Cells.chg {S : Nat → Prop} {w w' : World} {b o : Nat} {vs : List Value} (h : Cells w b o vs) (hc : Chg S w w') (hn : ¬ S b) : Cells w' b o vs := fun i hi => by
  have h1 := h i hi
  rw [List.getElem?_eq_getElem hi] at h1 ⊢
  exact hc.cell h1 hn
theorem SL.chg {α : Type} {S : Nat → Prop} {w w' : World} {v : Value} {k : Nat} {enc : α → List Value} {xs : List α} (h : SL w v k enc xs) (hc : Chg S w w') (hn : 0 < xs.length → ¬ S (sb v)) : SL w' v k enc xs :=
  ⟨h.shape, fun i x hi => (h.cells i x hi).chg hc (hn (by have := (List.getElem?_eq_some_iff.1 hi).1; omega)), h.pos⟩
/-- block b is this row of cells -/
def Blk (w : World) (b : Nat) (cs : List Value) (T : TypeId) : Prop := w.heap[b]? = some (.cells cs.toArray T (0, 0))
theorem Blk.lt {w : World} {b : Nat} {cs : List Value} {T : TypeId} (h : Blk w b cs T) : b < w.heap.size := (Array.getElem?_eq_some_iff.1 h).1
theorem Blk.below {w w' : World} {b : Nat} {cs : List Value} {T : TypeId} (h : Blk w b cs T) (hb : Below w.heap.size w w') : Blk w' b cs T := (hb.block b h.lt).trans h
theorem Blk.chg {S : Nat → Prop} {w w' : World} {b : Nat} {cs : List Value} {T : TypeId} (h : Blk w b cs T) (hc : Chg S w w') (hn : ¬ S b) : Blk w' b cs T := (hc.block b h.lt hn).trans h
theorem Blk.cell {w : World} {b o : Nat} {cs : List Value} {T : TypeId} (h : Blk w b cs T) : w.cell? ⟨b, o, none⟩ = cs[o]? := by
  unfold World.cell?; rw [h]; simp
theorem Blk.cells {w : World} {b o : Nat} {cs vs : List Value} {T : TypeId} (h : Blk w b cs T) (hv : (cs.drop o).take vs.length = vs) : Cells w b o vs := fun i hi => by
  rw [h.cell, ← hv]
  have : i < vs.length := hi
  simp [List.getElem?_take, this, List.getElem?_drop]
section
variable {P : Program} {l : Frm} {w : World} {ty : TypeId}
end
theorem alloc_below (w : World) (o : Obj) : Below w.heap.size w (w.alloc o) := (Below.refl _ _).alloc (Nat.le_refl _) _
theorem alloc_blk (w : World) (cs : List Value) (T : TypeId) : Blk (w.alloc (.cells cs.toArray T)) w.heap.size cs T := by
  show (w.heap.push _)[w.heap.size]? = _; simp
/-! ### calls -/
def Pure (P : Program) (f : FuncId) (args : Array Value) (w : World) (v : Value) : Prop := Calls P f args w fun e w' => e = .returned v ∧ Below w.heap.size w w'
/-- what a call hands back, and what it leaves: nothing that was there has turned -/
def Fn (P : Program) (f : FuncId) (args : Array Value) (w : World) (R : Value → World → Prop) : Prop := Calls P f args w fun e w' => ∃ v, e = .returned v ∧ Below w.heap.size w w' ∧ R v w'
theorem Fn.mono {P : Program} {f : FuncId} {args : Array Value} {w : World} {R R' : Value → World → Prop} (h : Fn P f args w R) (hr : ∀ v w', Below w.heap.size w w' → R v w' → R' v w') : Fn P f args w R' :=
  Calls.mono h fun e w' ⟨v, he, hb, hR⟩ => ⟨v, he, hb, hr v w' hb hR⟩
theorem callsIn_of {P : Program} {r : Option Nat} {n : Nat} {f : FuncId} {args : Array Value} {w : World} {R : Ending → World → Prop} (h : Calls P f args w R) : CallsIn (Fw r) n P f args w R :=
  (callsIn_wide (n := n)).2 h
section
variable {X : Cx} {Q : Exit → Act → World → Prop} {l : Frm} {w w' : World} {ops : Array Oper} {rest : List Oper}
/-! ### guards -/
end
/-! ### functions -/
def enumF : Nat → List Value → Frm
  | _, [] => []
  | n, v :: vs => (n, v) :: enumF (n + 1) vs
section
variable {P : Program} {N : Nat} {l : Frm} {w : World} {fn : Func} {R : Ending → World → Prop} {e : Exit}
def Exit.ends : Exit → Bool | .normal => true | .ret => true | _ => false
end
/-! ### a condition of several parts: both ways meet again -/
section
variable {X : Cx} {Q : Exit → Act → World → Prop} {l : Frm} {w w' : World} {ops : Array Oper} {rest : List Oper}
/-! ### regions that draw their order and only read (or call what only reads and makes new memory) -/
def QS (X : Cx) (w : World) (ops : Array Oper) (K : Act → Prop) (rest : List Oper) (l : Frm) : Prop := ∀ a, Ok X l a → wpQuiet X.P ops (fun w' => Below w.heap.size w w') K rest a
variable {K : Act → Prop}
end
/-! ### a call that only computes -/
theorem Pure.fn {P : Program} {f : FuncId} {args : Array Value} {w : World} {v : Value} (h : Pure P f args w v) : Fn P f args w (fun u _ => u = v) := Calls.mono h fun e w' ⟨he, hb⟩ => ⟨v, he, hb, rfl⟩
section
variable {X : Cx} {Q : Exit → Act → World → Prop} {l : Frm} {w w' : World} {ops : Array Oper} {rest : List Oper}
/-! ### new memory -/
/-! ### stores -/
theorem setCell_chg (w : World) (p : Addr) (v : Value) : Chg (· = p.block) w (w.setCell p v) :=
  ⟨rfl, rfl, rfl, by simp [World.setCell], fun k _ hk => Below.heap_setCell _ _ _ _ hk⟩
def one1 : Value → Bool
  | .agg _ | .tuple _ => false
  | _ => true
def setAll : List Value → Nat → List Value → List Value
  | cs, _, [] => cs
  | cs, o, v :: vs => setAll (cs.set o v) (o + 1) vs
theorem Blk.setCell {w : World} {b o : Nat} {cs : List Value} {T : TypeId} {v : Value} (h : Blk w b cs T) : Blk (w.setCell ⟨b, o, none⟩ v) b (cs.set o v) T := by
  unfold Blk at *
  simp only [World.setCell, Array.getElem?_modify, if_true, h, Option.map_some]
  simp
theorem Blk.frozen {w : World} {b o : Nat} {cs : List Value} {T : TypeId} (h : Blk w b cs T) : w.frozen? ⟨b, o, none⟩ = false := by
  unfold World.frozen?; rw [h]; simp
theorem run_storeCells {P : Program} {b : Nat} {T : TypeId} {o : Nat} : ∀ (vs : List Value) (i : Nat) (cs : List Value) (w : World), Blk w b cs T → (∀ v ∈ vs, one1 v = true) → o + i + vs.length ≤ cs.length →
    ∃ w', (storeCells ⟨b, o, none⟩ vs i).run P w = .ok () w' ∧ Chg (· = b) w w' ∧ Blk w' b (setAll cs (o + i) vs) T
  | [], i, cs, w, hB, _, _ => ⟨w, by simp [storeCells], Chg.refl _ _, hB⟩
  | v :: vs, i, cs, w, hB, hone, hle => by
    simp only [List.length_cons] at hle
    have hv := hone v (by simp)
    have hc : w.cell? ⟨b, o + i, none⟩ = some cs[o + i] := by rw [hB.cell]; exact List.getElem?_eq_getElem (by omega)
    obtain ⟨w', h1, h2, h3⟩ := run_storeCells (P := P) (o := o) vs (i + 1) (cs.set (o + i) v) (w.setCell ⟨b, o + i, none⟩ v) hB.setCell (fun u hu => hone u (by simp [hu])) (by simp; omega)
    refine ⟨w', ?_, (setCell_chg w ⟨b, o + i, none⟩ v).trans h2, h3⟩
    have hst : (Go.store ⟨b, o + i, none⟩ v).run P w = .ok () (w.setCell ⟨b, o + i, none⟩ v) := by
      cases v <;> simp [one1] at hv <;> simp [Go.store, Sem.run, hc, hB.frozen]
    unfold storeCells
    simp only [Sem.run_bind, addr_add, hst, Result.andThen, h1]
end
/-! ### a whole variable is stored -/
theorem setAll_eq : ∀ (vs cs : List Value) (o : Nat), o + vs.length ≤ cs.length → setAll cs o vs = cs.take o ++ vs ++ cs.drop (o + vs.length)
  | [], cs, o, _ => by simp [setAll]
  | v :: vs, cs, o, h => by
    simp only [List.length_cons] at h
    simp only [setAll]
    rw [setAll_eq vs _ _ (by simp; omega)]
    have h1 : (cs.set o v).take (o + 1) = cs.take o ++ [v] := by
      rw [List.take_succ_eq_append_getElem (by simp; omega)]
      simp [List.take_set_of_le]
    have h2 : (cs.set o v).drop (o + 1 + vs.length) = cs.drop (o + 1 + vs.length) := by rw [List.drop_set_of_lt (by omega)]
    rw [h1, h2, List.length_cons, show o + (vs.length + 1) = o + 1 + vs.length by omega]
    simp
section
variable {X : Cx} {Q : Exit → Act → World → Prop} {l : Frm} {w w' : World} {ops : Array Oper} {rest : List Oper}
end
/-! ### small words for the scripts -/
theorem Cells.cell {w : World} {b o : Nat} {vs : List Value} {v : Value} (h : Cells w b o vs) (i : Nat) (hv : vs[i]? = some v) : w.cell? ⟨b, o + i, none⟩ = some v := by
  rw [h i (List.getElem?_eq_some_iff.1 hv).1, hv]
theorem Cells.drop {w : World} {b o : Nat} {vs : List Value} (h : Cells w b o vs) (n : Nat) : Cells w b (o + n) (vs.drop n) := fun i hi => by
  simp only [List.length_drop] at hi
  rw [Nat.add_assoc, h (n + i) (by omega), List.getElem?_drop]
section
variable {α : Type} {X : Cx} {Q : Exit → Act → World → Prop} {l : Frm} {w w' : World} {ops : Array Oper} {rest : List Oper} {v : Value} {k : Nat} {enc : α → List Value} {xs : List α} {K : Act → Prop}
variable {P : Program} {ty : TypeId}
theorem cells_one {v : Value} (h : one1 v = true) : v.cells = #[v] := by cases v <;> simp [one1] at h <;> rfl
end
section
variable {P : Program} {N : Nat} {l : Frm} {w : World} {fn : Func} {R : Ending → World → Prop} {e : Exit}
/-- how one result is read at a function's end -/
inductive RV (P : Program) (l : Frm) (w : World) : ResultVar → Value → Prop
  | tmp {t : Nat} {v : Value} (h : look l t = some v) : RV P l w (.tmp t) v
  | load {t T : Nat} {p : Addr} {v : Value} (h : look l t = some (.pointer (some p))) (hl : (loadVar T p).run P w = .ok v w) : RV P l w (.cell t T) v
theorem RV.cell {t T T' b o : Nat} {cs : List Value} {v : Value} (h : look l t = some (.pointer (some ⟨b, o, none⟩))) (hB : Blk w b cs T') (hT : ∀ w, (isAgg T).run P w = .ok false w) (hv : cs[o]? = some v) : RV P l w (.cell t T) v :=
  .load h (run_loadVar1 hT (hB.cell.trans hv))
theorem RV.cellA {t T T' b o n : Nat} {cs vs : List Value} (h : look l t = some (.pointer (some ⟨b, o, none⟩))) (hB : Blk w b cs T') (hT : ∀ w, (isAgg T).run P w = .ok true w) (hn : ∀ w, (sizeOf T).run P w = .ok n w)
    (hv : (cs.drop o).take n = vs) (hl : vs.length = n) : RV P l w (.cell t T) (.agg vs.toArray) :=
  .load h (run_loadVarA hT hn (hB.cells (by rw [hl]; exact hv)) hl)
/-- one result's reading, as the machine makes it -/
def rdRes (a : Act) : ResultVar → Sem Value
  | .tmp t => pure (a.tmps.getD t undef)
  | .cell c t => do loadVar t (← asAddr (a.tmps.getD c undef))
theorem RV.run {r : ResultVar} {v : Value} {a : Act} {X : Cx} (h : RV P l w r v) (ha : Ok X l a) : (rdRes a r).run P w = .ok v w := by
  cases h with
  | tmp h => simp [rdRes, Array.getD_eq_getD_getElem?, ha.2.2 _ _ h]
  | load h hl => simp [rdRes, Array.getD_eq_getD_getElem?, ha.2.2 _ _ h, asAddr, Sem.run_bind, Result.andThen, hl]
theorem results_eq (fn : Func) (a : Act) : results fn a.tmps = (do let vs ← fn.results.mapM (rdRes a); pure (if h : vs.size = 1 then vs[0] else .tuple vs) : Sem Value) := by
  unfold results
  congr 1
end
/-! ### regions that draw their order: operations that make new memory come in any order; what changes memory comes last, in one order -/
structure HOp where
  fr : Bool
  deps : List Nat
  R : Value → World → Nat → Nat → Prop
def det (deps : List Nat) (v : Value) : HOp := ⟨false, deps, fun u _ _ _ => u = v⟩
def frs (deps : List Nat) (R : Value → World → Nat → Nat → Prop) : HOp := ⟨true, deps, R⟩
def HOp.stab (h : HOp) : Prop := ∀ u w w' lo hi, Below w.heap.size w w' → hi ≤ w.heap.size → h.R u w lo hi → h.R u w' lo hi
def AllStab : List HOp → Prop
  | [] => True
  | h :: hs => h.stab ∧ AllStab hs
/-- how one operation goes, in a frame that has these slots -/
def ExH (P : Program) (o : Oper) (l : Frm) (w : World) (Post : Value → World → Prop) : Prop :=
  ∀ (X : Cx) (a : Act), X.P = P → Ok X l a → (∃ v w', (execOp a.eval o).run P w = .ok (.value v) w' ∧ Below w.heap.size w w' ∧ Post v w') ∨ (∃ f vs, (execOp a.eval o).run P w = .ok (.enter f vs) w ∧ Fn P f vs w Post)
def Obl (P : Program) (os : List Oper) (hs : List HOp) (w : World) (o : Oper) (R : Value → World → Nat → Nat → Prop) : List Nat → Frm → Prop
  | [], l => ExH P o l w (fun v w' => R v w' w.heap.size w'.heap.size)
  | e :: es, l => match hs[e]?, (os[e]?).bind (·.dst) with
    | some h, some d => ∀ v lo hi, hi ≤ w.heap.size → h.R v w lo hi → Obl P os hs w o R es ((d, v) :: l)
    | _, _ => False
def Obls (P : Program) (os : List Oper) (hs : List HOp) (l0 : Frm) (w0 : World) : List Oper → List HOp → Prop
  | o :: os', h :: hs' => (∀ w, Below w0.heap.size w0 w → Obl P os hs w o h.R h.deps l0) ∧ Obls P os hs l0 w0 os' hs'
  | _, _ => True
def Fin (B : Nat) (w : World) (K : Frm → Prop) : List Oper → List HOp → List (Nat × Nat) → Frm → Prop
  | o :: os, h :: hs, ivs, l => match o.dst with
    | some d => ∀ v lo hi, h.R v w lo hi → B ≤ lo → lo ≤ hi → hi ≤ w.heap.size → (∀ iv ∈ ivs, hi ≤ iv.1 ∨ iv.2 ≤ lo) → Fin B w K os hs (if h.fr then (lo, hi) :: ivs else ivs) ((d, v) :: l)
    | none => False
  | _, _, _, l => K l
def waits (o : Oper) (j : Nat) : Bool := o.after.any fun e => Region.binds .any e && Nat.beq e.on j
def backOk (o : Oper) (i : Nat) : Bool := o.after.all fun e => !Region.binds .any e || Nat.blt e.on i
def noSel (o : Oper) : Bool := match o.guard with | none => true | _ => false
/-- heads: guards none, a slot of its own that the frame does not know, what it reads is waited for; tails wait for all before them -/
def headsChk (l0 : Frm) (n : Nat) : List Oper → List (List Nat) → Nat → List Nat → Bool
  | o :: os, ds :: dss, i, seen => noSel o && backOk o i && (match o.dst with
      | some d => !(seen.contains d) && (look l0 d).isNone && headsChk l0 n os dss (i + 1) (d :: seen)
      | none => false) && ds.all (fun e => Nat.blt e n && waits o e)
  | [], [], _, _ => true
  | _, _, _, _ => false
def tailsChk : List Oper → Nat → Bool
  | o :: os, i => noSel o && backOk o i && (List.range i).all (fun j => waits o j) && tailsChk os (i + 1)
  | [], _ => true
section
variable {X : Cx} {Q : Exit → Act → World → Prop} {l : Frm} {w w' : World}
theorem backOk_spec {o : Oper} {i : Nat} (h : backOk o i = true) : ∀ e ∈ o.after, Region.binds .any e = true → e.on < i := fun e he hb => by
  unfold backOk at h
  rw [Array.all_eq_true_iff_forall_mem] at h
  have := h e he
  simpa [hb, Nat.blt_eq] using this
theorem cnt_set : ∀ (L : List Bool) (i : Nat), L[i]? = some false → (L.set i true).count false + 1 = L.count false
  | [], i, h => by simp at h
  | b :: L, 0, h => by simp at h; subst h; simp
  | b :: L, i + 1, h => by
    have := cnt_set L i (by simpa using h)
    simp only [List.set_cons_succ, List.count_cons]
    omega
theorem listed_get {listed : Array Bool} {i : Nat} (h : listed.getD i true = false) : listed.toList[i]? = some false := by
  rw [Array.getD_eq_getD_getElem?] at h
  rw [Array.getElem?_toList]
  cases hx : listed[i]? with
  | none => rw [hx] at h; simp at h
  | some b => rw [hx] at h; simp at h; rw [h]
/-- whom an operation waits for, all steps together, as bits -/
def maskOf (acc : List Nat) (o : Oper) : Nat := o.after.toList.foldl (fun s e => if Region.binds .any e then s ||| (1 <<< e.on) ||| acc.getD e.on 0 else s) 0
def masks : List Oper → List Nat → List Nat
  | [], acc => acc
  | o :: os, acc => masks os (acc ++ [maskOf acc o])
def Closed (os : List Oper) (listed : Array Bool) : Prop := ∀ i o, listed.getD i false = true → os[i]? = some o → ∀ e ∈ o.after, Region.binds .any e = true → listed.getD e.on false = true
theorem maskOf_spec {acc : List Nat} {o : Oper} {j : Nat} (h : (maskOf acc o).testBit j = true) : ∃ e ∈ o.after, Region.binds .any e = true ∧ (e.on = j ∨ (acc.getD e.on 0).testBit j = true) := by
  unfold maskOf at h
  have key : ∀ (l : List Edge) (s : Nat), (l.foldl (fun s e => if Region.binds .any e then s ||| (1 <<< e.on) ||| acc.getD e.on 0 else s) s).testBit j = true →
      s.testBit j = true ∨ ∃ e ∈ l, Region.binds .any e = true ∧ (e.on = j ∨ (acc.getD e.on 0).testBit j = true) := by
    intro l
    induction l with
    | nil => intro s h; exact .inl h
    | cons e l ih =>
      intro s h
      simp only [List.foldl_cons] at h
      rcases ih _ h with h' | ⟨e', he', hb⟩
      · by_cases hb : Region.binds .any e = true
        · simp only [hb, if_true, Nat.testBit_or, Bool.or_eq_true] at h'
          rcases h' with (h' | h') | h'
          · exact .inl h'
          · refine .inr ⟨e, by simp, hb, .inl ?_⟩
            rw [Nat.one_shiftLeft, Nat.testBit_two_pow] at h'
            simpa using h'
          · exact .inr ⟨e, by simp, hb, .inr h'⟩
        · simp only [hb, Bool.false_eq_true, if_false] at h'
          exact .inl h'
      · exact .inr ⟨e', by simp [he'], hb⟩
  rcases key _ _ h with h | ⟨e, he, hb⟩
  · simp at h
  · exact ⟨e, Array.mem_toList_iff.1 he, hb⟩
theorem masks_spec {os : List Oper} {listed : Array Bool} (hc : Closed os listed) : ∀ (rest : List Oper) (acc : List Nat), os.drop acc.length = rest →
    (∀ k o, k < acc.length → os[k]? = some o → (∀ e ∈ o.after, Region.binds .any e = true → listed.getD e.on false = true) → ∀ j, (acc.getD k 0).testBit j = true → listed.getD j false = true) →
    ∀ k o, os[k]? = some o → (∀ e ∈ o.after, Region.binds .any e = true → listed.getD e.on false = true) → ∀ j, ((masks rest acc).getD k 0).testBit j = true → listed.getD j false = true
  | [], acc, hr, hacc => fun k o ho hd j hj => by
    simp only [masks] at hj
    by_cases hk : k < acc.length
    · exact hacc k o hk ho hd j hj
    · simp [List.getD_eq_getElem?_getD, List.getElem?_eq_none (Nat.le_of_not_lt hk)] at hj
  | x :: rest, acc, hr, hacc => fun k o ho hd j hj => by
    simp only [masks] at hj
    refine masks_spec hc rest (acc ++ [maskOf acc x]) (by rw [List.length_append, ← List.drop_drop, hr]; rfl) (fun k o hk ho hd j hj => ?_) k o ho hd j hj
    simp only [List.length_append, List.length_cons, List.length_nil] at hk
    by_cases hk' : k < acc.length
    · rw [List.getD_eq_getElem?_getD, List.getElem?_append_left hk', ← List.getD_eq_getElem?_getD] at hj
      exact hacc k o hk' ho hd j hj
    · have hkeq : k = acc.length := by omega
      subst hkeq
      have hx : os[acc.length]? = some x := by have := congrArg (·[0]?) hr; simpa using this
      rw [hx] at ho; cases ho
      simp [List.getD_eq_getElem?_getD] at hj
      obtain ⟨e, he, hb, hj'⟩ := maskOf_spec hj
      have hl := hd e he hb
      rcases hj' with rfl | hj'
      · exact hl
      · by_cases hek : e.on < acc.length
        · obtain ⟨oe, hoe⟩ : ∃ oe, os[e.on]? = some oe := by
            have h1 : os.length = acc.length + (x :: rest).length := by
              have := congrArg List.length hr; simp only [List.length_drop] at this
              have : acc.length < os.length := (List.getElem?_eq_some_iff.1 hx).1
              simp only [List.length_cons] at *; omega
            exact ⟨_, List.getElem?_eq_getElem (by omega)⟩
          exact hacc e.on oe hek hoe (fun e' he' hb' => hc e.on oe hl hoe e' he' hb') j hj'
        · rw [List.getD_eq_getElem?_getD, List.getElem?_eq_none (Nat.le_of_not_lt hek)] at hj'
          simp at hj'
def waitsT (os : List Oper) (k j : Nat) : Bool := ((masks os []).getD k 0).testBit j
theorem waitsT_spec {os : List Oper} {listed : Array Bool} {k j : Nat} {o : Oper} (hc : Closed os listed) (ho : os[k]? = some o) (hd : ∀ e ∈ o.after, Region.binds .any e = true → listed.getD e.on false = true) (h : waitsT os k j = true) : listed.getD j false = true :=
  masks_spec hc os [] rfl (fun k o hk => by simp at hk) k o ho hd j h
theorem Closed.set {os : List Oper} {listed : Array Bool} {i : Nat} {o : Oper} (hc : Closed os listed) (ho : os[i]? = some o) (hd : ∀ e ∈ o.after, Region.binds .any e = true → listed.getD e.on false = true) : Closed os (listed.setIfInBounds i true) := fun k x hk hx e he hb => by
  by_cases hki : i = k
  · subst hki; rw [ho] at hx; cases hx; exact getD_set_true (hd e he hb)
  · rw [getD_set_ne false hki] at hk; exact getD_set_true (hc k x hk hx e he hb)
/-- what is known when some heads have run -/
structure HSt (X : Cx) (os : List Oper) (hs : List HOp) (n : Nat) (l0 : Frm) (w0 : World) (listed : Array Bool) (a : Act) (w : World) (val : Nat → Value) (lo hi : Nat → Nat) : Prop where
  ok : Ok X l0 a
  below : Below w0.heap.size w0 w
  got : ∀ (i : Nat) (h : HOp) (d : Nat), listed.getD i false = true → hs[i]? = some h → (os[i]?).bind (·.dst) = some d → a.tmps[d]? = some (val i) ∧ h.R (val i) w (lo i) (hi i) ∧ w0.heap.size ≤ lo i ∧ lo i ≤ hi i ∧ hi i ≤ w.heap.size
  apart : ∀ i j, listed.getD i false = true → listed.getD j false = true → i ≠ j → hi i ≤ lo j ∨ hi j ≤ lo i
  top : ∀ i, listed.getD i false = true → hi i ≤ w.heap.size
  closed : Closed os listed
/-- a guard that is on: the head that it names yields what it wants -/
def GOk (os : List Oper) (hs : List HOp) (n : Nat) (o : Oper) : Prop := ∃ j want h d, o.guard = some (j, want) ∧ hs[j]? = some h ∧ (os[j]?).bind (·.dst) = some d ∧ waits o j = true ∧ ∀ u w lo hi, h.R u w lo hi → u = .bool want
structure HChk (N : Nat) (os : List Oper) (hs : List HOp) (n : Nat) (l0 : Frm) : Prop where
  len : hs.length = n
  le : n ≤ os.length
  head : ∀ (i : Nat) (o : Oper), i < n → os[i]? = some o → (noSel o = true ∨ GOk os hs n o) ∧ backOk o i = true ∧ ∃ d, o.dst = some d ∧ look l0 d = none ∧ d < N
  distinct : ∀ (i j d : Nat), i < n → j < n → (os[i]?).bind (·.dst) = some d → (os[j]?).bind (·.dst) = some d → i = j
  deps : ∀ (i : Nat) (o : Oper) (h : HOp), os[i]? = some o → hs[i]? = some h → ∀ e ∈ h.deps, e < n ∧ waits o e = true
  tail : ∀ (k : Nat) (o : Oper), n ≤ k → os[k]? = some o → noSel o = true ∧ backOk o k = true ∧ ∀ j, j < k → waitsT os k j = true
theorem AllStab.get : ∀ {hs : List HOp} {i : Nat} {h : HOp}, AllStab hs → hs[i]? = some h → h.stab
  | [], i, h, _, hi => by simp at hi
  | g :: hs, 0, h, hs', hi => by simp at hi; subst hi; exact hs'.1
  | g :: hs, i + 1, h, hs', hi => AllStab.get hs'.2 (by simpa using hi)
theorem Obls.get {P : Program} {os : List Oper} {hs : List HOp} {l0 : Frm} {w0 : World} : ∀ {os' : List Oper} {hs' : List HOp} {i : Nat} {o : Oper} {h : HOp}, Obls P os hs l0 w0 os' hs' → os'[i]? = some o → hs'[i]? = some h → ∀ w, Below w0.heap.size w0 w → Obl P os hs w o h.R h.deps l0
  | [], _, i, o, h, _, ho, _ => by simp at ho
  | _ :: _, [], i, o, h, _, _, hh => by simp at hh
  | x :: os', g :: hs', 0, o, h, hob, ho, hh => by simp at ho hh; subst ho; subst hh; exact hob.1
  | x :: os', g :: hs', i + 1, o, h, hob, ho, hh => Obls.get hob.2 (by simpa using ho) (by simpa using hh)
/-- an obligation, with what its operation reads already there -/
theorem Obl.run {os : List Oper} {hs : List HOp} {w : World} {o : Oper} {R : Value → World → Nat → Nat → Prop} {a : Act} {val : Nat → Value} {lo hi : Nat → Nat} : ∀ {ds : List Nat} {l : Frm}, Obl X.P os hs w o R ds l → Ok X l a →
    (∀ e ∈ ds, ∀ h d, hs[e]? = some h → (os[e]?).bind (·.dst) = some d → a.tmps[d]? = some (val e) ∧ h.R (val e) w (lo e) (hi e) ∧ hi e ≤ w.heap.size) →
    ∃ l', Ok X l' a ∧ ExH X.P o l' w (fun v w' => R v w' w.heap.size w'.heap.size)
  | [], l, h, hok, _ => ⟨l, hok, h⟩
  | e :: ds, l, h, hok, hd => by
    simp only [Obl] at h
    split at h
    · rename_i g d hg hdst
      obtain ⟨h1, h2, h3⟩ := hd e (by simp) g d hg hdst
      refine Obl.run (h (val e) (lo e) (hi e) h3 h2) ⟨hok.1, hok.2.1, fun t v ht => ?_⟩ (fun e' he' => hd e' (by simp [he']))
      simp only [look] at ht
      by_cases q : d = t
      · subst q; rw [show Nat.beq d d = true from Nat.beq_refl d] at ht; simp only [cond_true, Option.some.injEq] at ht; rw [← ht]; exact h1
      · rw [beq_ne q] at ht; exact hok.2.2 t v ht
    · exact h.elim
/-- the check, by reckoning -/
def anyChkS (sel : Oper → Bool) (N n : Nat) (l0 : Frm) (os : List Oper) (dss : List (List Nat)) (ms : List Nat) : Bool :=
  Nat.beq dss.length n && Nat.ble n os.length && (os.take n).zipIdx.all (fun (o, i) => sel o && backOk o i && (match o.dst with | some d => (look l0 d).isNone && Nat.blt d N && ((os.take n).zipIdx.all fun (o', j) => Nat.beq i j || (match o'.dst with | some d' => !Nat.beq d d' | none => true)) | none => false)) &&
  (os.zip dss).all (fun (o, ds) => ds.all fun e => Nat.blt e n && waits o e) && os.zipIdx.all (fun (o, k) => Nat.blt k n || (noSel o && backOk o k && (List.range k).all fun j => (ms.getD k 0).testBit j))
def anyChk (N n : Nat) (l0 : Frm) (os : List Oper) (dss : List (List Nat)) : Bool := anyChkS noSel N n l0 os dss (masks os [])
def anySel (_ : Oper) : Bool := true
/-- the guards of the heads are on -/
def GOns (os : List Oper) (hs : List HOp) (n : Nat) : List Oper → Nat → Prop
  | o :: os', m + 1 => (noSel o = true ∨ GOk os hs n o) ∧ GOns os hs n os' m
  | _, _ => True
theorem GOns.get {os : List Oper} {hs : List HOp} {n : Nat} : ∀ {os' : List Oper} {m i : Nat} {o : Oper}, GOns os hs n os' m → i < m → os'[i]? = some o → noSel o = true ∨ GOk os hs n o
  | [], m, i, o, _, _, ho => by simp at ho
  | x :: os', 0, i, o, _, hi, _ => by omega
  | x :: os', m + 1, 0, o, h, _, ho => by simp at ho; subst ho; exact h.1
  | x :: os', m + 1, i + 1, o, h, hi, ho => GOns.get (m := m) (i := i) h.2 (Nat.lt_of_succ_lt_succ hi) (by simpa using ho)
end
/-! ### function values -/
def isNilF : Value → Bool | .nilFunc => true | _ => false
section
variable {P : Program} {X : Cx} {Q : Exit → Act → World → Prop} {l : Frm} {w w' : World} {ops : Array Oper} {rest : List Oper} {ty : TypeId}
end
/-- the blocks from lo to hi lie as they lay -/
structure Keep (lo hi : Nat) (w w' : World) : Prop where
  size : w.heap.size ≤ w'.heap.size
  block : ∀ k, lo ≤ k → k < hi → w'.heap[k]? = w.heap[k]?
theorem Keep.trans {lo hi : Nat} {a b c : World} (h : Keep lo hi a b) (k : Keep lo hi b c) : Keep lo hi a c := ⟨Nat.le_trans h.size k.size, fun i h1 h2 => (k.block i h1 h2).trans (h.block i h1 h2)⟩
theorem Keep.of_below {lo hi B : Nat} {w w' : World} (h : Below B w w') (hle : hi ≤ B) : Keep lo hi w w' := ⟨h.size, fun k _ hk => h.block k (Nat.lt_of_lt_of_le hk hle)⟩
theorem Keep.refl (lo hi : Nat) (w : World) : Keep lo hi w w := ⟨Nat.le_refl _, fun _ _ _ => rfl⟩
theorem Blk.keep {lo hi : Nat} {w w' : World} {b : Nat} {cs : List Value} {T : TypeId} (h : Blk w b cs T) (hk : Keep lo hi w w') (h1 : lo ≤ b) (h2 : b < hi) : Blk w' b cs T := (hk.block b h1 h2).trans h
/-! ### slices of array variables -/
section
variable {P : Program} {l : Frm} {w : World} {ty : TypeId}
end
def AllocR (cs : List Value) (T : TypeId) (u : Value) (w : World) (lo hi : Nat) : Prop := ∃ b, u = .pointer (some ⟨b, 0, none⟩) ∧ Blk w b cs T ∧ lo ≤ b ∧ b < hi
theorem AllocR.stab (cs : List Value) (T : TypeId) (ds : List Nat) : (frs ds (AllocR cs T)).stab := fun _ _ _ _ _ hb _ ⟨b, h1, h2, h3, h4⟩ => ⟨b, h1, h2.below hb, h3, h4⟩
end Go.Mi
