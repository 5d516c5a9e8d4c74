/- Deep data: operations that read and write. -/
import Derived.Test.YtpcgfeckokgbfaaGreatDoorJc
set_option linter.all false
namespace Go.Dp
open Go Go.Mi Go.RowKit
def V.one : V → Bool
  | .p x => x.one
  | .agg _ => false
  | .tup _ => false
  | _ => true
def V.cells : V → List V
  | .agg cs => cs
  | d => [d]
def setAllV : List V → Nat → List V → List V
  | cs, _, [] => cs
  | cs, o, d :: ds => setAllV (cs.set o d) (o + 1) ds
section
variable {g : Gh} {w : World} {H : List Ob}
theorem RV.one {d : V} {v : Value} (h : RV g w H d v) (h1 : d.one = true) : one1 v = true := by
  cases h with
  | p h => exact h.one h1
  | tk h => exact RP.one (x := .sl _ _ _) h rfl
  | agg h => cases h1
  | tup h => cases h1
  | gs h _ => exact h
  | gp h _ => exact h
  | _ => rfl
theorem RV.cells {d : V} {v : Value} (h : RV g w H d v) (h1 : d.cells.all V.one = true) : ∃ vs : List Value, v.cells = vs.toArray ∧ RVs g w H d.cells vs ∧ (∀ u ∈ vs, one1 u = true) := by
  have single : d.cells = [d] → ∃ vs : List Value, v.cells = vs.toArray ∧ RVs g w H d.cells vs ∧ (∀ u ∈ vs, one1 u = true) := fun e => by
    rw [e] at h1 ⊢
    have ho := h.one (by simpa using h1)
    exact ⟨[v], by rw [cells_one ho], .cons h .nil, by simpa using ho⟩
  cases h with
  | @agg cs vs h =>
    refine ⟨vs, rfl, h, fun u hu => ?_⟩
    obtain ⟨j, hj⟩ := List.getElem?_of_mem hu
    have hjl : j < cs.length := by have := (List.getElem?_eq_some_iff.1 hj).1; have := h.len; omega
    obtain ⟨u', e, hr⟩ := h.get (List.getElem?_eq_getElem hjl)
    rw [hj] at e; cases e
    exact hr.one (List.all_eq_true.1 h1 _ (List.getElem_mem _))
  | p h => exact single rfl
  | tk h ht => exact single rfl
  | ref hl => exact single rfl
  | el u hE hb hu h => exact single rfl
  | arr hl => exact single rfl
  | map hl => exact single rfl
  | fn h1 h2 => exact single rfl
  | yld hl => exact single rfl
  | z => exact single rfl
  | gs h2 h => exact single rfl
  | gp h2 h => exact single rfl
  | tup h => exact single rfl
theorem RVs.setAll : ∀ {ds : List V} {vs : List Value} {o : Nat} {cs : List V} {us : List Value}, RVs g w H cs us → RVs g w H ds vs → RVs g w H (setAllV cs o ds) (Mi.setAll us o vs)
  | _, _, o, cs, us, h, .nil => h
  | _, _, o, cs, us, h, .cons (d := d) (v := v) hd hs => RVs.setAll (o := o + 1) (cs := cs.set o d) (us := us.set o v) (h.set hd) hs
theorem RVs.one {ds : List V} {vs : List Value} (h : RVs g w H ds vs) (h1 : ds.all V.one = true) : ∀ u ∈ vs, one1 u = true := fun u hu => by
  obtain ⟨j, hj⟩ := List.getElem?_of_mem hu
  have hjl : j < ds.length := by have := (List.getElem?_eq_some_iff.1 hj).1; have := h.len; omega
  obtain ⟨u', e, hr⟩ := h.get (List.getElem?_eq_getElem hjl)
  rw [hj] at e; cases e
  exact hr.one (List.all_eq_true.1 h1 _ (List.getElem_mem _))
theorem el_get {cs : List P} {v : Value} (h : RV g w H (.el cs) v) : ∃ b o us, v = .pointer (some ⟨b, o, none⟩) ∧ o + cs.length ≤ g.E b ∧ b < w.heap.size ∧ RPs g.E w cs us ∧ ∀ j u, us[j]? = some u → w.cell? ⟨b, o + j, none⟩ = some u := by
  cases h with
  | @el cs b o u hE hb hu h =>
    refine ⟨b, o, (List.range cs.length).map u, rfl, hE, hb, ⟨by simp, fun j c x hj hx => ?_⟩, fun j x hx => ?_⟩
    · rw [List.getElem?_map, Option.map_eq_some_iff] at hx
      obtain ⟨i, hi, e⟩ := hx
      obtain ⟨hlt, he⟩ := (List.getElem?_eq_some_iff.1 hi)
      rw [List.getElem_range] at he
      subst he; subst e; exact h j c hj
    · rw [List.getElem?_map, Option.map_eq_some_iff] at hx
      obtain ⟨i, hi, e⟩ := hx
      obtain ⟨hlt, he⟩ := (List.getElem?_eq_some_iff.1 hi)
      rw [List.getElem_range] at he
      subst he; subst e
      exact hu j (by simpa using hlt)
theorem el_mk {cs : List P} {us : List Value} {b o : Nat} (h : RPs g.E w cs us) (hE : o + cs.length ≤ g.E b) (hb : b < w.heap.size) (hu : ∀ j u, us[j]? = some u → w.cell? ⟨b, o + j, none⟩ = some u) : RV g w H (.el cs) (.pointer (some ⟨b, o, none⟩)) := by
  refine .el (fun j => us.getD j undef) hE hb (fun j hj => ?_) (fun j c hj => ?_)
  · have hjl : j < us.length := by have := h.1; omega
    rw [hu j us[j] (List.getElem?_eq_getElem hjl)]; simp [List.getD, List.getElem?_eq_getElem hjl]
  · have hjl : j < us.length := by have := (List.getElem?_eq_some_iff.1 hj).1; have := h.1; omega
    have := h.2 j c us[j] hj (List.getElem?_eq_getElem hjl)
    simpa [List.getD, List.getElem?_eq_getElem hjl] using this
theorem RPs.drop {E : Nat → Nat} {cs : List P} {us : List Value} (h : RPs E w cs us) (n : Nat) : RPs E w (cs.drop n) (us.drop n) :=
  ⟨by simp [h.1], fun j c u h1 h2 => h.2 (n + j) c u (by rw [← List.getElem?_drop]; exact h1) (by rw [← List.getElem?_drop]; exact h2)⟩
theorem RPs.take {E : Nat → Nat} {cs : List P} {us : List Value} (h : RPs E w cs us) (n : Nat) : RPs E w (cs.take n) (us.take n) :=
  ⟨by simp [h.1], fun j c u h1 h2 => h.2 j c u (by rw [List.getElem?_take] at h1; split at h1; exact h1; cases h1) (by rw [List.getElem?_take] at h2; split at h2; exact h2; cases h2)⟩
theorem RPs.rvs : ∀ {cs : List P} {us : List Value}, RPs g.E w cs us → RVs g w H (cs.map .p) us
  | [], [], _ => .nil
  | [], _ :: _, h => by have := h.1; simp at this
  | _ :: _, [], h => by have := h.1; simp at this
  | c :: cs, u :: us, h => .cons (.p (h.2 0 c u rfl rfl)) (RPs.rvs ⟨by have := h.1; simpa using this, fun j c' u' h1 h2 => h.2 (j + 1) c' u' (by simpa using h1) (by simpa using h2)⟩)
end
/-- a slice that can be read -/
def V.slc : V → Option (Nat × Nat × List P)
  | .p (.sl k n cs) => some (k, n, cs)
  | .tk k n cs _ _ => some (k, n, cs)
  | _ => none
theorem RV.slc {g : Gh} {w : World} {H : List Ob} {d : V} {v : Value} {k n : Nat} {cs : List P} (h : RV g w H d v) (hd : d.slc = some (k, n, cs)) : RP g.E w (.sl k n cs) v := by
  cases h with
  | p h =>
    rename_i x
    cases x with
    | v x => cases hd
    | sl k' n' cs' => cases hd; exact h
  | tk h ht => cases hd; exact h
  | _ => cases hd
section
variable {Pg : Program} {ty : TypeId} {ρ : Operand → Option V}
theorem i_fieldR {S : TypeId} {f off i o : Nat} {x : Operand} (hf : ∀ w a, (Instr.fieldAt S (.pointer (some a)) f).run Pg w = .ok (.pointer (some (a.add off))) w) (hx : ρ x = some (.ref i o)) : It Pg (.fieldAddr S x f) ty ρ [] [] (.ref i (o + off)) := .pure fun g w H e q hq _ _ h => by
  have e1 := h x (by simp [Op.operands]) _ hx
  generalize he : e x = v at e1
  cases e1 with | ref hl => exact ⟨.pointer (some ⟨g.β i, o + off, none⟩), by unfold execOp; rw [hq]; simp [he, hf, Sem.run_bind, Result.andThen, addr_add], .ref hl⟩
theorem i_fieldE {S : TypeId} {f off : Nat} {x : Operand} {cs : List P} (hf : ∀ w a, (Instr.fieldAt S (.pointer (some a)) f).run Pg w = .ok (.pointer (some (a.add off))) w) (hx : ρ x = some (.el cs)) (hl : Nat.ble off cs.length = true) : It Pg (.fieldAddr S x f) ty ρ [] [] (.el (cs.drop off)) := .pure fun g w H e q hq _ _ h => by
  have e1 := h x (by simp [Op.operands]) _ hx
  have hl := Nat.le_of_ble_eq_true hl
  obtain ⟨b, o, us, he, h1, h2, h3, h4⟩ := el_get e1
  refine ⟨.pointer (some ⟨b, o + off, none⟩), by unfold execOp; rw [hq]; simp [he, hf, Sem.run_bind, Result.andThen, addr_add], el_mk (h3.drop off) (by simp; omega) h2 fun j u hj => ?_⟩
  rw [List.getElem?_drop] at hj
  rw [Nat.add_assoc]; exact h4 _ _ hj
theorem i_loadE {T : TypeId} {x : Operand} {cs : List P} {c : P} (hT : ∀ w, (isAgg T).run Pg w = .ok false w) (hx : ρ x = some (.el cs)) (hc : cs[0]? = some c) : It Pg (.load T x) ty ρ [] [] (.p c) := .pure fun g w H e q hq _ _ h => by
  obtain ⟨b, o, us, he, h1, h2, h3, h4⟩ := el_get (h x (by simp [Op.operands]) _ hx)
  have hl : 0 < us.length := by have := (List.getElem?_eq_some_iff.1 hc).1; have := h3.1; omega
  have hu := List.getElem?_eq_getElem hl
  exact ⟨us[0], by unfold execOp; rw [hq]; simp [he, Instr.loadAt, Instr.sureAddr, Sem.run_bind, Result.andThen, run_loadVar1 hT (show w.cell? ⟨b, o, none⟩ = some us[0] from h4 0 _ hu)], .p (h3.2 0 c _ hc hu)⟩
theorem i_loadEA {T n : Nat} {x : Operand} {cs : List P} (hT : ∀ w, (isAgg T).run Pg w = .ok true w) (hn : ∀ w, (sizeOf T).run Pg w = .ok n w) (hx : ρ x = some (.el cs)) (hl : Nat.ble n cs.length = true) : It Pg (.load T x) ty ρ [] [] (.agg ((cs.take n).map .p)) := .pure fun g w H e q hq _ _ h => by
  obtain ⟨b, o, us, he, h1, h2, h3, h4⟩ := el_get (h x (by simp [Op.operands]) _ hx)
  have hl := Nat.le_of_ble_eq_true hl
  have hul := h3.1
  have hC : Cells w b o (us.take n) := fun j hj => by
    rw [List.length_take] at hj
    have hu : us[j]? = some us[j] := List.getElem?_eq_getElem (by omega)
    rw [h4 j _ hu, List.getElem?_take, if_pos (by omega), hu]
  exact ⟨_, by unfold execOp; rw [hq]; simp [he, Instr.loadAt, Instr.sureAddr, Sem.run_bind, Result.andThen, run_loadVarA hT hn hC (by simp; omega)], .agg (h3.take n).rvs⟩
/-- what an object holds is read -/
theorem It.read {op : Op} {d : V} {i : Nat} {ob : Ob} (h : ∀ (g : Gh) (w : World) (H : List Ob) (e : Operand → Value) (o : Oper), o.op = op → o.type = ty → Rs0 g w H → H[i]? = some ob → (∀ x ∈ op.operands, ∀ u, ρ x = some u → RV g w H u (e x)) →
    ∃ v, (execOp e o).run Pg w = .ok (.value v) w ∧ RV g w H d v) : It Pg op ty ρ [(i, ob)] [] d := fun g w H e o ho ht hr hrd hf => by
  obtain ⟨v, h1, h2⟩ := h g w H e o ho ht hr hrd.one hf
  exact .inl ⟨v, w, h1, g, hr.rs, h2⟩
theorem i_loadR {T T' i off : Nat} {x : Operand} {cs : List V} {d : V} (hT : ∀ w, (isAgg T).run Pg w = .ok false w) (hx : ρ x = some (.ref i off)) (hd : cs[off]? = some d) : It Pg (.load T x) ty ρ [(i, .cells T' cs)] [] d := .read fun g w H e q hq _ hr hi h => by
  have e1 := h x (by simp [Op.operands]) _ hx
  obtain ⟨us, hB, hc, _⟩ := hr.ob i _ hi
  obtain ⟨v, hv, hrv⟩ := hc.get hd
  generalize he : e x = u at e1
  cases e1 with | ref hl => exact ⟨v, by unfold execOp; rw [hq]; simp [he, Instr.loadAt, Instr.sureAddr, Sem.run_bind, Result.andThen, run_loadVar1 hT ((hB.cell (o := off)).trans hv)], hrv⟩
theorem i_loadRA {T T' n i off : Nat} {x : Operand} {cs : List V} (hT : ∀ w, (isAgg T).run Pg w = .ok true w) (hn : ∀ w, (sizeOf T).run Pg w = .ok n w) (hx : ρ x = some (.ref i off)) (hl : Nat.ble (off + n) cs.length = true) : It Pg (.load T x) ty ρ [(i, .cells T' cs)] [] (.agg ((cs.drop off).take n)) := .read fun g w H e q hq _ hr hi h => by
  have e1 := h x (by simp [Op.operands]) _ hx
  obtain ⟨us, hB, hc, _⟩ := hr.ob i _ hi
  have hl := Nat.le_of_ble_eq_true hl
  have hul := hc.len
  have hC : Cells w (g.β i) off ((us.drop off).take n) := fun j hj => by
    rw [List.length_take] at hj
    rw [hB.cell, List.getElem?_take, if_pos (by omega), List.getElem?_drop]
  generalize he : e x = u at e1
  cases e1 with | ref hv => exact ⟨_, by unfold execOp; rw [hq]; simp [he, Instr.loadAt, Instr.sureAddr, Sem.run_bind, Result.andThen, run_loadVarA hT hn hC (by simp; omega)], .agg ((hc.drop off).take n)⟩
theorem i_store {T T' n i off : Nat} {x y : Operand} {cs : List V} {d : V} (hn : ∀ w, (sizeOf T).run Pg w = .ok n w) (hx : ρ x = some (.ref i off)) (hy : ρ y = some d) (h1 : d.cells.all V.one = true) (hln : d.cells.length = n) (hle : Nat.ble (off + n) cs.length = true) :
    It Pg (.store T x y) ty ρ [(i, .cells T' cs)] [(i, .cells T' (setAllV cs off d.cells))] (.p (.v undef)) := fun g w H e q hq _ hr hrd h => by
  have e1 := h x (by simp [Op.operands]) _ hx
  have e2 := h y (by simp [Op.operands]) _ hy
  obtain ⟨vs, hvs, hrv, hone⟩ := e2.cells h1
  obtain ⟨us, hB, hc, _⟩ := hr.ob i _ hrd.one
  have hle := Nat.le_of_ble_eq_true hle
  have hl1 := hrv.len
  have hl2 := hc.len
  obtain ⟨w', r1, r2, r3⟩ := run_storeCells (P := Pg) (o := off) vs 0 us w hB hone (by omega)
  generalize he : e x = u at e1
  cases e1 with
  | ref hv =>
    refine .inr (.inl ⟨w', ?_, g, Rs.write hr hrd.one r2 r3 (RVs.setAll hc hrv), .v undef⟩)
    unfold execOp; rw [hq]
    simp [he, Instr.storeAt, Instr.sureAddr, storeVar, hn, hvs, hln, ← hl1, Sem.run_bind, Result.andThen, r1]
theorem i_box {T i : Nat} {x : Operand} {d : V} (hx : ρ x = some d) (h1 : d.cells.all V.one = true) : It Pg (.box T x) ty ρ [(i, .dead)] [(i, .cells T d.cells)] (.ref i 0) := fun g w H e q hq _ hr hrd h => by
  obtain ⟨vs, hvs, hrv, hone⟩ := (h x (by simp [Op.operands]) _ hx).cells h1
  have hi := hrd.one
  refine .inl ⟨.pointer (some ⟨w.heap.size, 0, none⟩), w.alloc (.cells vs.toArray T), ?_, _, Rs.var hr hi hrv, ?_⟩
  · unfold execOp; rw [hq]
    simp [Instr.box, newVar, newRow, newObj, Sem.run_bind, Sem.run, Result.andThen, hvs]
  · have := RV.ref (g := ⟨upd g.β i w.heap.size, upd g.E w.heap.size 0, g.h⟩) (w := w.alloc (.cells vs.toArray T)) (H := setW H [(i, .cells T d.cells)]) (i := i) (off := 0) (by unfold live; show liveO (H.set i _)[i]?; rw [set_eq (List.getElem?_eq_some_iff.1 hi).1]; trivial)
    simpa [upd_eq] using this
theorem i_alloc {T i : Nat} {v : Value} {vs : List Value} (hz : ∀ w, (zeroValue T).run Pg w = .ok v w) (hvs : v.cells = vs.toArray) : It Pg (.alloc T) ty ρ [(i, .dead)] [(i, .cells T (vs.map fun u => .p (.v u)))] (.ref i 0) := fun g w H e q hq _ hr hrd h => by
  have hi := hrd.one
  have hrv : RVs g w H (vs.map fun u => .p (.v u)) vs := by
    clear hvs
    induction vs with
    | nil => exact .nil
    | cons u us ih => exact .cons (.v u) ih
  refine .inl ⟨.pointer (some ⟨w.heap.size, 0, none⟩), w.alloc (.cells vs.toArray T), ?_, _, Rs.var hr hi hrv, ?_⟩
  · unfold execOp; rw [hq]
    simp [Instr.alloc, hz, newVar, newRow, newObj, Sem.run_bind, Sem.run, Result.andThen, hvs]
  · have := RV.ref (g := ⟨upd g.β i w.heap.size, upd g.E w.heap.size 0, g.h⟩) (w := w.alloc (.cells vs.toArray T)) (H := setW H [(i, .cells T (vs.map fun u => .p (.v u)))]) (i := i) (off := 0) (by unfold live; show liveO (H.set i _)[i]?; rw [set_eq (List.getElem?_eq_some_iff.1 hi).1]; trivial)
    simpa [upd_eq] using this
theorem i_index {T E k n : Nat} {x y : Operand} {K : IntKind} {j : Int} {d : V} {cs es : List P} (hT : ∀ w, (underlying T).run Pg w = .ok (.slice E) w) (hE : ∀ w, (sizeOf E).run Pg w = .ok k w) (hx : ρ x = some d) (hy : ρ y = some (.p (.v (.int K j)))) (hd : d.slc = some (k, n, cs))
    (h0 : 0 ≤ j) (h1 : j < n) (hes : (cs.drop (j.toNat * k)).take k = es) : It Pg (.indexAddr T x y) ty ρ [] [] (.el es) := .pure fun g w H e q hq _ _ h => by
  have e1 := (h x (by simp [Op.operands]) _ hx).slc hd
  have e2 := (h y (by simp [Op.operands]) _ hy).vi
  rcases e1.row with ⟨he, hn, _⟩ | ⟨b, o, cap, us, he, hc, hEb, hb, hl, hrp, hu⟩
  · omega
  · have hjn : j.toNat < n := by omega
    have hmul : j.toNat * k + k ≤ n * k := by have := Nat.mul_le_mul_right k (show j.toNat + 1 ≤ n by omega); rw [Nat.add_mul] at this; omega
    refine ⟨.pointer (some ⟨b, o + j.toNat * k, none⟩), ?_, ?_⟩
    · unfold execOp; rw [hq]
      have e3 : (0 ≤ j ∧ j < (n : Int)) := ⟨h0, h1⟩
      simp [he, e2, Instr.indexAt, asIntOf, hT, hE, Sem.run_bind, Result.andThen, e3, addr_add]
    · subst hes
      refine el_mk ((hrp.drop (j.toNat * k)).take k) (by simp; omega) hb fun i u hi => ?_
      rw [List.getElem?_take] at hi
      split at hi
      · rw [List.getElem?_drop] at hi
        rw [Nat.add_assoc]; exact hu _ _ hi
      · cases hi
theorem i_len {T E k n : Nat} {x : Operand} {d : V} {cs : List P} (hT : ∀ w, (underlying T).run Pg w = .ok (.slice E) w) (hx : ρ x = some d) (hd : d.slc = some (k, n, cs)) : It Pg (.call { callee := .builtin .len, args := #[x], argTypes := #[T] }) ty ρ [] [] (.p (.v (.int .i64 n))) := .pure fun g w H e q hq _ _ h => by
  have e1 := (h x (by simp [Op.operands, Call.operands]) _ hx).slc hd
  refine ⟨_, ?_, .v (.int .i64 n)⟩
  unfold execOp; rw [hq]
  rcases e1.row with ⟨he, hn, _⟩ | ⟨b, o, cap, us, he, _⟩
  · subst hn; simp [resolve, he, invoke, builtin, Builtin.len_, hT, Sem.run_bind, Result.andThen, goInt]
  · simp [resolve, he, invoke, builtin, Builtin.len_, hT, Sem.run_bind, Result.andThen, goInt]
end
end Go.Dp
namespace Go.Dp
open Go Go.Mi Go.RowKit
def evV (l : Fv) : Operand → Option V
  | .tmp t => lk l t
  | .const v => some (.p (.v v))
  | .global g => some (.p (.v (.pointer (some ⟨g, 0, none⟩))))
  | .func f => some (.p (.v (.func (.func f) #[] #[])))
structure Cy where
  X : Cx
  w0 : World
  g0 : Gh
  H0 : List Ob
def OkD (X : Cx) (g : Gh) (w : World) (H : List Ob) (l : Fv) (a : Act) : Prop := a.defers = X.ds ∧ a.tmps.size = X.N ∧ ∀ t d, lk l t = some d → ∃ v, a.tmps[t]? = some v ∧ RV g w H d v
theorem OkD.ev {X : Cx} {g : Gh} {w : World} {H : List Ob} {l : Fv} {a : Act} (h : OkD X g w H l a) {x : Operand} {d : V} (hd : evV l x = some d) : RV g w H d (a.eval x) := by
  cases x with
  | tmp t => obtain ⟨v, h1, h2⟩ := h.2.2 t d hd; simpa [Act.eval, Array.getD_eq_getD_getElem?, h1] using h2
  | const v => simp only [evV, Option.some.injEq] at hd; subst hd; exact .v _
  | global q => simp only [evV, Option.some.injEq] at hd; subst hd; exact .v _
  | func f => simp only [evV, Option.some.injEq] at hd; subst hd; exact .v _
theorem OkD.mo {X : Cx} {g g' : Gh} {w w' : World} {H H' : List Ob} {l : Fv} {a : Act} (h : OkD X g w H l a) (m : Mo g w H g' w' H') : OkD X g' w' H' l a :=
  ⟨h.1, h.2.1, fun t d ht => by obtain ⟨v, h1, h2⟩ := h.2.2 t d ht; exact ⟨v, h1, h2.mo m⟩⟩
def putV : Option Tmp → V → Fv → Fv
  | some t, d, l => (t, d) :: l
  | none, _, l => l
def dOk (N : Nat) : Option Tmp → Bool
  | some t => Nat.blt t N
  | none => true
theorem OkD.put {X : Cx} {g : Gh} {w : World} {H : List Ob} {l : Fv} {a : Act} (h : OkD X g w H l a) {dst : Option Tmp} (hd : dOk X.N dst = true) {d : V} {v : Value} (hv : RV g w H d v) : OkD X g w H (putV dst d l) (a.put dst v) := by
  cases dst with
  | none => exact h
  | some t =>
    refine ⟨h.1, by simp [Act.put, h.2.1], fun s u hs => ?_⟩
    have ht : t < X.N := by simpa [dOk, Nat.blt_eq] using hd
    simp only [putV, lk] at hs
    simp only [Act.put, Array.getElem?_setIfInBounds, h.2.1]
    by_cases e : t = s
    · subst e
      rw [show Nat.beq t t = true from Nat.beq_refl t] at hs
      simp only [cond_true, Option.some.injEq] at hs
      subst hs; exact ⟨v, by simp [ht], hv⟩
    · rw [beq_ne e] at hs
      simp only [cond_false] at hs
      obtain ⟨u', h1, h2⟩ := h.2.2 s u hs
      exact ⟨u', by simp [e, h1], h2⟩
/-! weaker words -/
def Wv (d d' : V) : Prop := ∀ (g : Gh) (w : World) (H : List Ob) (v : Value), RV g w H d v → RV g w H d' v
theorem Wv.rf {d : V} : Wv d d := fun _ _ _ _ h => h
theorem Wv.tk {k n : Nat} {cs : List P} {t m : Nat} : Wv (.tk k n cs t m) (.p (.sl k n cs)) := fun _ _ _ _ h => by cases h with | tk h _ => exact .p h
theorem Wv.nil {k : Nat} : Wv (.p (.v (.slice none 0 0))) (.p (.sl k 0 [])) := fun _ _ _ _ h => by rw [h.vi]; exact .p .nil
def Sv (l l' : Fv) : Prop := ∀ t d, lk l' t = some d → ∃ d', lk l t = some d' ∧ Wv d' d
theorem Sv.n {l : Fv} : Sv l [] := fun t d h => by simp [lk] at h
theorem Sv.rf {l : Fv} : Sv l l := fun _ d h => ⟨d, h, .rf⟩
theorem Sv.c {l l' : Fv} {t : Nat} {d d' : V} (h : lk l t = some d') (hw : Wv d' d) (hs : Sv l l') : Sv l ((t, d) :: l') := fun s u hu => by
  simp only [lk] at hu
  by_cases e : t = s
  · subst e
    rw [show Nat.beq t t = true from Nat.beq_refl t] at hu
    simp only [cond_true, Option.some.injEq] at hu
    subst hu; exact ⟨d', h, hw⟩
  · rw [beq_ne e] at hu; exact hs s u hu
theorem Sv.s {l l' : Fv} {t : Nat} {d : V} (h : lk l t = some d) (hs : Sv l l') : Sv l ((t, d) :: l') := Sv.c h .rf hs
theorem OkD.sub {X : Cx} {g : Gh} {w : World} {H : List Ob} {l l' : Fv} {a : Act} (h : OkD X g w H l a) (hs : Sv l l') : OkD X g w H l' a :=
  ⟨h.1, h.2.1, fun t d ht => by obtain ⟨d', h1, h2⟩ := hs t d ht; obtain ⟨v, h3, h4⟩ := h.2.2 t d' h1; exact ⟨v, h3, h2 _ _ _ _ h4⟩⟩
/-! code -/
def J (Y : Cy) (c : Code) (Q : Exit → Act → World → Prop) (l : Fv) (H : List Ob) : Prop := ∀ g w a, Rs Y.w0 Y.g0 Y.H0 g w H → OkD Y.X g w H l a → c.wpIn (Fw Y.X.r) 0 Y.X.P Q a w
def DJ (Y : Cy) (Q : Exit → Act → World → Prop) (e : Exit) (l : Fv) (H : List Ob) : Prop := ∀ g w a, Rs Y.w0 Y.g0 Y.H0 g w H → OkD Y.X g w H l a → Q e a w
def SJ (Y : Cy) (ops : Array Oper) (Q : Exit → Act → World → Prop) (rest : List Oper) (l : Fv) (H : List Ob) : Prop := ∀ g w a, Rs Y.w0 Y.g0 Y.H0 g w H → OkD Y.X g w H l a → segL Y.X ops Q rest a w
section
variable {Y : Cy} {Q : Exit → Act → World → Prop} {l : Fv} {H : List Ob}
theorem J.seq {x y : Code} (h : J Y x (Th Y.X y Q) l H) : J Y (.seq x y) Q l H := fun g w a hr ha => wpIn_seq (h g w a hr ha)
theorem J.blk {id : Nat} {c : Code} (h : J Y c (Exit.inBlock id Q) l H) : J Y (.block id c) Q l H := fun g w a hr ha => wpIn_block (h g w a hr ha)
theorem J.skip (h : DJ Y Q .normal l H) : J Y .skip Q l H := fun g w a hr ha => wpIn_skip (h g w a hr ha)
theorem J.exit {id : Nat} (h : DJ Y Q (.exit id) l H) : J Y (.exit id) Q l H := fun g w a hr ha => wpIn_exit (h g w a hr ha)
theorem J.ret (h : DJ Y Q .ret l H) : J Y .ret Q l H := fun g w a hr ha => wpIn_ret (h g w a hr ha)
theorem J.cond {c : Operand} {x y : Code} {b : Bool} (hc : evV l c = some (.p (.v (.bool b)))) (ht : b = true → J Y x Q l H) (hf : b = false → J Y y Q l H) : J Y (.cond c x y) Q l H :=
  fun g w a hr ha => wpIn_cond_split (ha.ev hc).vi (fun e => ht e g w a hr ha) (fun e => hf e g w a hr ha)
theorem J.condT {c : Operand} {x y : Code} (hc : evV l c = some (.p (.v (.bool true)))) (ht : J Y x Q l H) : J Y (.cond c x y) Q l H := J.cond hc (fun _ => ht) (fun e => by cases e)
theorem J.condF {c : Operand} {x y : Code} (hc : evV l c = some (.p (.v (.bool false)))) (hf : J Y y Q l H) : J Y (.cond c x y) Q l H := J.cond hc (fun e => by cases e) (fun _ => hf)
theorem J.sub {c : Code} {l' : Fv} (hs : Sv l l') (h : J Y c Q l' H) : J Y c Q l H := fun g w a hr ha => h g w a hr (ha.sub hs)
theorem DJ.sub {e : Exit} {l' : Fv} (hs : Sv l l') (h : DJ Y Q e l' H) : DJ Y Q e l H := fun g w a hr ha => h g w a hr (ha.sub hs)
theorem DJ.then {y : Code} (h : J Y y Q l H) : DJ Y (Th Y.X y Q) .normal l H := h
theorem DJ.blk {id : Nat} (h : DJ Y Q .normal l H) : DJ Y (Exit.inBlock id Q) .normal l H := h
theorem DJ.blkR {id : Nat} (h : DJ Y Q .ret l H) : DJ Y (Exit.inBlock id Q) .ret l H := h
theorem DJ.blkE {id : Nat} (h : DJ Y Q .normal l H) : DJ Y (Exit.inBlock id Q) (.exit id) l H := fun g w a hr ha => by
  simp only [Exit.inBlock, if_true]; exact h g w a hr ha
/-- the post of a loop's round -/
def LpJ (Y : Cy) {α : Type} (I : α → Fv) (G : α → List Ob) (K : α → Prop) (μ : α → Nat) (m : Nat) (Q : Exit → Act → World → Prop) : Exit → Act → World → Prop :=
  Exit.then (fun a w => ∃ x g, OkD Y.X g w (G x) (I x) a ∧ Rs Y.w0 Y.g0 Y.H0 g w (G x) ∧ K x ∧ μ x < m) Q
theorem J.loop {α : Type} {c : Code} (I : α → Fv) (G : α → List Ob) (K : α → Prop) (μ : α → Nat) (x0 : α) (h0 : Sv l (I x0)) (hG : H = G x0) (hK : K x0)
    (round : ∀ x, K x → J Y c (LpJ Y I G K μ (μ x) Q) (I x) (G x)) : J Y (.loop c) Q l H := by
  classical
  intro g w a hr ha
  let p : Act → World → Nat → Prop := fun a w n => ∃ x g, OkD Y.X g w (G x) (I x) a ∧ Rs Y.w0 Y.g0 Y.H0 g w (G x) ∧ K x ∧ μ x = n
  let M : Act → World → Nat := fun a w => if h : ∃ n, p a w n then Classical.choose (least h) else 0
  have hM : ∀ a w, (∃ n, p a w n) → p a w (M a w) ∧ ∀ m, p a w m → M a w ≤ m := fun a w h => by
    simp only [M, dif_pos h]; exact Classical.choose_spec (least h)
  refine wpIn_loop (fun a w => ∃ n, p a w n) M ⟨_, x0, g, by rw [← hG]; exact ha.sub h0, by rw [← hG]; exact hr, hK, rfl⟩ ?_
  intro a w hI
  obtain ⟨⟨x, g, hok, hrs, hj, hmu⟩, _⟩ := hM a w hI
  refine wpIn_mono (round x hj g w a hrs hok) ?_
  intro e a' w' hq
  cases e with
  | normal =>
    obtain ⟨x', g', hok', hrs', hj', hlt⟩ := hq
    have hI' : ∃ n, p a' w' n := ⟨_, x', g', hok', hrs', hj', rfl⟩
    exact ⟨hI', by have := (hM a' w' hI').2 _ ⟨x', g', hok', hrs', hj', rfl⟩; omega⟩
  | exit id => exact hq
  | goto t => exact hq
  | ret => exact hq
  | panic ch => exact hq
  | outgrown => exact hq
theorem DJ.loop {α : Type} {I : α → Fv} {G : α → List Ob} {K : α → Prop} {μ : α → Nat} {m : Nat} (x : α) (hs : Sv l (I x)) (hG : H = G x) (hK : K x) (hlt : μ x < m) : DJ Y (LpJ Y I G K μ m Q) .normal l H :=
  fun g w a hr ha => ⟨x, g, by rw [← hG]; exact ha.sub hs, by rw [← hG]; exact hr, hK, hlt⟩
theorem DJ.loopE {α : Type} {I : α → Fv} {G : α → List Ob} {K : α → Prop} {μ : α → Nat} {m : Nat} {id : Nat} (h : DJ Y Q (.exit id) l H) : DJ Y (LpJ Y I G K μ m Q) (.exit id) l H := h
theorem DJ.loopR {α : Type} {I : α → Fv} {G : α → List Ob} {K : α → Prop} {μ : α → Nat} {m : Nat} (h : DJ Y Q .ret l H) : DJ Y (LpJ Y I G K μ m Q) .ret l H := h
/-! a condition of several parts: both ways meet again -/
theorem J.or {y : Code} {d : Nat} {b r : Bool} (hb : lk l d = some (.p (.v (.bool b)))) (hf : b = false → (∀ l', Sv l' ((d, .p (.v (.bool r))) :: l) → DJ Y Q .normal l' H) → J Y y Q l H)
    (k : DJ Y Q .normal ((d, .p (.v (.bool (b || r)))) :: l) H) : J Y (.cond (.tmp d) .skip y) Q l H := by
  refine J.cond (b := b) hb (fun e => J.skip (DJ.sub ?_ k)) fun e => hf e fun l' hs => DJ.sub hs ?_
  · subst e; exact Sv.s (by simpa using hb) .rf
  · subst e; exact k
theorem J.and {x : Code} {d : Nat} {b r : Bool} (hb : lk l d = some (.p (.v (.bool b)))) (ht : b = true → (∀ l', Sv l' ((d, .p (.v (.bool r))) :: l) → DJ Y Q .normal l' H) → J Y x Q l H)
    (k : DJ Y Q .normal ((d, .p (.v (.bool (b && r)))) :: l) H) : J Y (.cond (.tmp d) x .skip) Q l H := by
  refine J.cond (b := b) hb (fun e => ht e fun l' hs => DJ.sub hs ?_) fun e => J.skip (DJ.sub ?_ k)
  · subst e; exact k
  · subst e; exact Sv.s (by simpa using hb) .rf
/-! regions in the order of the text -/
theorem J.region {id : Nat} {os : List Oper} (h : SJ Y os.toArray Q os l H) : J Y (.region id os.toArray false) Q l H := fun g w a hr ha => by
  refine wpIn_region ?_
  have := segL_sound (X := Y.X) (ops := os.toArray) (Q := Q) os 0 a w (fun j => by simp) (h g w a hr ha)
  simpa [List.range_eq_range'] using this
variable {ops : Array Oper} {rest : List Oper}
theorem SJ.nil (h : DJ Y Q .normal l H) : SJ Y ops Q [] l H := h
theorem SJ.sub {l' : Fv} (hs : Sv l l') (h : SJ Y ops Q rest l' H) : SJ Y ops Q rest l H := fun g w a hr ha => h g w a hr (ha.sub hs)
theorem SJ.it {dst : Option Tmp} {op : Op} {ty : TypeId} {pos : String} {af : Array Edge} {rd wr : List (Nat × Ob)} {d : V} (h : It Y.X.P op ty (evV l) rd wr d) (hrd : rdOk H rd) (hd : dOk Y.X.N dst = true) (k : SJ Y ops Q rest (putV dst d l) (setW H wr)) :
    SJ Y ops Q ({ dst := dst, op := op, type := ty, pos := pos, after := af, guard := none } :: rest) l H := fun g w a hr ha => by
  simp only [segL, Region.wanted, if_true, Oper.wpIn]
  refine ⟨fun _ _ => trivial, ?_⟩
  have fin : ∀ v w' g', Rs w g H g' w' (setW H wr) → RV g' w' (setW H wr) d v → segL Y.X ops Q rest (a.put dst v) w' := fun v w' g' h1 h2 =>
    k g' w' _ (hr.then h1) ((ha.mo h1.mo).put hd h2)
  rcases h g w H a.eval { dst := dst, op := op, type := ty, pos := pos, after := af, guard := none } rfl rfl hr.rs0 hrd (fun x _ u hu => ha.ev hu) with ⟨v, w', h1, g', h2, h3⟩ | ⟨w', h1, g', h2, h3⟩ | ⟨n, h1, h2⟩
  · rw [semAt_of h1 (by intro d h; cases h)]
    exact fin v w' g' h2 h3
  · rw [semAt_of h1 (by intro d h; cases h)]
    exact fin undef w' g' h2 h3
  · rw [semAt_of h1 h2.ne]
    exact h2.upon fun v w' ⟨g', h3, h4⟩ => fin v w' g' h3 h4
theorem rd0 {H : List Ob} : rdOk H [] := fun _ h => by cases h
theorem rd1 {i : Nat} {o : Ob} (h : H[i]? = some o) : rdOk H [(i, o)] := fun q hq => by simp at hq; subst hq; exact h
/-- pure ones, and those about one object -/
theorem SJ.q {t : Nat} {op : Op} {ty : TypeId} {pos : String} {af : Array Edge} {d : V} (h : It Y.X.P op ty (evV l) [] [] d) (hd : Nat.blt t Y.X.N = true) (k : SJ Y ops Q rest ((t, d) :: l) H) : SJ Y ops Q ({ dst := some t, op := op, type := ty, pos := pos, after := af, guard := none } :: rest) l H :=
  SJ.it h rd0 hd k
theorem SJ.o {dst : Option Tmp} {op : Op} {ty : TypeId} {pos : String} {af : Array Edge} {i : Nat} {ob : Ob} {wr : List (Nat × Ob)} {d : V} (h : It Y.X.P op ty (evV l) [(i, ob)] wr d) (hi : H[i]? = some ob) (hd : dOk Y.X.N dst = true) (k : SJ Y ops Q rest (putV dst d l) (setW H wr)) :
    SJ Y ops Q ({ dst := dst, op := op, type := ty, pos := pos, after := af, guard := none } :: rest) l H := SJ.it h (rd1 hi) hd k
/-! guards -/
theorem yield_of {a : Act} {X : Cx} {g : Gh} {w : World} (ha : OkD X g w H l a) {j dj : Nat} {b : Bool} (hj : (ops[j]?).bind (·.dst) = some dj) (hb : lk l dj = some (.p (.v (.bool b)))) : yielded ops a.tmps j = some b := by
  obtain ⟨v, h1, h2⟩ := ha.2.2 dj _ hb
  have := h2.vi
  unfold yielded; rw [hj]; simp [h1, this]
theorem SJ.yes {dst : Option Tmp} {op : Op} {ty : TypeId} {pos : String} {af : Array Edge} {j : Nat} {want b : Bool} (dj : Nat) (hj : (ops[j]?).bind (·.dst) = some dj) (hb : lk l dj = some (.p (.v (.bool b)))) (he : b = want)
    (k : SJ Y ops Q ({ dst := dst, op := op, type := ty, pos := pos, after := af, guard := none } :: rest) l H) : SJ Y ops Q ({ dst := dst, op := op, type := ty, pos := pos, after := af, guard := some (j, want) } :: rest) l H := fun g w a hr ha => by
  have hk := k g w a hr ha
  simp only [segL, Region.wanted, if_true] at hk
  simp only [segL, Region.wanted, yield_of ha hj hb, he, beq_self_eq_true, if_true]
  exact hk
theorem SJ.no {dst : Option Tmp} {op : Op} {ty : TypeId} {pos : String} {af : Array Edge} {j : Nat} {want b : Bool} (dj : Nat) (hj : (ops[j]?).bind (·.dst) = some dj) (hb : lk l dj = some (.p (.v (.bool b)))) (he : b = !want) (hd : dOk Y.X.N dst = true)
    (k : SJ Y ops Q rest (putV dst (.p (.v undef)) l) H) : SJ Y ops Q ({ dst := dst, op := op, type := ty, pos := pos, after := af, guard := some (j, want) } :: rest) l H := fun g w a hr ha => by
  have hne : (some b == some want) = false := by rw [he]; cases want <;> rfl
  simp only [segL, Region.wanted, yield_of ha hj hb, hne]
  exact k g w _ hr (ha.put hd (.v _))
/-- the parts of a condition meet again behind the operations that ask for it -/
theorem SJ.and {b r : Bool} (n d dj : Nat) (_hb : lk l dj = some (.p (.v (.bool b)))) (ht : b = true → (∀ l', Sv l' ((d, .p (.v (.bool r))) :: l) → SJ Y ops Q (rest.drop n) l' H) → SJ Y ops Q rest l H)
    (hf : b = false → (∀ l', Sv l' ((d, .p (.v (.bool false))) :: l) → SJ Y ops Q (rest.drop n) l' H) → SJ Y ops Q rest l H) (k : SJ Y ops Q (rest.drop n) ((d, .p (.v (.bool (b && r)))) :: l) H) : SJ Y ops Q rest l H := by
  cases b with
  | true => exact ht rfl fun l' hs => SJ.sub hs k
  | false => exact hf rfl fun l' hs => SJ.sub hs k
theorem SJ.or {b r : Bool} (n d dj : Nat) (_hb : lk l dj = some (.p (.v (.bool b)))) (hf : b = false → (∀ l', Sv l' ((d, .p (.v (.bool r))) :: l) → SJ Y ops Q (rest.drop n) l' H) → SJ Y ops Q rest l H)
    (ht : b = true → (∀ l', Sv l' ((d, .p (.v (.bool true))) :: l) → SJ Y ops Q (rest.drop n) l' H) → SJ Y ops Q rest l H) (k : SJ Y ops Q (rest.drop n) ((d, .p (.v (.bool (b || r)))) :: l) H) : SJ Y ops Q rest l H := by
  cases b with
  | true => exact ht rfl fun l' hs => SJ.sub hs k
  | false => exact hf rfl fun l' hs => SJ.sub hs k
end
end Go.Dp
namespace Go.Dp
open Go Go.Mi Go.RowKit
mutual
def V.ren (s : Nat → Nat) : V → V
  | .p x => .p x
  | .tk k n cs t m => .tk k n cs (s t) m
  | .ref i o => .ref (s i) o
  | .el cs => .el cs
  | .arr i o n c => .arr (s i) o n c
  | .map i => .map (s i)
  | .fn f b c => .fn f (renL s b) (renL s c)
  | .agg cs => .agg (renL s cs)
  | .tup cs => .tup (renL s cs)
  | .yld i => .yld (s i)
  | .z => .z
  | .gs k n t m o => .gs k n (s t) m o
  | .gp t m o => .gp (s t) m o
def renL (s : Nat → Nat) : List V → List V
  | [] => []
  | d :: ds => d.ren s :: renL s ds
end
mutual
def V.lt (k : Nat) : V → Bool
  | .p _ => true
  | .tk _ _ _ t _ => Nat.blt t k
  | .ref i _ => Nat.blt i k
  | .el _ => true
  | .arr i _ _ _ => Nat.blt i k
  | .map i => Nat.blt i k
  | .fn _ b c => ltL k b && ltL k c
  | .agg cs => ltL k cs
  | .tup cs => ltL k cs
  | .yld i => Nat.blt i k
  | .z => true
  | .gs _ _ t _ _ => Nat.blt t k
  | .gp t _ _ => Nat.blt t k
def ltL (k : Nat) : List V → Bool
  | [] => true
  | d :: ds => d.lt k && ltL k ds
end
def renK (s : Nat → Nat) : List (Value × V) → List (Value × V)
  | [] => []
  | p :: r => (p.1, p.2.ren s) :: renK s r
def renF (s : Nat → Nat) : Fv → Fv
  | [] => []
  | p :: r => (p.1, p.2.ren s) :: renF s r
def ltF (k : Nat) : Fv → Bool
  | [] => true
  | p :: r => p.2.lt k && ltF k r
theorem lk_renF (s : Nat → Nat) : ∀ (l : Fv) (t : Nat), lk (renF s l) t = (lk l t).map (V.ren s)
  | [], _ => rfl
  | (d, v) :: r, t => by
    simp only [renF, lk]
    cases Nat.beq d t with
    | true => rfl
    | false => exact lk_renF s r t
theorem lk_ltF {k : Nat} : ∀ {l : Fv} {t : Nat} {d : V}, ltF k l = true → lk l t = some d → d.lt k = true
  | (e, v) :: r, t, d, h, hd => by
    simp only [ltF, Bool.and_eq_true] at h
    simp only [lk] at hd
    cases hb : Nat.beq e t with
    | true => rw [hb] at hd; simp at hd; rw [← hd]; exact h.1
    | false => rw [hb] at hd; simp at hd; exact lk_ltF h.2 hd
def Ob.ren (s : Nat → Nat) : Ob → Ob
  | .dead => .dead
  | .cells T cs => .cells T (renL s cs)
  | .pc T cs => .pc T cs
  | .tok T k m => .tok T k m
  | .gr T k m cs => .gr T k m cs
  | .fz T cs => .fz T cs
  | .mp c bs kv => .mp c bs (renK s kv)
  | .loop st pd f N fr ps a b j => .loop st pd f N (renF s fr) ps a b (s j)
  | .dfr b => .dfr b
  | .itr j => .itr (s j)
def Ob.lt (k : Nat) : Ob → Bool
  | .cells _ cs => ltL k cs
  | .mp _ _ kv => ltL k (kv.map (·.2))
  | .loop _ _ _ _ fr _ _ _ j => Nat.blt j k && ltF k fr
  | .itr j => Nat.blt j k
  | _ => true
theorem renK_fst (s : Nat → Nat) : ∀ kv : List (Value × V), (renK s kv).map (·.1) = kv.map (·.1)
  | [] => rfl
  | p :: r => by simp [renK, renK_fst s r]
theorem renK_len (s : Nat → Nat) : ∀ kv : List (Value × V), (renK s kv).length = kv.length
  | [] => rfl
  | p :: r => by simp [renK, renK_len s r]
theorem renK_snd (s : Nat → Nat) : ∀ kv : List (Value × V), (renK s kv).map (·.2) = renL s (kv.map (·.2))
  | [] => rfl
  | p :: r => by simp [renK, renL, renK_snd s r]
/-- the ghosts by other names -/
def Gh.ren (g : Gh) (s : Nat → Nat) : Gh := ⟨fun i => g.β (s i), g.E, fun i => g.h (s i)⟩
section
variable {g : Gh} {w : World} {H Hc : List Ob} {s : Nat → Nat} {k0 : Nat}
/-- the objects Hc are those of H, by other names -/
structure Lnk (H Hc : List Ob) (s : Nat → Nat) (k0 : Nat) : Prop where
  live : ∀ i, i < k0 → (live H (s i) ↔ live Hc i)
  cur : ∀ i, i < k0 → cur H (s i) = cur Hc i
mutual
theorem ren_to (h : Lnk H Hc s k0) : ∀ (d : V) (v : Value), d.lt k0 = true → RV g w H (d.ren s) v → RV (g.ren s) w Hc d v
  | .p x, v, _, hv => by cases hv with | p hp => exact .p hp
  | .tk k n cs t m, v, hl, hv => by
    have ht : t < k0 := by simpa [V.lt, Nat.blt_eq] using hl
    cases hv with | tk hp hk => obtain ⟨m', a, b, c⟩ := hk; exact .tk hp ⟨m', by rw [← h.cur t ht]; exact a, b, c⟩
  | .ref i o, v, hl, hv => by
    have hi : i < k0 := by simpa [V.lt, Nat.blt_eq] using hl
    cases hv with | ref hlv => exact .ref (g := g.ren s) ((h.live i hi).1 hlv)
  | .el cs, v, _, hv => by cases hv with | el u hE hb hu hh => exact .el u hE hb hu hh
  | .arr i o n c, v, hl, hv => by
    have hi : i < k0 := by simpa [V.lt, Nat.blt_eq] using hl
    cases hv with | arr hlv => exact .arr (g := g.ren s) ((h.live i hi).1 hlv)
  | .map i, v, hl, hv => by
    have hi : i < k0 := by simpa [V.lt, Nat.blt_eq] using hl
    cases hv with | map hlv => exact .map (g := g.ren s) ((h.live i hi).1 hlv)
  | .fn f b c, v, hl, hv => by
    simp only [V.lt, Bool.and_eq_true] at hl
    cases hv with | fn h1 h2 => exact .fn (renL_to h b _ hl.1 h1) (renL_to h c _ hl.2 h2)
  | .agg cs, v, hl, hv => by cases hv with | agg h1 => exact .agg (renL_to h cs _ hl h1)
  | .tup cs, v, hl, hv => by cases hv with | tup h1 => exact .tup (renL_to h cs _ hl h1)
  | .z, v, hl, hv => by cases hv; exact .z
  | .gs k n t m o, v, hl, hv => by
    have ht : t < k0 := by simpa [V.lt, Nat.blt_eq] using hl
    cases hv with | gs h1 hk => obtain ⟨m', a, b, c⟩ := hk; exact .gs h1 ⟨m', by rw [← h.cur t ht]; exact a, b, c⟩
  | .gp t m o, v, hl, hv => by
    have ht : t < k0 := by simpa [V.lt, Nat.blt_eq] using hl
    cases hv with | gp h1 hk => obtain ⟨m', a, b, c⟩ := hk; exact .gp h1 ⟨m', by rw [← h.cur t ht]; exact a, b, c⟩
  | .yld i, v, hl, hv => by
    have hi : i < k0 := by simpa [V.lt, Nat.blt_eq] using hl
    cases hv with | yld hlv => exact .yld (g := g.ren s) ((h.live i hi).1 hlv)
theorem renL_to (h : Lnk H Hc s k0) : ∀ (ds : List V) (vs : List Value), ltL k0 ds = true → RVs g w H (renL s ds) vs → RVs (g.ren s) w Hc ds vs
  | [], vs, _, hv => by cases hv with | nil => exact .nil
  | d :: ds, vs, hl, hv => by
    simp only [ltL, Bool.and_eq_true] at hl
    cases hv with | cons h1 h2 => exact .cons (ren_to h d _ hl.1 h1) (renL_to h ds _ hl.2 h2)
end
theorem live_lt {i : Nat} (h : live Hc i) : i < Hc.length := by
  unfold live at h
  cases hi : Hc[i]? with
  | none => rw [hi] at h; exact h.elim
  | some o => exact (List.getElem?_eq_some_iff.1 hi).1
theorem cur_lt {i m : Nat} (h : cur Hc i = some m) : i < Hc.length := by
  unfold cur at h
  cases hi : Hc[i]? with
  | none => rw [hi] at h; cases h
  | some o => exact (List.getElem?_eq_some_iff.1 hi).1
variable {g' : Gh}
/-- back again -/
structure Bck (g : Gh) (H : List Ob) (g' : Gh) (Hc : List Ob) (s : Nat → Nat) : Prop where
  live : ∀ i, live Hc i → live H (s i) ∧ g.β (s i) = g'.β i
  cur : ∀ i m, cur Hc i = some m → cur H (s i) = some m ∧ g.h (s i) = g'.h i
  E : g.E = g'.E
mutual
theorem ren_fr (h : Bck g H g' Hc s) : ∀ (d : V) (v : Value), RV g' w Hc d v → RV g w H (d.ren s) v
  | .p x, v, hv => by cases hv with | p hp => exact .p (by rw [h.E]; exact hp)
  | .tk k n cs t m, v, hv => by
    cases hv with | tk hp hk => obtain ⟨m', a, b, c⟩ := hk; have e := h.cur t m' a; exact .tk (by rw [h.E]; exact hp) ⟨m', e.1, b, fun q => by rw [e.2]; exact c q⟩
  | .ref i o, v, hv => by cases hv with | ref hlv => have e := h.live i hlv; rw [← e.2]; exact .ref e.1
  | .el cs, v, hv => by cases hv with | el u hE hb hu hh => exact .el u (by rw [h.E]; exact hE) hb hu (by rw [h.E]; exact hh)
  | .arr i o n c, v, hv => by cases hv with | arr hlv => have e := h.live i hlv; rw [← e.2]; exact .arr e.1
  | .map i, v, hv => by cases hv with | map hlv => have e := h.live i hlv; rw [← e.2]; exact .map e.1
  | .fn f b c, v, hv => by cases hv with | fn h1 h2 => exact .fn (renL_fr h b _ h1) (renL_fr h c _ h2)
  | .agg cs, v, hv => by cases hv with | agg h1 => exact .agg (renL_fr h cs _ h1)
  | .tup cs, v, hv => by cases hv with | tup h1 => exact .tup (renL_fr h cs _ h1)
  | .z, v, hv => by cases hv; exact .z
  | .gs k n t m o, v, hv => by
    cases hv with | gs h1 hk => obtain ⟨m', a, b, c⟩ := hk; have e := h.cur t m' a; exact .gs h1 ⟨m', e.1, b, by rw [e.2]; exact c⟩
  | .gp t m o, v, hv => by
    cases hv with | gp h1 hk => obtain ⟨m', a, b, c⟩ := hk; have e := h.cur t m' a; exact .gp h1 ⟨m', e.1, b, by rw [e.2]; exact c⟩
  | .yld i, v, hv => by cases hv with | yld hlv => have e := h.live i hlv; rw [← e.2]; exact .yld e.1
theorem renL_fr (h : Bck g H g' Hc s) : ∀ (ds : List V) (vs : List Value), RVs g' w Hc ds vs → RVs g w H (renL s ds) vs
  | [], vs, hv => by cases hv with | nil => exact .nil
  | d :: ds, vs, hv => by cases hv with | cons h1 h2 => exact .cons (ren_fr h d _ h1) (renL_fr h ds _ h2)
end
theorem RO.ren_to (hl : Lnk H Hc s k0) {i : Nat} {o : Ob} (ho : o.lt k0 = true) (h : RO g w H (s i) (o.ren s)) : RO (g.ren s) w Hc i o := by
  cases o with
  | dead => trivial
  | cells T cs => obtain ⟨us, h1, h2, h3⟩ := h; exact ⟨us, h1, renL_to hl cs us ho h2, h3⟩
  | pc T cs => exact h
  | fz T cs => exact h
  | tok T k m => exact h
  | gr T k m cs => exact h
  | mp c bs kv =>
    obtain ⟨us, h1, h2, h3⟩ := h
    rw [renK_fst] at h1; rw [renK_snd] at h3
    exact ⟨us, h1, by rw [h2, renK_len], renL_to hl _ us ho h3⟩
  | loop st pd f N fr ps a b j =>
    obtain ⟨f0, tm, h1, h2, h3, h4⟩ := h
    simp only [Ob.lt, Bool.and_eq_true, Nat.blt_eq] at ho
    refine ⟨f0, tm, h1, h2, (hl.live j ho.1).1 h3, fun t d hd => ?_⟩
    obtain ⟨v, hv, hr⟩ := h4 t (d.ren s) (by rw [lk_renF, hd]; rfl)
    exact ⟨v, hv, Go.Dp.ren_to hl d v (lk_ltF ho.2 hd) hr⟩
  | dfr b => exact h
  | itr j =>
    obtain ⟨a, b, h1, h3⟩ := h
    simp only [Ob.lt, Nat.blt_eq] at ho
    exact ⟨a, b, h1, (hl.live j ho).1 h3⟩
theorem RO.ren_fr (hb : Bck g H g' Hc s) {i : Nat} {o : Ob} (hi : Hc[i]? = some o) (h : RO g' w Hc i o) : RO g w H (s i) (o.ren s) := by
  cases o with
  | dead => trivial
  | cells T cs =>
    obtain ⟨us, h1, h2, h3⟩ := h
    have e := (hb.live i (by unfold live; rw [hi]; trivial)).2
    exact ⟨us, by rw [e]; exact h1, renL_fr hb cs us h2, by rw [e, hb.E]; exact h3⟩
  | pc T cs =>
    obtain ⟨us, h1, h2, h3⟩ := h
    have e := (hb.live i (by unfold live; rw [hi]; trivial)).2
    exact ⟨us, by rw [e]; exact h1, by rw [hb.E]; exact h2, by rw [e, hb.E]; exact h3⟩
  | fz T cs =>
    obtain ⟨us, h1, h2, h3⟩ := h
    have e := (hb.live i (by unfold live; rw [hi]; trivial)).2
    exact ⟨us, by rw [e]; exact h1, by rw [hb.E]; exact h2, by rw [e, hb.E]; exact h3⟩
  | tok T k m =>
    obtain ⟨n, us, h1, h2⟩ := h
    have e := (hb.cur i m (by unfold cur; rw [hi]; rfl)).2
    exact ⟨n, us, by rw [e]; exact h1, by rw [e, hb.E]; exact h2⟩
  | gr T k m cs =>
    obtain ⟨n, us, h1, h3, h2⟩ := h
    have e := (hb.cur i m (by unfold cur; rw [hi]; rfl)).2
    exact ⟨n, us, by rw [e]; exact h1, by rw [hb.E]; exact h3, by rw [e, hb.E]; exact h2⟩
  | mp c bs kv =>
    obtain ⟨us, h1, h2, h3⟩ := h
    have e := (hb.live i (by unfold live; rw [hi]; trivial)).2
    exact ⟨us, by rw [e, renK_fst]; exact h1, by rw [h2, renK_len], by rw [renK_snd]; exact renL_fr hb _ us h3⟩
  | loop st pd f N fr ps a b j =>
    obtain ⟨f0, tm, h1, h2, h3, h4⟩ := h
    have e := (hb.live i (by unfold live; rw [hi]; trivial)).2
    have ej := hb.live j h3
    refine ⟨f0, tm, by rw [e, ej.2]; exact h1, h2, ej.1, fun t d hd => ?_⟩
    rw [lk_renF] at hd
    cases hq : lk fr t with
    | none => rw [hq] at hd; cases hd
    | some d' =>
      rw [hq] at hd; simp only [Option.map_some, Option.some.injEq] at hd; subst hd
      obtain ⟨v, hv, hr⟩ := h4 t d' hq
      exact ⟨v, hv, Go.Dp.ren_fr hb d' v hr⟩
  | dfr b =>
    have e := (hb.live i (by unfold live; rw [hi]; trivial)).2
    show w.heap[g.β (s i)]? = _
    rw [e]; exact h
  | itr j =>
    obtain ⟨a, b, h1, h3⟩ := h
    have e := (hb.live i (by unfold live; rw [hi]; trivial)).2
    have ej := hb.live j h3
    exact ⟨a, b, by rw [e, ej.2]; exact h1, ej.1⟩
theorem liveO_ren {s : Nat → Nat} {o : Ob} : liveO (some (o.ren s)) ↔ liveO (some o) := by cases o <;> exact Iff.rfl
theorem curT_ren {s : Nat → Nat} {o : Ob} : curT (some (o.ren s)) = curT (some o) := by cases o <;> rfl
end
/-- names by a list -/
def sf (sel : List Nat) : Nat → Nat := fun i => sel.getD i 0
/-- the objects of a call: H at the names sel is Hc -/
def Sel (H Hc : List Ob) (sel : List Nat) : Prop := sel.length = Hc.length ∧ ∀ (i : Nat) (o : Ob), Hc[i]? = some o → H[sf sel i]? = some (o.ren (sf sel))
theorem Sel.lnk {H Hc : List Ob} {sel : List Nat} (h : Sel H Hc sel) : Lnk H Hc (sf sel) Hc.length := by
  refine ⟨fun i hi => ?_, fun i hi => ?_⟩
  · have e := List.getElem?_eq_getElem hi
    unfold live; rw [h.2 i _ e, e]; exact liveO_ren
  · have e := List.getElem?_eq_getElem hi
    unfold cur; rw [h.2 i _ e, e]; exact curT_ren
theorem sf_lt {sel : List Nat} {i : Nat} (hi : i < sel.length) : sel[i]? = some (sf sel i) := by simp [sf, List.getD, List.getElem?_eq_getElem hi]
theorem sf_inj {sel : List Nat} (hn : sel.Nodup) {i j : Nat} (hi : i < sel.length) (hj : j < sel.length) (e : sf sel i = sf sel j) : i = j :=
  (List.getElem?_inj hi hn).1 (by rw [sf_lt hi, sf_lt hj, e])
theorem own_ren {g : Gh} {H Hc : List Ob} {sel : List Nat} (h : Sel H Hc sel) {i b : Nat} (ho : own (g.ren (sf sel)) Hc i b) : i < Hc.length ∧ own g H (sf sel i) b := by
  unfold own at ho ⊢
  cases hi : Hc[i]? with
  | none => rw [hi] at ho; exact ho.elim
  | some o =>
    refine ⟨(List.getElem?_eq_some_iff.1 hi).1, ?_⟩
    rw [h.2 i o hi]; rw [hi] at ho
    cases o <;> exact ho
theorem Rs0.sel {g : Gh} {w : World} {H Hc : List Ob} {sel : List Nat} (h : Rs0 g w H) (hs : Sel H Hc sel) (hn : sel.Nodup) (hlt : Hc.all (Ob.lt Hc.length) = true) : Rs0 (g.ren (sf sel)) w Hc := by
  refine ⟨h.gl, fun i o hi => ?_, fun i j b h1 h2 => ?_⟩
  · exact RO.ren_to hs.lnk (List.all_eq_true.1 hlt o (List.mem_of_getElem? hi)) (h.ob _ _ (hs.2 i o hi))
  · obtain ⟨l1, o1⟩ := own_ren hs h1
    obtain ⟨l2, o2⟩ := own_ren hs h2
    exact sf_inj hn (by rw [hs.1]; exact l1) (by rw [hs.1]; exact l2) (h.sep _ _ b o1 o2)
end Go.Dp
namespace Go.Dp
open Go Go.Mi Go.RowKit
/-- called with these, among these objects, a function returns, and hands back what post says -/
def CD (Pg : Program) (f : FuncId) (args : List V) (H : List Ob) (post : V → List Ob → Prop) : Prop :=
  ∀ (g : Gh) (w : World) (vs : List Value), Rs0 g w H → RVs g w H args vs → Calls Pg f vs.toArray w fun e w' => ∃ v g' r H', e = .returned v ∧ post r H' ∧ Rs w g H g' w' H' ∧ RV g' w' H' r v
def wl (s : Nat → Nat) : List Nat → List Ob → List (Nat × Ob)
  | j :: js, o :: os => (j, o.ren s) :: wl s js os
  | _, _ => []
theorem setW_len : ∀ (ws : List (Nat × Ob)) (H : List Ob), (setW H ws).length = H.length
  | [], _ => rfl
  | (i, o) :: r, H => by rw [setW, setW_len r]; simp
theorem setW_out : ∀ (ws : List (Nat × Ob)) (H : List Ob) (j : Nat), (∀ q ∈ ws, q.1 ≠ j) → (setW H ws)[j]? = H[j]?
  | [], _, _, _ => rfl
  | (i, o) :: r, H, j, h => by
    rw [setW, setW_out r _ j fun q hq => h q (by simp [hq]), set_ne fun e => h (i, o) (by simp) e.symm]
theorem setW_in : ∀ (ws : List (Nat × Ob)) (H : List Ob) (j : Nat) (o : Ob), (ws.map (·.1)).Nodup → (j, o) ∈ ws → j < H.length → (setW H ws)[j]? = some o
  | [], _, _, _, _, h, _ => by cases h
  | (i, q) :: r, H, j, o, hn, h, hl => by
    simp only [List.map_cons, List.nodup_cons] at hn
    rw [setW]
    rcases List.mem_cons.1 h with e | e
    · cases e
      rw [setW_out r _ i fun q hq e => hn.1 (by rw [← e]; exact List.mem_map_of_mem hq), set_eq hl]
    · exact setW_in r _ j o hn.2 e (by simpa using hl)
theorem wl_get (s : Nat → Nat) : ∀ (S : List Nat) (Hc : List Ob) (i : Nat) (o : Ob) (j : Nat), S[i]? = some j → Hc[i]? = some o → (j, o.ren s) ∈ wl s S Hc
  | [], _, i, o, j, h, _ => by simp at h
  | _ :: _, [], i, o, j, _, h => by simp at h
  | q :: S, p :: Hc, 0, o, j, h1, h2 => by simp at h1 h2; subst h1; subst h2; simp [wl]
  | q :: S, p :: Hc, i + 1, o, j, h1, h2 => by simp [wl]; exact .inr (wl_get s S Hc i o j (by simpa using h1) (by simpa using h2))
theorem wl_mem (s : Nat → Nat) : ∀ (S : List Nat) (Hc : List Ob) (q : Nat × Ob), q ∈ wl s S Hc → ∃ i, i < Hc.length ∧ S[i]? = some q.1
  | [], _, q, h => by simp [wl] at h
  | _ :: _, [], q, h => by simp [wl] at h
  | a :: S, p :: Hc, q, h => by
    simp only [wl, List.mem_cons] at h
    rcases h with rfl | h
    · exact ⟨0, by simp, rfl⟩
    · obtain ⟨i, h1, h2⟩ := wl_mem s S Hc q h
      exact ⟨i + 1, by simpa using h1, by simpa using h2⟩
theorem wl_nodup (s : Nat → Nat) : ∀ (S : List Nat) (Hc : List Ob), S.Nodup → ((wl s S Hc).map (·.1)).Nodup
  | [], _, _ => by simp [wl]
  | _ :: _, [], _ => by simp [wl]
  | a :: S, p :: Hc, h => by
    simp only [List.nodup_cons] at h
    simp only [wl, List.map_cons, List.nodup_cons]
    refine ⟨fun hm => ?_, wl_nodup s S Hc h.2⟩
    obtain ⟨q, hq, e⟩ := List.mem_map.1 hm
    obtain ⟨i, _, h2⟩ := wl_mem s S Hc q hq
    exact h.1 (by rw [← e]; exact List.mem_of_getElem? h2)
theorem sf_app {sel fr : List Nat} {i : Nat} (hi : i < sel.length) : sf (sel ++ fr) i = sf sel i := by
  unfold sf; rw [List.getD_eq_getElem?_getD, List.getD_eq_getElem?_getD, List.getElem?_append_left hi]
/-- what a call did to its objects, by the names of the caller -/
theorem merge {g g' : Gh} {w w' : World} {H Hc Hc' : List Ob} {sel fr : List Nat} (h : Rs0 g w H) (hs : Sel H Hc sel) (hn : (sel ++ fr).Nodup) (hfr : ∀ j ∈ fr, H[j]? = some .dead) (hle : sel.length ≤ Hc'.length) (hge : Hc'.length ≤ (sel ++ fr).length)
    (k : Rs w (g.ren (sf sel)) Hc g' w' Hc') : ∃ g'', Rs w g H g'' w' (setW H (wl (sf (sel ++ fr)) (sel ++ fr) Hc')) ∧ ∀ r v, RV g' w' Hc' r v → RV g'' w' (setW H (wl (sf (sel ++ fr)) (sel ++ fr) Hc')) (r.ren (sf (sel ++ fr))) v := by
  classical
  obtain ⟨S, hS⟩ : ∃ S, sel ++ fr = S := ⟨_, rfl⟩
  have happ : ∀ i, i < sel.length → sf S i = sf sel i := fun i hi => by rw [← hS]; exact sf_app hi
  rw [hS] at hn hge ⊢
  obtain ⟨H2, hH2⟩ : ∃ H2, setW H (wl (sf S) S Hc') = H2 := ⟨_, rfl⟩
  rw [hH2]
  have hSlt : ∀ i, i < Hc'.length → sf S i < H.length := fun i hi => by
    by_cases e : i < sel.length
    · rw [happ i e]
      have hc : i < Hc.length := by rw [← hs.1]; exact e
      exact (List.getElem?_eq_some_iff.1 (hs.2 i _ (List.getElem?_eq_getElem hc))).1
    · have hm : sf S i ∈ fr := by
        have h1 := sf_lt (sel := S) (i := i) (by omega)
        rw [← hS, List.getElem?_append_right (by omega)] at h1
        rw [← hS]; exact List.mem_of_getElem? h1
      exact (List.getElem?_eq_some_iff.1 (hfr _ hm)).1
  have hin : ∀ i o, Hc'[i]? = some o → H2[sf S i]? = some (o.ren (sf S)) := fun i o hi => by
    have hl := (List.getElem?_eq_some_iff.1 hi).1
    rw [← hH2]
    exact setW_in _ _ _ _ (wl_nodup _ _ _ hn) (wl_get _ S Hc' i o _ (sf_lt (by omega)) hi) (hSlt i hl)
  have hout : ∀ j, (∀ i, i < Hc'.length → sf S i ≠ j) → H2[j]? = H[j]? := fun j hj => by
    rw [← hH2]
    refine setW_out _ _ _ fun q hq e => ?_
    obtain ⟨i, h1, h2⟩ := wl_mem _ _ _ q hq
    rw [sf_lt (by omega)] at h2
    exact hj i h1 (by rw [Option.some.inj h2]; exact e)
  have hinj : ∀ i j, i < Hc'.length → j < Hc'.length → sf S i = sf S j → i = j := fun i j hi hj e => sf_inj hn (by omega) (by omega) e
  let g2 : Gh := ⟨fun j => if h : ∃ i, i < Hc'.length ∧ sf S i = j then g'.β (Classical.choose h) else g.β j, g'.E, fun j => if h : ∃ i, i < Hc'.length ∧ sf S i = j then g'.h (Classical.choose h) else g.h j⟩
  have hch : ∀ i (hi : i < Hc'.length), ∃ h : ∃ i', i' < Hc'.length ∧ sf S i' = sf S i, Classical.choose h = i := fun i hi => by
    have h : ∃ i', i' < Hc'.length ∧ sf S i' = sf S i := ⟨i, hi, rfl⟩
    exact ⟨h, hinj _ _ (Classical.choose_spec h).1 hi (Classical.choose_spec h).2⟩
  have hβ : ∀ i, i < Hc'.length → g2.β (sf S i) = g'.β i := fun i hi => by
    obtain ⟨h, e⟩ := hch i hi
    show (if h : ∃ i', i' < Hc'.length ∧ sf S i' = sf S i then g'.β (Classical.choose h) else _) = _
    rw [dif_pos h, e]
  have hhd : ∀ i, i < Hc'.length → g2.h (sf S i) = g'.h i := fun i hi => by
    obtain ⟨h, e⟩ := hch i hi
    show (if h : ∃ i', i' < Hc'.length ∧ sf S i' = sf S i then g'.h (Classical.choose h) else _) = _
    rw [dif_pos h, e]
  have hno : ∀ j, (∀ i, i < Hc'.length → sf S i ≠ j) → g2.β j = g.β j ∧ g2.h j = g.h j := fun j hj => by
    have hn : ¬ ∃ i, i < Hc'.length ∧ sf S i = j := fun ⟨i, h1, h2⟩ => hj i h1 h2
    exact ⟨dif_neg hn, dif_neg hn⟩
  have hbck : Bck g2 H2 g' Hc' (sf S) := by
    refine ⟨fun i hi => ?_, fun i m hi => ?_, rfl⟩
    · have hl := live_lt hi
      have e := List.getElem?_eq_getElem hl
      refine ⟨?_, hβ i hl⟩
      unfold live at hi ⊢
      rw [hin i _ e]; rw [e] at hi; exact liveO_ren.2 hi
    · have hl := cur_lt hi
      have e := List.getElem?_eq_getElem hl
      refine ⟨?_, hhd i hl⟩
      unfold cur at hi ⊢
      rw [hin i _ e]; rw [e] at hi; rw [curT_ren]; exact hi
  -- which object a name stands for
  have hcase : ∀ j, (∃ i, i < Hc'.length ∧ sf S i = j) ∨ ∀ i, i < Hc'.length → sf S i ≠ j := fun j => by
    by_cases hx : ∃ i, i < Hc'.length ∧ sf S i = j
    · exact .inl hx
    · exact .inr fun i h1 h2 => hx ⟨i, h1, h2⟩
  have hold : ∀ i, i < Hc'.length → Hc.length ≤ i → H[sf S i]? = some .dead := fun i hi hc => by
    refine hfr _ ?_
    have h1 := sf_lt (sel := S) (i := i) (by omega)
    rw [← hS, List.getElem?_append_right (by rw [hs.1]; exact hc)] at h1
    rw [← hS]; exact List.mem_of_getElem? h1
  have hselc : ∀ i o, Hc[i]? = some o → H[sf S i]? = some (o.ren (sf sel)) := fun i o hi => by
    rw [happ i (by rw [hs.1]; exact (List.getElem?_eq_some_iff.1 hi).1)]; exact hs.2 i o hi
  have hmo : Mo g w H g2 w' H2 := by
    refine ⟨k.mo.size, k.mo.E, k.mo.cell, fun j hj => ?_, fun t m ht => ?_⟩
    · rcases hcase j with ⟨i, hi, rfl⟩ | hj'
      · by_cases hc : i < Hc.length
        · have e := List.getElem?_eq_getElem hc
          have hl : live Hc i := by unfold live at hj ⊢; rw [hselc i _ e] at hj; rw [e]; exact liveO_ren.1 hj
          obtain ⟨a, b⟩ := k.mo.live i hl
          refine ⟨(hbck.live i a).1, ?_⟩
          rw [hβ i hi, b]
          show g.β (sf sel i) = _
          rw [happ i (by rw [hs.1]; exact hc)]
        · unfold live at hj; rw [hold i hi (by omega)] at hj; exact hj.elim
      · exact ⟨by unfold live at hj ⊢; rw [hout j hj']; exact hj, (hno j hj').1⟩
    · rcases hcase t with ⟨i, hi, rfl⟩ | hj'
      · by_cases hc : i < Hc.length
        · have e := List.getElem?_eq_getElem hc
          have hl : cur Hc i = some m := by unfold cur at ht ⊢; rw [hselc i _ e] at ht; rw [e]; rw [curT_ren] at ht; exact ht
          obtain ⟨m', a, b, c⟩ := k.mo.tok i m hl
          refine ⟨m', (hbck.cur i m' a).1, b, fun q => ?_⟩
          rw [hhd i hi, c q]
          show g.h (sf sel i) = _
          rw [happ i (by rw [hs.1]; exact hc)]
        · unfold cur at ht; rw [hold i hi (by omega)] at ht; cases ht
      · exact ⟨m, by unfold cur at ht ⊢; rw [hout t hj']; exact ht, Nat.le_refl _, fun _ => (hno t hj').2⟩
  have hownc : ∀ i b, own (g.ren (sf sel)) Hc i b → own g H (sf S i) b ∧ i < Hc.length := fun i b ho => by
    obtain ⟨l, o⟩ := own_ren hs ho
    exact ⟨by rw [happ i (by rw [hs.1]; exact l)]; exact o, l⟩
  have hown1 : ∀ i b, i < Hc'.length → own g2 H2 (sf S i) b → own g' Hc' i b := fun i b hi ho => by
    have e := List.getElem?_eq_getElem hi
    unfold own at ho ⊢
    rw [hin i _ e] at ho; rw [e]
    cases hob : Hc'[i] <;> rw [hob] at ho <;> simp only [Ob.ren, ownO, hβ i hi, hhd i hi] at ho ⊢ <;> exact ho
  have hown2 : ∀ j b, (∀ i, i < Hc'.length → sf S i ≠ j) → (own g2 H2 j b ↔ own g H j b) := fun j b hj => by
    obtain ⟨e1, e2⟩ := hno j hj
    unfold own
    rw [hout j hj]
    cases H[j]? with
    | none => exact Iff.rfl
    | some o => cases o <;> simp only [ownO, e1, e2]
  have hlb : ∀ i b, i < Hc'.length → own g2 H2 (sf S i) b → (∃ i', i' < Hc.length ∧ own g H (sf S i') b) ∨ w.heap.size ≤ b := fun i b hi ho => by
    rcases k.lb i b (hown1 i b hi ho) with ⟨i', h'⟩ | h'
    · obtain ⟨a, b⟩ := hownc i' _ h'; exact .inl ⟨i', b, a⟩
    · exact .inr h'
  have hle' : ∀ i, i < Hc.length → i < Hc'.length := fun i hi => by rw [← hs.1] at hi; omega
  refine ⟨g2, ⟨k.os, k.tape, k.output, h.gl.mo hmo, hmo, fun b hb hnb => k.blk b hb fun i ho => hnb _ (hownc i b ho).1, fun j o hj => ?_, fun i j b h1 h2 => ?_, fun j b ho => ?_⟩, fun r v hv => ren_fr hbck r v hv⟩
  · rcases hcase j with ⟨i, hi, rfl⟩ | hj'
    · have e := List.getElem?_eq_getElem hi
      rw [hin i _ e] at hj; cases hj
      exact RO.ren_fr hbck e (k.ob i _ e)
    · rw [hout j hj'] at hj
      refine RO.mo hmo hj (fun b hb => k.blk b (own_lt0 h hb) fun i ho => ?_) (fun _ _ _ _ _ => (hno j hj').2) (h.ob j o hj)
      obtain ⟨a, l⟩ := hownc i b ho
      exact hj' i (hle' i l) (h.sep _ _ b a hb)
  · rcases hcase i with ⟨i1, hi, rfl⟩ | hi'
    · rcases hcase j with ⟨j1, hj, rfl⟩ | hj'
      · rw [k.sep i1 j1 b (hown1 i1 b hi h1) (hown1 j1 b hj h2)]
      · have hjo := (hown2 j b hj').1 h2
        rcases hlb i1 b hi h1 with ⟨i2, l2, o2⟩ | hge'
        · exact absurd (h.sep _ _ b o2 hjo) (hj' i2 (hle' i2 l2))
        · have := own_lt0 h hjo; omega
    · have hio := (hown2 i b hi').1 h1
      rcases hcase j with ⟨j1, hj, rfl⟩ | hj'
      · rcases hlb j1 b hj h2 with ⟨i2, l2, o2⟩ | hge'
        · exact absurd (h.sep _ _ b o2 hio) (hi' i2 (hle' i2 l2))
        · have := own_lt0 h hio; omega
      · exact h.sep i j b hio ((hown2 j b hj').1 h2)
  · rcases hcase j with ⟨i, hi, rfl⟩ | hj'
    · rcases hlb i b hi ho with ⟨i2, _, o2⟩ | hge'
      · exact .inl ⟨_, o2⟩
      · exact .inr hge'
    · exact .inl ⟨j, (hown2 j b hj').1 ho⟩
end Go.Dp
