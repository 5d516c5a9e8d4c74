/- The functions of chapter 11, in plain words: the error of a core, copies, comparisons. -/
import Derived.Test.YtpcgfeckokgbfaaGreatDoorV1
set_option linter.all false
namespace Go.Proofs.YtpcgfeckokgbfaaGreatDoor
open Go Go.Dp
/-- the operations are valid, each by its number -/
def opsB (nc : Nat) (ops : List ApiOp) : Bool := (List.range ops.length).all fun i => atB (opB nc i) ops i
def chk (c : ApiCore) : Int := if 6 < c.choices.length ∨ 3000 < c.ops.length ∨ 3000 < c.roots.length then 5 else if c.choices.all chB = false then 3 else if opsB c.choices.length c.ops = false ∨ c.roots.all (inB 0 ((c.ops.length : Int) - 1)) = false then 4 else 0
structure Sm (c : ApiCore) : Prop where
  ch : c.choices.length ≤ 1000
  ops : c.ops.length ≤ 1000000
  roots : c.roots.length ≤ 1000000
section
variable {c : ApiCore} (h : Sm c)
include h
theorem q9_1 (h1 : c.ops.length ≤ 3000) : m9_1 c 0 = some (if opsB c.choices.length c.ops = true then 0 else 4) := by
  have hc := h.ch
  unfold m9_1
  rw [lp_all (n := c.ops.length) (rT := (0 : Int)) (rF := (4 : Int)) (fun i => atB (opB c.choices.length i) c.ops i) (fun i hi => by
    have : wi ((i : Int) + 1) = i + 1 := wi_eq (by omega) (by omega)
    rw [if_pos (by simpa using hi), q34 (List.getElem?_eq_getElem hi) (by omega) (by omega), atB_lt hi, this]
    simp only [Option.bind_some]
    cases opB c.choices.length i c.ops[i] <;> rfl) (by simp) rfl]
  rfl
theorem q9 : m9 c = some (chk c) := by
  have hc := h.ch; have ho := h.ops; have hr := h.roots
  unfold m9 chk
  by_cases hl : 6 < c.choices.length ∨ 3000 < c.ops.length ∨ 3000 < c.roots.length
  · rw [if_pos hl, if_pos (by simp; omega)]
  rw [if_neg hl, if_neg (by simp; omega), q31 (by omega)]
  simp only [Option.bind_some, wi_eq (n := (c.ops.length : Int) - 1) (by omega) (by omega)]
  cases h1 : c.choices.all chB with
  | false => simp
  | true =>
    rw [q33 (by omega), if_neg (by simp), if_neg (by simp)]
    simp only [Option.bind_some]
    cases h2 : c.roots.all (inB 0 ((c.ops.length : Int) - 1)) with
    | false => simp
    | true =>
      rw [if_neg (by simp), q9_1 h (by omega)]
      cases opsB c.choices.length c.ops <;> simp
theorem q14_3 : m14_3 c 0 = some (if c.roots.all (inB 0 ((c.ops.length : Int) - 1)) = true then 0 else 4) := by
  have ho := h.ops; have hr := h.roots
  unfold m14_3
  rw [lp_all (n := c.roots.length) (rT := (0 : Int)) (rF := (4 : Int)) (atB (inB 0 ((c.ops.length : Int) - 1)) c.roots) (fun i hi => by
    have : wi ((i : Int) + 1) = i + 1 := wi_eq (by omega) (by omega)
    rw [if_pos (by simpa using hi), ix_lt hi, atB_lt hi, this]
    simp only [Option.bind_some, q39, wi_eq (n := (c.ops.length : Int) - 1) (by omega) (by omega)]
    cases inB 0 ((c.ops.length : Int) - 1) c.roots[i] <;> rfl) (by simp) rfl, all_at]
theorem q14_4 : m14_4 c 0 = some (if opsB c.choices.length c.ops = true then (if c.roots.all (inB 0 ((c.ops.length : Int) - 1)) = true then 0 else 4) else 4) := by
  have hc := h.ch; have ho := h.ops
  unfold m14_4
  rw [lp_all (n := c.ops.length) (rT := (if c.roots.all (inB 0 ((c.ops.length : Int) - 1)) = true then 0 else 4)) (rF := (4 : Int)) (fun i => atB (opB c.choices.length i) c.ops i) (fun i hi => by
    have : wi ((i : Int) + 1) = i + 1 := wi_eq (by omega) (by omega)
    rw [if_pos (by simpa using hi), ix_lt hi, atB_lt hi, this]
    simp only [Option.bind_some]
    rw [q40 (by omega) (by omega)]
    simp only [Option.bind_some]
    cases opB c.choices.length i c.ops[i] <;> rfl) (by
      rw [if_neg (by simp)]
      unfold m14_2; rw [q14_3 h]; rfl) rfl]
  rfl
theorem q14_5 : m14_5 c 0 = some (if c.choices.all chB = true then (if opsB c.choices.length c.ops = true then (if c.roots.all (inB 0 ((c.ops.length : Int) - 1)) = true then 0 else 4) else 4) else 3) := by
  have hc := h.ch
  unfold m14_5
  rw [lp_all (n := c.choices.length) (rT := (if opsB c.choices.length c.ops = true then (if c.roots.all (inB 0 ((c.ops.length : Int) - 1)) = true then 0 else 4) else 4)) (rF := (3 : Int)) (atB chB c.choices) (fun i hi => by
    have : wi ((i : Int) + 1) = i + 1 := wi_eq (by omega) (by omega)
    rw [if_pos (by simpa using hi), ix_lt hi, atB_lt hi, this]
    simp only [Option.bind_some, q39, ch_ref]
    cases chB c.choices[i] <;> rfl) (by
      rw [if_neg (by simp)]
      unfold m14_1; rw [q14_4 h]; rfl) rfl, all_at]
theorem q14 : m14 c = some (chk c) := by
  have hc := h.ch; have ho := h.ops; have hr := h.roots
  unfold m14 chk
  by_cases hl : 6 < c.choices.length ∨ 3000 < c.ops.length ∨ 3000 < c.roots.length
  · rw [if_pos hl, if_pos (by simp; omega)]
  rw [if_neg hl, if_neg (by simp; omega), q14_5 h]
  cases c.choices.all chB <;> cases opsB c.choices.length c.ops <;> cases c.roots.all (inB 0 ((c.ops.length : Int) - 1)) <;> simp
theorem q8 : m8 c = some c := by
  have hc := h.ch; have ho := h.ops; have hr := h.roots
  unfold m8
  rw [ap_nil (by omega), Option.bind_some, ap_nil (by omega), Option.bind_some, ap_nil (by omega)]; rfl
theorem q23 : m23 c = some c := q8 h
end
theorem q13 {xs ys : List Int} (h : xs.length ≤ 1000000) : m13 xs ys = some (decide (xs = ys)) := by
  unfold m13 m13_1
  by_cases e : xs.length = ys.length
  · rw [if_neg (by simp; omega), lp_all (n := xs.length) (rT := true) (rF := false) (fun i => decide (xs[i]? = ys[i]?)) (fun i hi => by
      have : wi ((i : Int) + 1) = i + 1 := wi_eq (by omega) (by omega)
      rw [if_pos (by simpa using hi), ix_lt hi, ix_lt (show i < ys.length by omega), this, List.getElem?_eq_getElem hi, List.getElem?_eq_getElem (show i < ys.length by omega)]
      by_cases q : xs[i] = ys[i] <;> simp [q]) (by simp) rfl, all_eq e _ (fun i x y hx hy => by rw [hx, hy]; simp)]
    cases decide (xs = ys) <;> rfl
  · rw [if_pos (by simp; omega), decide_eq_false (fun q => e (by rw [q]))]
theorem q16 {xs ys : List ApiValue} (h : xs.length ≤ 1000000) : m16 xs ys = some (decide (xs = ys)) := by
  unfold m16 m16_1
  by_cases e : xs.length = ys.length
  · rw [if_neg (by simp; omega), lp_all (n := xs.length) (rT := true) (rF := false) (fun i => decide (xs[i]? = ys[i]?)) (fun i hi => by
      have : wi ((i : Int) + 1) = i + 1 := wi_eq (by omega) (by omega)
      rw [if_pos (by simpa using hi), ix_lt hi, ix_lt (show i < ys.length by omega), this, List.getElem?_eq_getElem hi, List.getElem?_eq_getElem (show i < ys.length by omega)]
      by_cases q : xs[i] = ys[i] <;> simp [q]) (by simp) rfl, all_eq e _ (fun i x y hx hy => by rw [hx, hy]; simp)]
    cases decide (xs = ys) <;> rfl
  · rw [if_pos (by simp; omega), decide_eq_false (fun q => e (by rw [q]))]
theorem q25 {xs ys : List ApiValue} (h : xs.length ≤ 1000000) : m25 xs ys = some (decide (xs = ys)) := q16 h
theorem q12_2 {c d : ApiCore} (h : Sm c) (e : c.ops.length = d.ops.length) : m12_2 c d 0 = some (decide (c.ops = d.ops)) := by
  have ho := h.ops
  unfold m12_2
  rw [lp_all (n := c.ops.length) (rT := true) (rF := false) (fun i => decide (c.ops[i]? = d.ops[i]?)) (fun i hi => by
      have : wi ((i : Int) + 1) = i + 1 := wi_eq (by omega) (by omega)
      rw [if_pos (by simpa using hi), ix_lt hi, ix_lt (show i < d.ops.length by omega), this, List.getElem?_eq_getElem hi, List.getElem?_eq_getElem (show i < d.ops.length by omega)]
      by_cases q : c.ops[i] = d.ops[i] <;> simp [q]) (by simp) rfl, all_eq e _ (fun i x y hx hy => by rw [hx, hy]; simp)]
  cases decide (c.ops = d.ops) <;> rfl
theorem q12 {c d : ApiCore} (h : Sm c) : m12 c d = some (decide (c = d)) := by
  have hc := h.ch; have ho := h.ops; have hr := h.roots
  unfold m12
  by_cases e : c.choices.length = d.choices.length ∧ c.ops.length = d.ops.length
  · rw [if_neg (by simp; omega), q13 hr]
    simp only [Option.bind_some]
    by_cases er : c.roots = d.roots
    · rw [if_neg (by simp [er])]
      unfold m12_3
      rw [lp_all (n := c.choices.length) (rT := decide (c.ops = d.ops)) (rF := false) (fun i => decide (c.choices[i]? = d.choices[i]?)) (fun i hi => by
        have : wi ((i : Int) + 1) = i + 1 := wi_eq (by omega) (by omega)
        rw [if_pos (by simpa using hi), ix_lt hi, ix_lt (show i < d.choices.length by omega), this, List.getElem?_eq_getElem hi, List.getElem?_eq_getElem (show i < d.choices.length by omega)]
        by_cases q : c.choices[i] = d.choices[i] <;> simp [q]) (by
          rw [if_neg (by simp)]
          unfold m12_1; rw [q12_2 h e.2]; rfl) rfl, all_eq e.1 _ (fun i x y hx hy => by rw [hx, hy]; simp)]
      by_cases e1 : c.choices = d.choices
      · rw [decide_eq_true e1, if_pos rfl]
        congr 1
        rw [Bool.eq_iff_iff, decide_eq_true_eq, decide_eq_true_eq]
        constructor
        · intro e2; cases c; cases d; simp_all
        · intro e2; rw [e2]
      · rw [decide_eq_false e1, if_neg (by simp), decide_eq_false (fun q => e1 (by rw [q]))]
    · rw [if_pos (by simp [er]), decide_eq_false (fun q => er (by rw [q]))]
  · rw [if_pos (by simp; omega), decide_eq_false (fun q => e (by subst q; exact ⟨rfl, rfl⟩))]
theorem q24 {xs : List Int} (h : xs.length ≤ 1000000) : m24 xs = some xs := by
  unfold m24; rw [ap_nil (by omega)]; rfl
/-! parameters and worlds -/
def parB (ops : List ApiOp) : Bool := ops.any fun x => decide (x.code = 4)
/-- a choice's number -/
def wAt (c : ApiCore) (w : List Int) (i : Nat) : Bool := match c.choices[i]?, w[i]? with | some x, some n => inB x.lo x.hi n | _, _ => true
theorem wAt_lt {c : ApiCore} {w : List Int} {i : Nat} (h : i < c.choices.length) (h2 : i < w.length) : wAt c w i = inB c.choices[i].lo c.choices[i].hi w[i] := by unfold wAt; rw [List.getElem?_eq_getElem h, List.getElem?_eq_getElem h2]
def wldB (c : ApiCore) (w : List Int) : Bool := decide (c.choices.length = w.length) && (List.range c.choices.length).all (wAt c w)
def opnE (c : ApiCore) (w : List Int) : Int := if chk c ≠ 0 then chk c else if parB c.ops = true then 9 else if wldB c w = false then 3 else 0
theorem q35 {ops : List ApiOp} (h : ops.length ≤ 1000000) : m35i2 ops = some (parB ops) := by
  unfold m35i2 m63i2 m63i2_1
  obtain ⟨r, h1, h2⟩ := find_any (xs := ops) (f := m36) (p := fun x => decide (x.code = 4)) (by omega) (fun x _ => rfl)
  rw [h1, parB]
  rcases h2 with ⟨h3, h4, _⟩ | ⟨h3, rfl⟩
  · rw [h3]; simpa using h4
  · rw [h3]; rfl
theorem q37 {c : ApiCore} {w : List Int} (h : Sm c) : m37 c w = some (wldB c w) := by
  have hc := h.ch
  unfold m37 m64i1 m64i1_1 wldB
  by_cases e : c.choices.length = w.length
  · rw [if_neg (by simp; omega), decide_eq_true e, lp_all (n := c.choices.length) (rT := true) (rF := false) (wAt c w) (fun i hi => by
      have : wi ((i : Int) + 1) = i + 1 := wi_eq (by omega) (by omega)
      rw [if_pos (by simpa using hi), ix_lt hi, ix_lt (show i < w.length by omega), this, wAt_lt hi (by omega)]
      simp only [Option.bind_some, m65i1, q33 (xs := [w[i]]) (by simp), List.all_cons, List.all_nil, Bool.and_true]
      by_cases q : inB c.choices[i].lo c.choices[i].hi w[i] = true <;> simp [q]) (by simp) rfl]
    cases (List.range c.choices.length).all (wAt c w) <;> rfl
  · rw [if_pos (by simp; omega), decide_eq_false e]; rfl
end Go.Proofs.YtpcgfeckokgbfaaGreatDoor
