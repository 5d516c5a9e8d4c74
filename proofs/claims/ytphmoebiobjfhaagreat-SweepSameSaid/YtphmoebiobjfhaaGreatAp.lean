/- What an applied rewrite does to a state, step by step. No program. -/
import Derived.Test.YtphmoebiobjfhaaGreatSw
set_option linter.all false
namespace Go.Mi
open Go Go.RowKit
/-! a list that is changed from the left -/
def prt {α : Type} (f : α → α) (l : List α) (k : Nat) : List α := (l.take k).map f ++ l.drop k
section
variable {α : Type} {f : α → α} {l : List α} {k : Nat}
theorem prt_zero : prt f l 0 = l := by simp [prt]
theorem prt_end (h : l.length ≤ k) : prt f l k = l.map f := by simp [prt, List.take_of_length_le h, List.drop_eq_nil_of_le h]
theorem prt_len : (prt f l k).length = l.length := by simp [prt]; omega
theorem prt_get (hk : k ≤ l.length) : (prt f l k)[k]? = l[k]? := by
 have h : ((l.take k).map f).length = k := by simp [Nat.min_eq_left hk]
 rw [prt, List.getElem?_append_right (by omega), h, Nat.sub_self, List.getElem?_drop, Nat.add_zero]
theorem prt_set {y : α} (h : l[k]? = some y) : (prt f l k).set k (f y) = prt f l (k + 1) := by
 have hk := (List.getElem?_eq_some_iff.1 h).1
 have hl : ((l.take k).map f).length = k := by simp [Nat.min_eq_left (Nat.le_of_lt hk)]
 have hd : l.drop k = y :: l.drop (k + 1) := by rw [List.drop_eq_getElem_cons hk, (List.getElem?_eq_some_iff.1 h).2]
 rw [prt, List.set_append_right _ _ (by omega), hl, Nat.sub_self, hd, List.set_cons_zero, prt, take_succ_get h, List.map_append, List.append_assoc]; rfl
theorem set_same {l : List α} {k : Nat} {y : α} (h : l[k]? = some y) : l.set k y = l := by
 apply List.ext_getElem?; intro j
 rw [List.getElem?_set]; split
 ·rename_i e; subst e; rw [h, if_pos (List.getElem?_eq_some_iff.1 h).1]
 ·rfl
theorem set_get {l : List α} {k : Nat} {y : α} (h : k < l.length) : (l.set k y)[k]? = some y := by rw [List.getElem?_set, if_pos rfl, if_pos h]
end
theorem rangeSplit {n j : Nat} {pre post : List Nat} (h : List.range n = pre ++ j :: post) : j = pre.length ∧ j < n := by
 have h1 := congrArg (fun l => l[pre.length]?) h
 simp only [List.getElem?_append_right (Nat.le_refl _), Nat.sub_self, List.getElem?_cons_zero] at h1
 have hl := congrArg List.length h
 simp only [List.length_range, List.length_append, List.length_cons] at hl
 rw [List.getElem?_range (by omega)] at h1;cases h1; exact ⟨rfl, by omega⟩
/-! operands one after another -/
def turnK (i t : Int) (m : Nat) (x : Ot) : Ot := { x with a := if 1 ≤ m then turnI i t x.a else x.a, b := if 2 ≤ m then turnI i t x.b else x.b, c := if 3 ≤ m then turnI i t x.c else x.c }
theorem turnK_zero (i t : Int) (x : Ot) : turnK i t 0 x = x := by simp [turnK]
theorem turnK_all (i t : Int) (x : Ot) : turnK i t (arN x.code) x = turnO i t x := rfl
theorem turnK_get (i t : Int) (x : Ot) {j : Nat} (hj : j < 3) : (opndR (turnK i t j x)).getD j 0 = (opndR x).getD j 0 := by
 match j, hj with
 | 0, _ => simp [turnK, opndR]
 | 1, _ => simp [turnK, opndR]
 | 2, _ => simp [turnK, opndR]
theorem turnK_set (i t : Int) (x : Ot) {j : Nat} (hj : j < 3) : encO (turnK i t (j + 1) x) = setAll (encO (turnK i t j x)) (1 + j) [.int .i64 (turnI i t ((opndR x).getD j 0))] := by
 match j, hj with
 | 0, _ => simp [turnK, opndR, encO, setAll]
 | 1, _ => simp [turnK, opndR, encO, setAll]
 | 2, _ => simp [turnK, opndR, encO, setAll]
theorem turnK_same (i t : Int) (x : Ot) {j : Nat} (hj : j < 3) (h : (opndR x).getD j 0 ≠ i) : turnK i t (j + 1) x = turnK i t j x := by
 match j, hj with
 | 0, _ => simp [opndR] at h; simp [turnK, turnI, h]
 | 1, _ => simp [opndR] at h; simp [turnK, turnI, h]
 | 2, _ => simp [opndR] at h; simp [turnK, turnI, h]
theorem opnd_cells {w : World} {b o j : Nat} {x : Ot} (h : Cells w b o (encO x)) (hj : j < 3) : w.cell? ⟨b, o + (1 + j), none⟩ = some (.int .i64 ((opndR x).getD j 0)) := by
 rw [h (1 + j) (by simp [encO]; omega)]
 match j, hj with
 | 0, _ => rfl
 | 1, _ => rfl
 | 2, _ => rfl
/-! a state whose operations, or roots, change -/
theorem dis_ne {l : List (Option Nat)} (h : l.Pairwise fun a b => ∀ k, a = some k → b ≠ some k) {i j : Nat} {a b : Option Nat} (hi : l[i]? = some a) (hj : l[j]? = some b) (hij : i ≠ j) : ∀ k, a = some k → b ≠ some k := fun k ha hb => by
 rw [List.pairwise_iff_getElem] at h;obtain ⟨hi', ei⟩ := List.getElem?_eq_some_iff.1 hi;obtain ⟨hj', ej⟩ := List.getElem?_eq_some_iff.1 hj
 rcases Nat.lt_or_gt_of_ne hij with hlt | hlt
 ·exact h i j hi' hj' hlt k (ei.trans ha) (ej.trans hb)
 ·exact h j i hj' hi' hlt k (ej.trans hb) (ei.trans ha)
section
variable {Y : StTy} {lo : Nat} {w w' : World} {bs rM : Nat} {vC vO vR vU vT : Value} {C : Co} {us tr : List Bool} {kv : List (Ot × Int)}
theorem St.setO {ops' : List Ot} (h : St Y lo w bs rM vC vO vR vU vT C us tr kv) (hc : Chg (fun b => vO.ownBlock = some b) w w') (ho : OS w' vO Y.o 5 encO ops' lo) : St Y lo w' bs rM vC vO vR vU vT ⟨C.ch, ops', C.roots⟩ us tr kv :=
 ⟨h.blk.chg hc (fun e => dis_ne h.dis (i := 3) (j := 0) rfl rfl (by decide) _ e rfl), h.oC.chg hc (fun b e e2 => dis_ne h.dis (i := 2) (j := 3) rfl rfl (by decide) b e e2), ho, h.oR.chg hc (fun b e e2 => dis_ne h.dis (i := 4) (j := 3) rfl rfl (by decide) b e e2),
  h.oU.chg hc (fun b e e2 => dis_ne h.dis (i := 5) (j := 3) rfl rfl (by decide) b e e2), h.oT.chg hc (fun b e e2 => dis_ne h.dis (i := 6) (j := 3) rfl rfl (by decide) b e e2), h.mp.chg hc (fun e => dis_ne h.dis (i := 3) (j := 1) rfl rfl (by decide) _ e rfl), h.lob, h.lom, h.dis⟩
theorem St.setR {roots' : List Int} (h : St Y lo w bs rM vC vO vR vU vT C us tr kv) (hc : Chg (fun b => vR.ownBlock = some b) w w') (ho : OS w' vR Y.r 1 encI roots' lo) : St Y lo w' bs rM vC vO vR vU vT ⟨C.ch, C.ops, roots'⟩ us tr kv :=
 ⟨h.blk.chg hc (fun e => dis_ne h.dis (i := 4) (j := 0) rfl rfl (by decide) _ e rfl), h.oC.chg hc (fun b e e2 => dis_ne h.dis (i := 2) (j := 4) rfl rfl (by decide) b e e2), h.oO.chg hc (fun b e e2 => dis_ne h.dis (i := 3) (j := 4) rfl rfl (by decide) b e e2), ho,
  h.oU.chg hc (fun b e e2 => dis_ne h.dis (i := 5) (j := 4) rfl rfl (by decide) b e e2), h.oT.chg hc (fun b e e2 => dis_ne h.dis (i := 6) (j := 4) rfl rfl (by decide) b e e2), h.mp.chg hc (fun e => dis_ne h.dis (i := 4) (j := 1) rfl rfl (by decide) _ e rfl), h.lob, h.lom, h.dis⟩
theorem St.nO (h : St Y lo w bs rM vC vO vR vU vT C us tr kv) : 0 < C.ops.length → sb vO ≠ bs := fun hp e => dis_ne h.dis (i := 3) (j := 0) rfl rfl (by decide) _ (sb_own h.oO.sl hp) (by rw [e])
theorem St.nR (h : St Y lo w bs rM vC vO vR vU vT C us tr kv) : 0 < C.roots.length → sb vR ≠ bs := fun hp e => dis_ne h.dis (i := 4) (j := 0) rfl rfl (by decide) _ (sb_own h.oR.sl hp) (by rw [e])
theorem St.relook {rM' : Nat} {vU' vT' : Value} (h : St Y lo w bs rM vC vO vR vU vT C us tr kv) (hc : Chg (· = bs) w w') (hB : Blk w' bs [vC, vO, vR, vU', vT', .map (some rM')] Y.s) (hU : OS w' vU' Y.b 1 encB (usedR C) w.heap.size)
  (hT : OS w' vT' Y.b 1 encB (truthsR C.ops) w.heap.size) (hM : Mp w' rM' valO valI (firstR C.ops)) (hr : w.heap.size ≤ rM') (hUT : ∀ b, vU'.ownBlock = some b → vT'.ownBlock ≠ some b) : StF Y lo w' bs rM' vC vO vR vU' vT' C := by
 have hlt := h.blk.lt;have hl0 := h.lob
 exact ⟨hB, h.oC.chg hc (fun b e e2 => dis_ne h.dis (i := 2) (j := 0) rfl rfl (by decide) b e (by rw [e2])), h.oO.chg hc (fun b e e2 => dis_ne h.dis (i := 3) (j := 0) rfl rfl (by decide) b e (by rw [e2])), h.oR.chg hc (fun b e e2 => dis_ne h.dis (i := 4) (j := 0) rfl rfl (by decide) b e (by rw [e2])),
  hU.le (by omega), hT.le (by omega), hM, h.lob, by omega, dis7 (B := w.heap.size) hlt hr (fun k e => ⟨(h.oC.lt e).2, fun e2 => dis_ne h.dis (i := 2) (j := 0) rfl rfl (by decide) k e (by rw [e2])⟩) (fun k e => ⟨(h.oO.lt e).2, fun e2 => dis_ne h.dis (i := 3) (j := 0) rfl rfl (by decide) k e (by rw [e2])⟩)
   (fun k e => ⟨(h.oR.lt e).2, fun e2 => dis_ne h.dis (i := 4) (j := 0) rfl rfl (by decide) k e (by rw [e2])⟩) (dis_ne h.dis (i := 2) (j := 3) rfl rfl (by decide)) (dis_ne h.dis (i := 2) (j := 4) rfl rfl (by decide)) (dis_ne h.dis (i := 3) (j := 4) rfl rfl (by decide))
   (fun k e => ⟨(hU.lt e).1, hU.ne_map hM e⟩) (fun k e => ⟨(hT.lt e).1, hT.ne_map hM e⟩) hUT⟩
theorem St.ne_mark {ms : List Nat} (h : St Y lo w bs rM vC vO vR vU vT C us tr kv) (hM : Marks w ms) : ∀ k, StB bs rM vC vO vR vU vT k → ¬ k ∈ ms := fun k hk hm => by
 simp only [StB, ids, List.mem_cons, List.mem_nil_iff, or_false, Option.some.injEq] at hk
 rcases hk with rfl | rfl | hk | hk | hk | hk | hk
 ·exact hM.ne h.blk _ hm rfl
 ·exact h.mp.ne_mark hM hm
 ·exact h.oC.ne_mark hM hk.symm _ hm rfl
 ·exact h.oO.ne_mark hM hk.symm _ hm rfl
 ·exact h.oR.ne_mark hM hk.symm _ hm rfl
 ·exact h.oU.ne_mark hM hk.symm _ hm rfl
 ·exact h.oT.ne_mark hM hk.symm _ hm rfl
theorem StB.O {k : Nat} (e : vO.ownBlock = some k) : StB bs rM vC vO vR vU vT k := by simp [StB, ids, e]
theorem StB.R {k : Nat} (e : vR.ownBlock = some k) : StB bs rM vC vO vR vU vT k := by simp [StB, ids, e]
theorem StB.self : StB bs rM vC vO vR vU vT bs := by simp [StB, ids]
/-- the blocks that a rewrite changes -/
def StC (bs : Nat) (vO vR : Value) (k : Nat) : Prop := k = bs ∨ vO.ownBlock = some k ∨ vR.ownBlock = some k
theorem StC.O {k : Nat} (e : vO.ownBlock = some k) : StC bs vO vR k := .inr (.inl e)
theorem StC.R {k : Nat} (e : vR.ownBlock = some k) : StC bs vO vR k := .inr (.inr e)
theorem StC.self : StC bs vO vR bs := .inl rfl
theorem StC.st {k : Nat} (h : StC bs vO vR k) : StB bs rM vC vO vR vU vT k := by
 rcases h with rfl | h | h
 ·exact StB.self
 ·exact StB.O h
 ·exact StB.R h
theorem StB.new {rM' N : Nat} {vU' vT' : Value} (hr : N ≤ rM') (hU : ∀ k, vU'.ownBlock = some k → N ≤ k) (hT : ∀ k, vT'.ownBlock = some k → N ≤ k) : ∀ k, StB bs rM' vC vO vR vU' vT' k → N ≤ k ∨ StB bs rM vC vO vR vU vT k := fun k hk => by
 simp only [StB, ids, List.mem_cons, List.mem_nil_iff, or_false, Option.some.injEq] at hk ⊢
 rcases hk with rfl | rfl | hk | hk | hk | hk | hk
 ·simp
 ·exact .inl hr
 ·simp [hk]
 ·simp [hk]
 ·simp [hk]
 ·exact .inl (hU k hk.symm)
 ·exact .inl (hT k hk.symm)
/-- a state between two rewrites: only its own blocks have changed since w0 -/
def ApC (w0 : World) (bs : Nat) (vO vR : Value) (w : World) : Prop := Chg (fun k => w0.heap.size ≤ k ∨ StC bs vO vR k) w0 w
end
/-! steps -/
structure Sx where
 C : Co
 l : List Rw
 b : Nat
 rM : Nat
 vU : Value
 vT : Value
 u : Value
/-- what is left to do -/
def StepI (C : Co) (x : Sx) : Prop := x.l ++ (stepsR x.C).1 = (stepsR C).1 ∧ (stepsR x.C).2 = (stepsR C).2
theorem StepI.next {C : Co} {x : Sx} (h : StepI C x) (hck : checkR x.C = 0) {r : Rw} (hr : nextR x.C = some r) (y : Sx) (h1 : y.C = appR x.C r) (h2 : y.l = x.l ++ [r]) : StepI C y := by
 unfold StepI at *
 rw [steps_some hck hr] at h;rw [h1, h2]; exact ⟨by rw [List.append_assoc]; exact h.1, h.2⟩
theorem StepI.len {C : Co} {x : Sx} (h : StepI C x) (hck : checkR C = 0) : x.l.length ≤ 50000000 := by
 have h1 := congrArg List.length h.1;rw [List.length_append] at h1;have h2 := (steps_len hck).1;have h3 := refs_bound hck
 omega
theorem StepI.done {C : Co} {x : Sx} (h : StepI C x) (hn : nextR x.C = none) : x.l = (stepsR C).1 ∧ x.C = (stepsR C).2 := by
 unfold StepI at h
 have : stepsR x.C = ([], x.C) := steps_none hn _;rw [this] at h
 simpa using h
end Go.Mi
