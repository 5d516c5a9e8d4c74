/- What the law of nothing left needs, in plain words. No program's text. -/
import Derived.Test.YtphmoebiobjfhaaPl
import Derived.Test.YtphmoebiobjfhaaCo
set_option linter.all false
namespace Go.Mi
open Go Go.RowKit
theorem few_steps {C : Co} (h : GoodC C) : (stepsR C).1.length ≤ 9000 := by
 have hck := h.check;have h1 := (steps_len hck).1;have h2 := refs_few hck (n := 34) (m := 3) (by have := h.len.2; omega) (by have := h.roots; omega)
 omega
/-- what is marked: roots, and operands of the operations from k on -/
def Mk (A : Co) (k : Nat) (us : List Bool) : Prop := us.length = A.ops.length ∧ (∀ j ∈ A.roots, getB us j = true) ∧ ∀ (m : Nat) (y : Ot), k ≤ m → A.ops[m]? = some y → ∀ j ∈ opsOf y, getB us j = true
theorem Mk.roots {A : Co} (hA : checkR A = 0) : Mk A A.ops.length (A.roots.foldl setB (List.replicate A.ops.length false)) :=
 ⟨by rw [setB_len, List.length_replicate], fun j hj => getB_fold ((check_ok hA).2.1 j hj).1 _ _ (by rw [List.length_replicate]; exact ((check_ok hA).2.1 j hj).2) (.inr hj) fun k hk => ((check_ok hA).2.1 k hk).1,
  fun m y hm hy => by have := (List.getElem?_eq_some_iff.1 hy).1; omega⟩
theorem Mk.step {A : Co} (hA : checkR A = 0) {k : Nat} {us : List Bool} {y : Ot} (h : Mk A (k + 1) us) (hy : A.ops[k]? = some y) : Mk A k (usedOp us y) := by
 obtain ⟨h1, h2, h3⟩ := h;have hkl := (List.getElem?_eq_some_iff.1 hy).1;have hop := (check_ok hA).2.2 k y hy;have hb := (isOpB_spec hop).2.1
 have keep : ∀ j : Int, 0 ≤ j → j < us.length → getB us j = true → getB (usedOp us y) j = true := fun j h0 hl hj => getB_fold h0 _ us hl (.inl hj) fun n hn => (hb n hn).1
 refine ⟨by unfold usedOp; rw [setB_len]; exact h1, fun j hj => ?_, fun m z hm hz j hj => ?_⟩
 ·have := (check_ok hA).2.1 j hj
  exact keep j this.1 (by omega) (h2 j hj)
 ·have hml := (List.getElem?_eq_some_iff.1 hz).1
  have hjb := (isOpB_spec ((check_ok hA).2.2 m z hz)).2.1 j hj
  by_cases e : m = k
  ·subst e
   rw [hy] at hz; cases hz
   exact getB_fold hjb.1 _ us (by omega) (.inr hj) fun n hn => (hb n hn).1
  ·exact keep j hjb.1 (by omega) (h3 m z (by omega) hz j hj)
theorem Mk.used {E : Co} (hE : checkR E = 0) {k : Nat} {us : List Bool} (h : Mk (tidyR E) (k + 1) us) (hk : k < (tidyR E).ops.length) : us[k]? = some true := by
 obtain ⟨h1, h2, h3⟩ := h
 have hg : getB us (k : Int) = true := by
  rcases tidy_used hE (k := (k : Int)) (by omega) (by omega) with h | ⟨y, hy, hj⟩
  ·exact h2 _ h
  ·obtain ⟨m, hm⟩ := List.getElem?_of_mem hy
   have hb := (isOpB_spec ((check_ok (tidyR_check hE)).2.2 m y hm)).2.1 _ hj;exact h3 m y (by omega) hm _ hj
 have hs := getB_some (l := us) (i := (k : Int)) (by omega) (by omega);rw [hg] at hs; simpa using hs
theorem usedOp_0 {us : List Bool} {y : Ot} (h1 : 1 ≤ y.code) (h : ¬ 5 ≤ y.code) : us = usedOp us y := by
 have ha : arN y.code = 0 := by unfold arN; rw [if_pos (by omega)]
 unfold usedOp; rw [ha]; rfl
theorem usedOp_1 {us : List Bool} {y : Ot} (h1 : 5 ≤ y.code) (h : ¬ 7 ≤ y.code) : us.set y.a.toNat true = usedOp us y := by
 have ha : arN y.code = 1 := by unfold arN; rw [if_neg (by omega), if_pos (by omega)]
 unfold usedOp; rw [ha]; rfl
theorem usedOp_2 {us : List Bool} {y : Ot} (h1 : 7 ≤ y.code) (h2 : y.code ≤ 17) (h : ¬ y.code = 17) : (us.set y.a.toNat true).set y.b.toNat true = usedOp us y := by
 have ha : arN y.code = 2 := by unfold arN; rw [if_neg (by omega), if_neg (by omega), if_pos (by omega)]
 unfold usedOp; rw [ha]; rfl
theorem usedOp_3 {us : List Bool} {y : Ot} (h : y.code = 17) : ((us.set y.a.toNat true).set y.b.toNat true).set y.c.toNat true = usedOp us y := by
 have ha : arN y.code = 3 := by rw [h]; rfl
 unfold usedOp; rw [ha]; rfl
/-- operands lie below, or are 0 -/
theorem opnd_box {A : Co} (hA : checkR A = 0) {k : Nat} {y : Ot} (hy : A.ops[k]? = some y) : (0 ≤ y.a ∧ (y.a < k ∨ y.a = 0)) ∧ (0 ≤ y.b ∧ (y.b < k ∨ y.b = 0)) ∧ 0 ≤ y.c ∧ (y.c < k ∨ y.c = 0) := by
 obtain ⟨_, ya, yb, yc, za, zb, zc⟩ := opnd_iff.1 ((check_ok hA).2.2 k y hy);refine ⟨?_, ?_, ?_⟩
 ·by_cases q : 1 ≤ arN y.code
  ·have := ya q; omega
  ·have := za (by omega); omega
 ·by_cases q : 2 ≤ arN y.code
  ·have := yb q; omega
  ·have := zb (by omega); omega
 ·by_cases q : 3 ≤ arN y.code
  ·have := yc q; omega
  ·have := zc (by omega); omega
theorem box_max {k : Nat} {x a b c : Int} (hx : x = (k : Int)) (ha : 0 ≤ a ∧ (a < k ∨ a = 0)) (hb : 0 ≤ b ∧ (b < k ∨ b = 0)) (hc : 0 ≤ c ∧ (c < k ∨ c = 0)) : ¬ max x 1 ≤ max (max a b) c ∧ ¬ min (min a b) c < 0 := by
 have h1 : a < max x 1 := by rcases ha.2 with h | h <;> omega
 have h2 : b < max x 1 := by rcases hb.2 with h | h <;> omega
 have h3 : c < max x 1 := by rcases hc.2 with h | h <;> omega
 have h4 := ha.1; have h5 := hb.1; have h6 := hc.1;clear ha hb hc;exact ⟨by omega, by omega⟩
end Go.Mi
