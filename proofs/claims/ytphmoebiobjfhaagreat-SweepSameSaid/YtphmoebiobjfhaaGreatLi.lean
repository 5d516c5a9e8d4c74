/-
  The arguments of a law, opened: a core, a choice of rewrites; what a walk in plain words gives for the given statement. Any seat.
-/
import Derived.Test.YtphmoebiobjfhaaGreatTd
import Derived.ProofKit
import Derived.Deep.Slices
import Derived.Deep.Strs
import Derived.Lib.SmallJoins
import Derived.Carry
set_option linter.all false
namespace Go.Mi
open Go Go.RowKit
section
variable {H : Type} {enc : TypeId × Value → H} {P : Program} {w : World} {base b0 : Nat} {spare : Nat → Bool} {held : Bool} {r : Reach}
theorem choice_lt {α : Type} (d : α) {p : Nat → α → Prop} : ∀ m : Nat, (∀ i, i < m → ∃ x, p i x) → ∃ xs : List α, xs.length = m ∧ ∀ i x, xs[i]? = some x → p i x
 | 0, _ => ⟨[], rfl, fun i x h => by simp at h⟩
 | m + 1, h => by
  obtain ⟨xs, hl, hx⟩ := choice_lt d m fun i hi => h i (Nat.lt_succ_of_lt hi)
  obtain ⟨y, hy⟩ := h m (Nat.lt_succ_self m);refine ⟨xs ++ [y], by simp [hl], fun i x hix => ?_⟩
  by_cases hi : i < m
  ·rw [List.getElem?_append_left (by omega)] at hix; exact hx i x hix
  ·have hlt : i < (xs ++ [y]).length := (List.getElem?_eq_some_iff.1 hix).1
   have hi' : i = m := by simp [hl] at hlt; omega
   subst hi';rw [List.getElem?_append_right (by omega)] at hix
   simp [hl] at hix; exact hix ▸ hy
theorem sl_of {α : Type} {t e : TypeId} {k n : Nat} {en : α → List Value} {v : Value} {x : DataW H × List MemPlace} (d : α) (ht : P.underlying t = some (.slice e)) (hk : P.cellsOf e = k) (hl : ∀ y, (en y).length = k) (hp : 0 < k)
  (hel : ∀ n cs x, DataW.trod enc P w base spare held n e cs = some x → ∃ y : α, cs = en y)
  (hc : Cell.okWide P w r b0 t v) (h : DataW.trod enc P w base spare held n t [v] = some x) : ∃ xs, SL w v k en xs := by
 subst hk
 rcases Go.Deep.open_slice ht h with ⟨hcs, _⟩ | ⟨a, len, cap, m, n', D, Pl, hcs, _, hle, _, hm, _, hx⟩
 ·simp only [List.cons.injEq, and_true] at hcs; subst hcs
  exact ⟨[], SL.nil fun y => by rw [hl]; exact hp⟩
 ·simp only [List.cons.injEq, and_true] at hcs; subst hcs
  have hspot : a.spot = none := by
   simp only [Cell.okWide, ht, Cell.ok] at hc
   exact hc.2.2.2.1
  obtain ⟨ab, ao, asp⟩ := a
  simp only at hspot; subst hspot
  obtain ⟨xs, hxl, hxs⟩ := choice_lt (p := fun i y => w.cells? base (Addr.add ⟨ab, ao, none⟩ (i * P.cellsOf e)) (P.cellsOf e) = some (en y)) d len fun i hi => by
   obtain ⟨cs', h1, h2⟩ := hx i (by subst hm; split <;> omega);obtain ⟨y, rfl⟩ := hel _ _ _ h2;exact ⟨y, h1⟩
  refine ⟨xs, .inr ⟨by rw [hxl]; rfl, by rw [hxl]; exact hle⟩, fun i y hi => ?_, fun y => by rw [hl]; exact hp⟩;obtain ⟨_, _, hcell⟩ := World.cells?_some (hxs i y hi);intro j hj;rw [hl] at hj;have := hcell j hj;rw [Go.WideShapes.add_plain, Go.WideShapes.add_plain] at this; exact this
theorem trod_struct5 {t : TypeId} {f0 f1 f2 f3 f4 : Field} {fuel : Nat} {cs : List Value} {x : DataW H × List MemPlace} (ht : P.underlying t = some (.struct #[f0, f1, f2, f3, f4])) (h : DataW.trod enc P w base spare held fuel t cs = some x) :
  ∃ y0 y1 y2 y3 y4 n, cs.length = P.cellsOf t ∧ DataW.trod enc P w base spare held n f0.type ((cs.drop f0.offset).take (P.cellsOf f0.type)) = some y0 ∧
   DataW.trod enc P w base spare held n f1.type ((cs.drop f1.offset).take (P.cellsOf f1.type)) = some y1 ∧ DataW.trod enc P w base spare held n f2.type ((cs.drop f2.offset).take (P.cellsOf f2.type)) = some y2 ∧
   DataW.trod enc P w base spare held n f3.type ((cs.drop f3.offset).take (P.cellsOf f3.type)) = some y3 ∧ DataW.trod enc P w base spare held n f4.type ((cs.drop f4.offset).take (P.cellsOf f4.type)) = some y4 := by
 obtain ⟨xs, n, _, rfl, hl, hlen, hf⟩ := DataW.trod_struct ht h
 match xs, hlen with
 | [y0, y1, y2, y3, y4], _ => exact ⟨y0, y1, y2, y3, y4, n, hl, by simpa using hf 0 f0 rfl, by simpa using hf 1 f1 rfl, by simpa using hf 2 f2 rfl, by simpa using hf 3 f3 rfl, by simpa using hf 4 f4 rfl⟩
theorem okWide_row {fs : Array Field} {t : TypeId} {v : Value} (ht : P.underlying t = some (.struct fs)) (h : Value.okWide P w r b0 t v) : ∃ cs, v = .agg cs ∧ Row.okWide P w r b0 t cs := by
 simp only [Value.okWide, ht] at h
 obtain ⟨cs, h1, _, h2⟩ := h;exact ⟨cs, h1, h2⟩
end
end Go.Mi
