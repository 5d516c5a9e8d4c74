/-
  The arguments of the laws without the reference, opened: lists of four bytes, bytes. Any seat.
-/
import Derived.Test.YtphmoebiobjfhaaGreatLi
import Derived.Test.YtphmoebiobjfhaaGreatPl
import Derived.OpenShut
set_option linter.all false
namespace Go.Mi
open Go Go.RowKit
section
variable {H : Type} {enc : TypeId × Value → H} {P : Program} {w : World} {base b0 : Nat} {spare : Nat → Bool} {held : Bool} {r : Reach}
theorem sl_ok {α : Type} {ok : α → Prop} {t e : TypeId} {k n : Nat} {en : α → List Value} {v : Value} {x : DataW H × List MemPlace} (d : α) (ht : P.underlying t = some (.slice e)) (hk : P.cellsOf e = k) (hl : ∀ y, (en y).length = k) (hp : 0 < k)
  (hel : ∀ n cs x, DataW.trod enc P w base spare held n e cs = some x → ∃ y : α, cs = en y ∧ ok y)
  (hc : Cell.okWide P w r b0 t v) (h : DataW.trod enc P w base spare held n t [v] = some x) : ∃ xs, SL w v k en xs ∧ ∀ y ∈ xs, ok y := by
 subst hk
 rcases Go.Deep.open_slice ht h with ⟨hcs, _⟩ | ⟨a, len, cap, m, n', D, Pl, hcs, _, hle, _, hm, _, hx⟩
 ·simp only [List.cons.injEq, and_true] at hcs; subst hcs
  exact ⟨[], SL.nil fun y => by rw [hl]; exact hp, by simp⟩
 ·simp only [List.cons.injEq, and_true] at hcs; subst hcs
  have hspot : a.spot = none := by
   simp only [Cell.okWide, ht, Cell.ok] at hc
   exact hc.2.2.2.1
  obtain ⟨ab, ao, asp⟩ := a
  simp only at hspot; subst hspot
  obtain ⟨xs, hxl, hxs⟩ := choice_lt (p := fun i y => w.cells? base (Addr.add ⟨ab, ao, none⟩ (i * P.cellsOf e)) (P.cellsOf e) = some (en y) ∧ ok y) d len fun i hi => by
   obtain ⟨cs', h1, h2⟩ := hx i (by subst hm; split <;> omega);obtain ⟨y, rfl, hy⟩ := hel _ _ _ h2;exact ⟨y, h1, hy⟩
  refine ⟨xs, ⟨.inr ⟨by rw [hxl]; rfl, by rw [hxl]; exact hle⟩, fun i y hi => ?_, fun y => by rw [hl]; exact hp⟩, fun y hy => ?_⟩
  ·obtain ⟨_, _, hcell⟩ := World.cells?_some (hxs i y hi).1
   intro j hj;rw [hl] at hj;have := hcell j hj;rw [Go.WideShapes.add_plain, Go.WideShapes.add_plain] at this; exact this
  ·obtain ⟨i, hi⟩ := List.getElem?_of_mem hy
   exact (hxs i y hi).2
theorem byte_ok {n : Int} (h : (Lit.int .u8 n).wf = true) : 0 ≤ n ∧ n ≤ 255 := by
 simp [Lit.wf, IntKind.min, IntKind.max, IntKind.signed, IntKind.bits] at h; omega
theorem el_byte {e : TypeId} (he : P.underlying e = some (.int .u8)) (n : Nat) (cs : List Value) (x : DataW H × List MemPlace) (h : DataW.trod enc P w base spare held n e cs = some x) : ∃ y : Int, cs = encU y ∧ (0 ≤ y ∧ y ≤ 255) := by
 obtain ⟨s, hs, _, hw⟩ := DataW.trod_int he h;exact ⟨s, hs, byte_ok hw⟩
theorem el_quad {t e : TypeId} (ht : P.underlying t = some (.array 4 e)) (he : P.underlying e = some (.int .u8)) (hce : P.cellsOf e = 1) (hct : P.cellsOf t = 4) (n : Nat) (cs : List Value) (x : DataW H × List MemPlace) (h : DataW.trod enc P w base spare held n t cs = some x) : ∃ y : Qd, cs = encQ y ∧ okQ y := by
 obtain ⟨ys, m, _, _, hl, hyl, hel⟩ := DataW.trod_array ht h;rw [hct] at hl;rw [hce] at hel
 match cs, hl, ys, hyl with
 | [c0, c1, c2, c3], _, [y0, y1, y2, y3], _ =>
  obtain ⟨p, hp, _, p1⟩ := DataW.trod_int he (hel 0 (by omega));obtain ⟨q, hq, _, q1⟩ := DataW.trod_int he (hel 1 (by omega));obtain ⟨r, hr, _, r1⟩ := DataW.trod_int he (hel 2 (by omega));obtain ⟨s, hs, _, s1⟩ := DataW.trod_int he (hel 3 (by omega))
  simp only [Nat.zero_mul, Nat.one_mul, Nat.mul_one, List.drop_zero, List.take_succ_cons, List.take_zero, List.drop_succ_cons, List.cons.injEq, and_true] at hp hq hr hs
  exact ⟨⟨p, q, r, s⟩, by rw [hp, hq, hr, hs]; rfl, byte_ok p1, byte_ok q1, byte_ok r1, byte_ok s1⟩
theorem cell_of {t e : TypeId} {v : Value} (ht : P.underlying t = some (.slice e)) (h : Value.okWide P w r b0 t v) : Cell.okWide P w r b0 t v := by
 simp only [Value.okWide, ht] at h; exact h
end
end Go.Mi
