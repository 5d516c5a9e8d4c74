/- The document's examples, reckoned. -/
import Derived.Test.YtphmoebiobjfhaaGreatTd
import Derived.Laws.BytesArg
set_option linter.all false
namespace Go.Mi
open Go Go.RowKit
def ko1 : List Ot := [⟨1, 0, 0, 0, 2⟩, ⟨1, 0, 0, 0, 3⟩, ⟨7, 0, 1, 0, 0⟩]
def ko2 : List Ot := [⟨3, 0, 0, 0, 0⟩, ⟨1, 0, 0, 0, 0⟩, ⟨7, 0, 1, 0, 0⟩, ⟨9, 2, 2, 0, 0⟩]
def ko3 : List Ot := [⟨3, 0, 0, 0, 0⟩, ⟨1, 0, 0, 0, 3⟩, ⟨13, 0, 1, 0, 0⟩, ⟨6, 2, 0, 0, 0⟩, ⟨6, 3, 0, 0, 0⟩]
def ko4 : List Ot := [⟨3, 0, 0, 0, 0⟩, ⟨1, 0, 0, 0, 1⟩, ⟨1, 0, 0, 0, 0⟩, ⟨17, 0, 2, 1, 0⟩]
def ko5 : List Ot := [⟨3, 0, 0, 0, 0⟩, ⟨1, 0, 0, 0, 1⟩, ⟨1, 0, 0, 0, 0⟩, ⟨17, 0, 1, 2, 0⟩]
def ko6 : List Ot := [⟨3, 0, 0, 0, 0⟩, ⟨5, 0, 0, 0, 0⟩, ⟨5, 0, 0, 0, 0⟩, ⟨7, 1, 2, 0, 0⟩]
def kr1 : List Ot := [⟨1, 0, 0, 0, 5⟩]
def kr2 : List Ot := [⟨3, 0, 0, 0, 0⟩, ⟨9, 0, 0, 0, 0⟩]
def kr6 : List Ot := [⟨3, 0, 0, 0, 0⟩, ⟨5, 0, 0, 0, 0⟩, ⟨5, 0, 0, 0, 0⟩, ⟨7, 1, 1, 0, 0⟩]
theorem kc1 : checkR (ofR ko1) = 0 := by kernel_rfl
theorem kc2 : checkR (ofR ko2) = 0 := by kernel_rfl
theorem kc3 : checkR (ofR ko3) = 0 := by kernel_rfl
theorem kc4 : checkR (ofR ko4) = 0 := by kernel_rfl
theorem kc5 : checkR (ofR ko5) = 0 := by kernel_rfl
theorem kc6 : checkR (ofR ko6) = 0 := by kernel_rfl
theorem ka1 : tidyR (stepsR (ofR ko1)).2 = ofR kr1 := by kernel_rfl
theorem ka2 : tidyR (stepsR (ofR ko2)).2 = ofR kr2 := by kernel_rfl
theorem ka3 : rulesC (ofR ko3) 4 = [7] := by kernel_rfl
theorem ka4 : nextR (ofR ko4) = some ⟨9, 3⟩ := by kernel_rfl
theorem ka5 : nextR (ofR ko5) = none := by kernel_rfl
theorem ka6 : (stepsR (ofR ko6)).1 = [⟨11, 2⟩] := by kernel_rfl
theorem ka7 : (foundR (ofR ko6)).length = 4 := by kernel_rfl
theorem ka8 : replayR (ofR ko6) [⟨11, 2⟩] = (ofR kr6, 1, 0) := by kernel_rfl
theorem ka9 : replayR (ofR ko6) [⟨11, 1⟩] = (noCo, 0, 12) := by kernel_rfl
/-! bytes as a string -/
theorem run_bytes {P : Program} {T U e : TypeId} {v : Value} {xs : List Int} {w : World} (hs : P.underlying T = some (.slice e)) (he : P.underlying e = some (.int .u8)) (hd : P.underlying U = some .string) (h : SL w v 1 encU xs) : (convert T U v).run P w = .ok (.string (Go.strOfNums xs)) w := by
 rcases Nat.eq_zero_or_pos xs.length with h0 | hp
 ·rcases h.shape with ⟨hv, hx⟩ | ⟨hv, hc⟩
  ·rw [hv, hx, Go.run_convert_bytes_nil w T e hs he 0 0 U hd]; rfl
  ·rw [hv, Go.run_convert_bytes_arg w T e hs he _ _ _ _ xs rfl (fun i hi => by omega) U hd]
 ·rw [h.cons_shape hp]
  rw [Go.run_convert_bytes_arg w T e hs he _ _ _ _ xs rfl (fun i hi => ?_) U hd];have hx : xs[i]? = some xs[i] := List.getElem?_eq_getElem hi;have hc := h.cells i _ hx 0 (by simp [encU])
  simpa [encU, List.getD_eq_getElem?_getD, hx] using hc
theorem Rq_bytes {P : Program} {l : Frm} {w : World} {ty : TypeId} {T U e : TypeId} {x : Operand} {v : Value} {xs : List Int} (hs : P.underlying T = some (.slice e)) (he : P.underlying e = some (.int .u8)) (hd : P.underlying U = some .string) (h : SL w v 1 encU xs) (hx : ev l x = some v) :
  Rq P (.convert T U x) ty l w (.string (Go.strOfNums xs)) := fun w' hb X a o _ ha ho _ => by
 unfold execOp; rw [ho]; simp [ha.ev hx, run_bytes hs he hd (h.below hb), Sem.run_bind, Result.andThen]
theorem Rq_eql_str {P : Program} {l : Frm} {w : World} {ty : TypeId} {T U : TypeId} {x y : Operand} {a b : ByteArray} (hx : ev l x = some (.string a)) (hy : ev l y = some (.string b)) : Rq P (.binOp .eql T x y U) ty l w (.bool (a.toList == b.toList)) :=
 Rq_bin hx hy fun w' _ => by simp [eqGuard_string, binOp, Op.stringOp, Sem.run_bind, Result.andThen]
theorem bytes_self (a : ByteArray) : (a.toList == a.toList) = true := by simp
theorem SL.fresh {α : Type} {w : World} {v : Value} {k b : Nat} {enc : α → List Value} {xs : List α} (h : SL w v k enc xs) (hb : w.heap.size ≤ b) : 0 < xs.length → ¬ sb v = b := fun hp e => by have := h.lt hp; omega
end Go.Mi
