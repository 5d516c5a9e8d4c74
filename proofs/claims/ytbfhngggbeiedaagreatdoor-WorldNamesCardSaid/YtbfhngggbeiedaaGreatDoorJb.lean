/- Slices of the call's own: appended to, made, stored into; each as one rule. Over any program. -/
import Derived.Test.YtbfhngggbeiedaaGreatDoorJa
import Derived.RangeFuncLeaves
import Derived.RangeFuncOwn
import Derived.RangeFuncNested
set_option linter.all false
namespace Go.Mi
open Go Go.RowKit
theorem one1_eq (v : Value) : one1 v = v.oneCell' := by cases v <;> rfl
theorem flat_len {α : Type} {enc : α → List Value} {k : Nat} (hk : ∀ x, (enc x).length = k) (xs : List α) : (xs.flatMap enc).length = xs.length * k := by
  induction xs with
  | nil => simp
  | cons x xs ih => simp only [List.flatMap_cons, List.length_append, ih, hk, List.length_cons, Nat.add_mul]; omega
theorem flat_get {α : Type} {enc : α → List Value} {k : Nat} (hk : ∀ x, (enc x).length = k) : ∀ (xs : List α) (i j : Nat) (x : α), xs[i]? = some x → j < k → (xs.flatMap enc)[i * k + j]? = (enc x)[j]?
  | [], i, j, x, h, _ => by simp at h
  | y :: ys, 0, j, x, h, hj => by
    simp at h; subst h
    simp only [Nat.zero_mul, Nat.zero_add, List.flatMap_cons]
    rw [List.getElem?_append_left (by rw [hk]; exact hj)]
  | y :: ys, i + 1, j, x, h, hj => by
    have := flat_get hk ys i j x (by simpa using h) hj
    simp only [List.flatMap_cons]
    rw [List.getElem?_append_right (by rw [hk, Nat.add_mul]; omega), hk, ← this]
    congr 1; rw [Nat.add_mul]; omega
/-- v is a slice of the call's own (its block lies from lo on) that reads as xs -/
structure OS {α : Type} (w : World) (v : Value) (E k : Nat) (enc : α → List Value) (xs : List α) (lo : Nat) : Prop where
  own : w.ownsRow lo E k v xs.length (xs.flatMap enc)
  len : ∀ x, (enc x).length = k
  pos : 0 < k
section
variable {α : Type} {w w' : World} {v : Value} {E k lo : Nat} {enc : α → List Value} {xs : List α}
theorem OS.nil (hl : ∀ x, (enc x).length = k) (hp : 0 < k) : OS w (.slice none 0 0) E k enc ([] : List α) lo := ⟨by simpa using World.ownsRow_nil w lo E k, hl, hp⟩
theorem OS.sl (h : OS w v E k enc xs lo) : SL w v k enc xs := by
  obtain ⟨hlen, hcase⟩ := h.own
  refine ⟨?_, ?_, fun x => by rw [h.len]; exact h.pos⟩
  · rcases hcase with ⟨e, hn⟩ | ⟨g, cap, cur, e, _, _, hc, _⟩
    · exact .inl ⟨e, List.eq_nil_of_length_eq_zero hn⟩
    · exact .inr ⟨by rw [e]; rfl, by rw [e]; exact hc⟩
  · intro i x hx j hj
    rw [h.len] at hj
    have hi := (List.getElem?_eq_some_iff.1 hx).1
    rcases hcase with ⟨e, hn⟩ | ⟨g, cap, cur, e, _, hg, hc, _, hsz, htk⟩
    · omega
    · have h1 := flat_get h.len xs i j x hx hj
      have hlt : i * k + j < xs.length * k := by
        have : (i + 1) * k ≤ xs.length * k := Nat.mul_le_mul_right k hi
        rw [Nat.add_mul] at this; omega
      rw [e]
      simp only [sb, so, Nat.zero_add]
      rw [← h1, ← htk, List.getElem?_take, if_pos hlt]
      unfold World.cell?; rw [hg]; simp
theorem OS.lt (h : OS w v E k enc xs lo) {b : Nat} (hb : v.ownBlock = some b) : lo ≤ b ∧ b < w.heap.size := h.own.lt b hb
theorem OS.chg {S : Nat → Prop} (h : OS w v E k enc xs lo) (hc : Chg S w w') (hn : ∀ b, v.ownBlock = some b → ¬ S b) : OS w' v E k enc xs lo := by
  refine ⟨⟨h.own.1, ?_⟩, h.len, h.pos⟩
  rcases h.own.2 with hl | ⟨g, cap, cur, e, hlo, hg, r⟩
  · exact .inl hl
  · exact .inr ⟨g, cap, cur, e, hlo, (hc.block g (Array.getElem?_eq_some_iff.1 hg).1 (hn g (by rw [e]; rfl))).trans hg, r⟩
theorem OS.below (h : OS w v E k enc xs lo) (hb : Below w.heap.size w w') : OS w' v E k enc xs lo := h.chg (Chg.of_below (fun _ => False) hb) (fun _ _ h => h)
theorem OS.le {lo' : Nat} (h : OS w v E k enc xs lo) (hl : lo' ≤ lo) : OS w v E k enc xs lo' := by
  refine ⟨⟨h.own.1, ?_⟩, h.len, h.pos⟩
  rcases h.own.2 with hl' | ⟨g, cap, cur, e, hlo, r⟩
  · exact .inl hl'
  · exact .inr ⟨g, cap, cur, e, Nat.le_trans hl hlo, r⟩
theorem grown_chg {row : Option Nat} (h : w.grownBy w' row) : Chg (fun b => row = some b) w w' := ⟨h.os, h.tape, h.output, h.size, fun k hk hn => h.block k hk (fun e => hn e.symm)⟩
/-- in what block a slice lies behind an append: in the one it lay in, or in a new one -/
def SameOrNew (w : World) (v v' : Value) : Prop := ∀ b, v'.ownBlock = some b → v.ownBlock = some b ∨ w.heap.size ≤ b
variable {P : Program}
theorem run_app {t ty e size bytes : Nat} {z : Value} {lo : Nat} {u : Value} {ys : List α} (ht : P.underlying t = some (.slice e)) (hi : (P.info? e).map (fun i => (i.zero, i.size, i.bytes)) = some (some z, size, bytes)) (hz : z.cells.size = size)
    (h : OS w v e size enc xs lo) (hu : SL w u size enc ys) (hone : ∀ y ∈ ys, (enc y).all one1 = true) (hmax : xs.length + ys.length ≤ 9223372036854775807) (hb : (xs.length + ys.length) * bytes ≤ 140737488355328) (hlo : lo ≤ w.heap.size) :
    ∃ v' w', (Builtin.append_ #[t, t] ty #[v, u]).run P w = .ok v' w' ∧ OS w' v' e size enc (xs ++ ys) lo ∧ Chg (fun b => v.ownBlock = some b) w w' ∧ SameOrNew w v v' := by
  obtain ⟨i, hi0, hiz, his, hib⟩ : ∃ i, P.info? e = some i ∧ i.zero = some z ∧ i.size = size ∧ i.bytes = bytes := by
    cases hx : P.info? e with
    | none => rw [hx] at hi; cases hi
    | some i => rw [hx] at hi; simp only [Option.map_some, Option.some.injEq, Prod.mk.injEq] at hi; exact ⟨i, rfl, hi.1, hi.2.1, hi.2.2⟩
  have hmx : xs.length + ys.length ≤ maxLen := by unfold maxLen; omega
  rcases hu.shape with ⟨e1, e2⟩ | ⟨e1, hcap⟩
  · subst e2
    have hrun : (Builtin.append_ #[t, t] ty #[v, u]).run P w = .ok v w := by
      rw [e1]
      rcases h.own.2 with ⟨q, hn⟩ | ⟨g, cap, cur, q, _, hg, hc, _⟩
      · rw [q]; simp [Builtin.append_, run_underlying ht, sizeOf, typeInfo, hi0, Builtin.lenOf, Builtin.firstCells]
      · rw [q]; simp [Builtin.append_, run_underlying ht, sizeOf, typeInfo, hi0, Builtin.lenOf, Builtin.firstCells, hc, storeCells]
    exact ⟨v, w, hrun, by simpa using h, Chg.refl _ _, fun b hb' => .inl hb'⟩
  · have hnews : ∀ j u', (ys.flatMap enc)[j]? = some u' → w.cell? ((⟨sb u, so u, none⟩ : Addr).add j) = some u' := fun j u' hj => by
      have hjl := (List.getElem?_eq_some_iff.1 hj).1
      rw [flat_len h.len] at hjl
      have hdiv : j / size < ys.length := Nat.div_lt_of_lt_mul (by rw [Nat.mul_comm]; exact hjl)
      have hm : j % size < size := Nat.mod_lt _ h.pos
      have hd : j / size * size + j % size = j := by have := Nat.div_add_mod j size; rw [Nat.mul_comm]; exact this
      have hg := flat_get h.len ys (j / size) (j % size) _ (List.getElem?_eq_getElem hdiv) hm
      rw [hd, hj] at hg
      have hcell := hu.cells (j / size) _ (List.getElem?_eq_getElem hdiv) (j % size) (by rw [h.len]; exact hm)
      rw [addr_add, ← hd, ← Nat.add_assoc, hcell, ← hg]
    have h1 : ∀ c ∈ ys.flatMap enc, c.oneCell' = true := fun c hc => by
      obtain ⟨y, hy, hcy⟩ := List.mem_flatMap.1 hc
      rw [← one1_eq]
      exact List.all_eq_true.1 (hone y hy) c hcy
    obtain ⟨v', w', hrun, hown, hgr, _⟩ := run_append_own (P := P) w lo t ty e i z size bytes ht hi0 hiz his hib hz h.pos v xs.length (xs.flatMap enc) h.own ⟨sb u, so u, none⟩ ys.length (scap u) (ys.flatMap enc) (flat_len h.len ys) hnews h1 hmx hb hlo
    rw [← e1] at hrun
    refine ⟨v', w', hrun, ⟨by rw [List.length_append, List.flatMap_append]; exact hown, h.len, h.pos⟩, grown_chg hgr, ?_⟩
    -- where it lies
    subst his
    rcases h.own.2 with ⟨q, hn⟩ | ⟨g, cap, cur, q, _, hg, hc, _, hsz, htk⟩
    · have hx0 : xs = [] := List.eq_nil_of_length_eq_zero hn
      subst hx0
      by_cases hm : ys.length = 0
      · have hy0 : ys = [] := List.eq_nil_of_length_eq_zero hm
        subst hy0
        have hr2 : (Builtin.append_ #[t, t] ty #[v, u]).run P w = .ok v w := by
          rw [q, e1]; simp [Builtin.append_, run_underlying ht, sizeOf, typeInfo, hi0, Builtin.lenOf, Builtin.firstCells, loadCells, loadCellsFrom]
        rw [hr2] at hrun; cases hrun
        exact fun b hb' => .inl hb'
      · have hr2 := run_append_nil (P := P) w t ty e i z ht hi0 hiz ⟨sb u, so u, none⟩ ys.length (scap u) (ys.flatMap enc) (flat_len h.len ys) hnews (by omega) (by simp only [List.length_nil] at hmax; omega) (by rw [hib]; simpa using Nat.le_trans hb (by omega))
        rw [q, e1] at hrun
        rw [hr2] at hrun; cases hrun
        exact fun b hb' => .inr (by simp [Value.ownBlock] at hb'; omega)
    · by_cases hroom : xs.length + ys.length ≤ cap
      · have hr2 := run_append_room (P := P) w t ty e i ht hi0 g xs.length cap cur hg ⟨sb u, so u, none⟩ ys.length (scap u) (ys.flatMap enc) (flat_len h.len ys) hnews h1 hroom (by rw [flat_len h.len, hsz, ← Nat.add_mul]; exact Nat.mul_le_mul_right _ hroom)
        rw [q, e1] at hrun
        rw [hr2] at hrun; cases hrun
        exact fun b hb' => .inl (by rw [q]; simpa [Value.ownBlock] using hb')
      · have holds : ∀ j u, (xs.flatMap enc)[j]? = some u → w.cell? ((⟨g, 0, none⟩ : Addr).add j) = some u := h.own.cells (g := g) (by rw [q]; rfl)
        have hr2 := run_append_grow (P := P) w t ty e i z ht hi0 hiz ⟨g, 0, none⟩ xs.length cap (xs.flatMap enc) h.own.1 holds ⟨sb u, so u, none⟩ ys.length (scap u) (ys.flatMap enc) (flat_len h.len ys) hnews (by omega) (by omega) (growslice_fits (by omega) (by rw [hib]; exact hb))
        rw [q, e1] at hrun
        rw [hr2] at hrun; cases hrun
        exact fun b hb' => .inr (by simp [Value.ownBlock] at hb'; omega)
end

section
variable {α : Type} {X : Cx} {Q : Exit → Act → World → Prop} {l : Frm} {w w' : World} {ops : Array Oper} {rest : List Oper} {v u : Value} {k lo : Nat} {enc : α → List Value} {xs ys : List α}
theorem run_appOp {P : Program} {a : Act} {o : Oper} {t : TypeId} {s x : Operand} {v u v' : Value} {w w' : World} {X : Cx} (ha : Ok X l a) (ho : o.op = .call { callee := .builtin .append, args := #[s, x], argTypes := #[t, t] }) (hs : ev l s = some v) (hx : ev l x = some u)
    (h : (Builtin.append_ #[t, t] o.type #[v, u]).run P w = .ok v' w') : (execOp a.eval o).run P w = .ok (.value v') w' := by
  unfold execOp; rw [ho]
  simp [resolve, invoke, builtin, ha.ev hs, ha.ev hx, Sem.run_bind, Result.andThen, h]
theorem SG_append {d : Nat} {s x : Operand} {t e size bytes : Nat} {z : Value} {ty : TypeId} {pos : String} {af : Array Edge} (h : OS w v e size enc xs lo) (hu : SL w u size enc ys) (ht : X.P.underlying t = some (.slice e))
    (hi : (X.P.info? e).map (fun i => (i.zero, i.size, i.bytes)) = some (some z, size, bytes)) (hz : z.cells.size = size) (hs : ev l s = some v) (hx : ev l x = some u) (hone : ∀ y ∈ ys, (enc y).all one1 = true)
    (hmax : xs.length + ys.length ≤ 9223372036854775807) (hb : (xs.length + ys.length) * bytes ≤ 140737488355328) (hlo : lo ≤ w.heap.size) (hd : Nat.blt d X.N = true)
    (kk : ∀ v' w', OS w' v' e size enc (xs ++ ys) lo → Chg (fun b => v.ownBlock = some b) w w' → SameOrNew w v v' → SG X ops Q rest ((d, v') :: l) w') :
    SG X ops Q ({ dst := some d, op := .call { callee := .builtin .append, args := #[s, x], argTypes := #[t, t] }, type := ty, pos := pos, after := af, guard := none } :: rest) l w := by
  obtain ⟨v', w', hr, h1, h2, h3⟩ := run_app (P := X.P) (ty := ty) ht hi hz h hu hone hmax hb hlo
  refine SG_val (v := v') (w' := w') ?_ hd (kk v' w' h1 h2 h3)
  intro X' a o hP ha ho hty
  refine run_appOp ha ho hs hx ?_
  rw [hty]; exact hr

/-! ### literals of slices -/
theorem fill_block : ∀ (cs : List Value) (A : Array Value) (off j0 : Nat), off + j0 + cs.length ≤ A.size →
    ((cs.zipIdx j0).foldl (fun a (p : Value × Nat) => a.setIfInBounds (off + p.2) p.1) A).toList = A.toList.take (off + j0) ++ cs ++ A.toList.drop (off + j0 + cs.length)
  | [], A, off, j0, _ => by simp
  | c :: cs, A, off, j0, h => by
    simp only [List.length_cons] at h
    simp only [List.zipIdx_cons, List.foldl_cons]
    rw [fill_block cs _ off (j0 + 1) (by simp; omega)]
    simp only [Array.toList_setIfInBounds]
    have hlt : off + j0 < A.toList.length := by simp; omega
    apply List.ext_getElem?
    intro i
    simp only [List.getElem?_append, List.getElem?_take, List.getElem?_drop, List.length_append, List.length_take, List.length_set, List.length_cons, Array.length_toList]
    have e1 : min (off + (j0 + 1)) A.size = off + j0 + 1 := by omega
    have e2 : min (off + j0) A.size = off + j0 := by omega
    rw [e1, e2]
    rcases Nat.lt_trichotomy i (off + j0) with hi | hi | hi
    · rw [if_pos (by omega), if_pos (by omega), if_pos (by omega), if_pos (by omega), if_pos (by omega), if_pos (by omega), List.getElem?_set_ne (by omega)]
    · subst hi
      rw [if_pos (by omega), if_pos (by omega), if_pos (by omega), if_pos (by omega), if_neg (by omega), List.getElem?_set_self hlt]
      simp
    · by_cases hi2 : i < off + j0 + 1 + cs.length
      · rw [if_pos (by omega), if_neg (by omega), if_pos (by omega), if_neg (by omega)]
        have : i - (off + j0) = (i - (off + j0 + 1)) + 1 := by omega
        rw [this]; simp
      · rw [if_neg (by omega), if_neg (by omega)]
        rw [List.getElem?_set_ne (by omega)]
        congr 1; omega
theorem run_fill {k : Nat} : ∀ (vs : List Value) (i : Nat) (A : Array Value), (∀ v ∈ vs, v.cells.size = k) → (i + vs.length) * k ≤ A.size →
    ∃ B : Array Value, Instr.fill (fun j => some (j * k, k)) A ((vs.zipIdx i).map fun p => (p.2, p.1)) = some B ∧ B.toList = A.toList.take (i * k) ++ vs.flatMap (fun v => v.cells.toList) ++ A.toList.drop ((i + vs.length) * k)
  | [], i, A, _, _ => ⟨A, by simp [Instr.fill], by simp⟩
  | v :: vs, i, A, hk, h => by
    have hv := hk v (by simp)
    simp only [List.length_cons] at h
    have hik : i * k + k ≤ A.size := by
      have : (i + 1) * k ≤ (i + (vs.length + 1)) * k := Nat.mul_le_mul_right _ (by omega)
      rw [Nat.add_mul] at this; omega
    have hb := fill_block v.cells.toList A (i * k) 0 (by simp [hv]; omega)
    simp only [Nat.add_zero, Array.length_toList, hv] at hb
    let A' : Array Value := (v.cells.toList.zipIdx 0).foldl (fun a (p : Value × Nat) => a.setIfInBounds (i * k + p.2) p.1) A
    have hA' : A'.toList = A.toList.take (i * k) ++ v.cells.toList ++ A.toList.drop (i * k + k) := hb
    have hsz : A'.size = A.size := by
      have := congrArg List.length hA'
      simp only [Array.length_toList, List.length_append, List.length_take, List.length_drop, hv] at this
      omega
    obtain ⟨B, hB, hBl⟩ := run_fill vs (i + 1) A' (fun u hu => hk u (by simp [hu])) (by rw [hsz, show i + 1 + vs.length = i + (vs.length + 1) by omega]; exact h)
    refine ⟨B, ?_, ?_⟩
    · simp only [List.zipIdx_cons, List.map_cons, Instr.fill, hv]
      have c1 : (k ≠ k || decide (i * k + k > A.size)) = false := by simp; omega
      simp only [ne_eq, not_true_eq_false, decide_false, Bool.false_or, decide_eq_true_eq, show ¬ (i * k + k > A.size) by omega, if_false]
      rw [← hB]
      have e0 : Array.foldl (fun cs (x : Value × Nat) => cs.setIfInBounds (i * k + x.snd) x.fst) A v.cells.zipIdx = A' := by
        rw [← Array.foldl_toList]; simp only [A', Array.toList_zipIdx]
      simp only [Bool.false_eq_true, if_false]
      rw [e0]
    · rw [hBl, hA']
      have e1 : (i + 1) * k = i * k + k := by rw [Nat.add_mul]; omega
      have e2 : (i + 1 + vs.length) * k = (i + (vs.length + 1)) * k := by congr 1; omega
      have e3 : (i + (vs.length + 1)) * k = i * k + k + vs.length * k := by rw [Nat.add_mul, Nat.add_mul]; omega
      have l1 : (A.toList.take (i * k) ++ v.cells.toList).length = i * k + k := by simp [hv]; omega
      rw [e1, List.take_append_of_le_length (by omega), List.take_of_length_le (by omega)]
      simp only [List.flatMap_cons, List.append_assoc, List.length_cons]
      rw [e2, e3]
      rw [show List.drop (i * k + k + vs.length * k) (List.take (i * k) A.toList ++ (v.cells.toList ++ List.drop (i * k + k) A.toList)) = List.drop (i * k + k + vs.length * k) A.toList from ?_]
      rw [← List.append_assoc, List.drop_append, l1]
      rw [List.drop_of_length_le (by rw [l1]; omega), List.nil_append, List.drop_drop]
      congr 1; omega
theorem run_bslice {P : Program} {t e k n : Nat} {z : Value} {vs : List Value} (ht : ∀ w, (underlying t).run P w = .ok (.slice e) w) (hk : ∀ w, (sizeOf e).run P w = .ok k w) (hz : ∀ w, (zeroValue e).run P w = .ok z w)
    (hn : vs.length = n) (hcs : ∀ v ∈ vs, v.cells.size = k) (hle : n * k ≤ 16777216) (w : World) :
    (Instr.buildSlice t n (vs.zipIdx.map fun p => (p.2, p.1)).toArray).run P w = .ok (.slice (some ⟨w.heap.size, 0, none⟩) n n) (w.alloc (.cells (vs.flatMap (fun v => v.cells.toList)).toArray e)) := by
  unfold Instr.buildSlice
  have h24 : ¬ (n * k > 2 ^ 24) := by have : (2 : Nat) ^ 24 = 16777216 := by decide
                                      omega
  have key : ∀ (zc : Array Value), ∃ B : Array Value, Instr.fill (fun j => some (j * k, k)) ((Array.range (n * k)).map (zc[· % zc.size]!)) (vs.zipIdx.map fun p => (p.2, p.1)) = some B ∧ B = (vs.flatMap (fun v => v.cells.toList)).toArray := fun zc => by
    obtain ⟨B, h1, h2⟩ := run_fill (k := k) vs 0 ((Array.range (n * k)).map (zc[· % zc.size]!)) hcs (by simp [hn])
    refine ⟨B, h1, ?_⟩
    apply Array.toList_inj.1
    rw [h2]
    simp [hn]
  have hno : ¬ (0 > 2 ^ 24) := by omega
  by_cases h0 : n * k = 0
  · obtain ⟨B, h1, h2⟩ := key #[]
    rw [h0] at h1
    simp only [Sem.run_bind, ht, hk, Result.andThen, h0, hno, if_false, if_true, Sem.run_pure, h1]
    simp only [newRow, newObj, Sem.run_bind, Sem.run, Result.andThen, h2, Sem.run_pure]
    rfl
  · obtain ⟨B, h1, h2⟩ := key z.cells
    simp only [Sem.run_bind, ht, hk, hz, Result.andThen, h24, h0, if_false, Sem.run_pure, h1]
    simp only [newRow, newObj, Sem.run_bind, Sem.run, Result.andThen, h2, Sem.run_pure]
    rfl
/-- these values are these elements -/
inductive MV {α : Type} (val : α → Value) : List Value → List α → Prop
  | nil : MV val [] []
  | cons {x : α} {vs : List Value} {xs : List α} (h : MV val vs xs) : MV val (val x :: vs) (x :: xs)
theorem MV.flat {val : α → Value} (hval : ∀ x, (val x).cells = (enc x).toArray) {vs : List Value} {xs : List α} (h : MV val vs xs) : vs.flatMap (fun v => v.cells.toList) = xs.flatMap enc := by
  induction h with
  | nil => rfl
  | cons h ih => simp [ih, hval]
theorem MV.length {val : α → Value} {vs : List Value} {xs : List α} (h : MV val vs xs) : vs.length = xs.length := by
  induction h with
  | nil => rfl
  | cons h ih => simp [ih]
theorem MV.size {val : α → Value} (hval : ∀ x, (val x).cells = (enc x).toArray) (hl : ∀ x, (enc x).length = k) {vs : List Value} {xs : List α} (h : MV val vs xs) : ∀ v ∈ vs, v.cells.size = k := by
  induction h with
  | nil => simp
  | cons h ih => intro v hv; simp at hv; rcases hv with rfl | hv; · rw [hval]; simp [hl]
                 · exact ih v hv
theorem OS.made {w : World} {e n : Nat} {cs : List Value} (hl : ∀ x, (enc x).length = k) (hp : 0 < k) (hcs : cs = xs.flatMap enc) (hn : n = xs.length) (hm : n ≤ 9223372036854775807) : OS (w.alloc (.cells cs.toArray e)) (.slice (some ⟨w.heap.size, 0, none⟩) n n) e k enc xs w.heap.size := by
  subst hcs; subst hn
  refine ⟨⟨flat_len hl xs, .inr ⟨w.heap.size, xs.length, _, rfl, Nat.le_refl _, alloc_blk w _ e, Nat.le_refl _, by unfold maxLen; omega, by simp [flat_len hl], ?_⟩⟩, hl, hp⟩
  rw [List.take_of_length_le (by simp [flat_len hl])]
theorem run_bsl {P : Program} {t e k n : Nat} {z : Value} {val : α → Value} {os : List Operand} {parts : Array (Nat × Operand)} {vs : List Value} {X : Cx} {a : Act} {o : Oper} (ha : Ok X l a) (ho : o.op = .buildSlice t n parts)
    (hparts : parts.toList = os.zipIdx.map (fun p => (p.2, p.1))) (hev : evs l os = some vs) (hm : MV val vs xs) (hval : ∀ x, (val x).cells = (enc x).toArray) (hl : ∀ x, (enc x).length = k)
    (ht : ∀ w, (underlying t).run P w = .ok (.slice e) w) (hk : ∀ w, (sizeOf e).run P w = .ok k w) (hz : ∀ w, (zeroValue e).run P w = .ok z w) (hn : vs.length = n) (hle : n * k ≤ 16777216) (w : World) :
    (execOp a.eval o).run P w = .ok (.value (.slice (some ⟨w.heap.size, 0, none⟩) n n)) (w.alloc (.cells (xs.flatMap enc).toArray e)) := by
  have hr := run_bslice (P := P) ht hk hz hn (hm.size hval hl) hle w
  have hp : parts.map (fun (p : Nat × Operand) => (p.1, a.eval p.2)) = (vs.zipIdx.map fun p => (p.2, p.1)).toArray := by
    apply Array.toList_inj.1
    rw [Array.toList_map, hparts, ← ha.evs hev]
    simp [List.zipIdx_map, Function.comp_def]
  unfold execOp; rw [ho]
  simp only [Sem.run_bind]
  rw [hp, hr, hm.flat hval]
  rfl
theorem SG_bslice {d t e n : Nat} {z : Value} {val : α → Value} {os : List Operand} {parts : Array (Nat × Operand)} {vs : List Value} {ty : TypeId} {pos : String} {af : Array Edge}
    (hparts : parts.toList = os.zipIdx.map (fun p => (p.2, p.1))) (hev : evs l os = some vs) (hm : MV val vs xs) (hval : ∀ x, (val x).cells = (enc x).toArray) (hl : ∀ x, (enc x).length = k)
    (ht : ∀ w, (underlying t).run X.P w = .ok (.slice e) w) (hk : ∀ w, (sizeOf e).run X.P w = .ok k w) (hz : ∀ w, (zeroValue e).run X.P w = .ok z w) (hn : vs.length = n) (hle : n * k ≤ 16777216) (hp : 0 < k) (hd : Nat.blt d X.N = true)
    (kk : ∀ w' v' b, b = w.heap.size → Below w.heap.size w w' → w'.heap.size = b + 1 → v'.ownBlock = some b → OS w' v' e k enc xs b → SG X ops Q rest ((d, v') :: l) w') :
    SG X ops Q ({ dst := some d, op := .buildSlice t n parts, type := ty, pos := pos, after := af, guard := none } :: rest) l w := by
  refine SG_val (v := .slice (some ⟨w.heap.size, 0, none⟩) n n) (w' := w.alloc (.cells (xs.flatMap enc).toArray e)) ?_ hd (kk _ _ w.heap.size rfl (alloc_below _ _) (by simp) rfl (OS.made hl hp rfl (by rw [← hn, hm.length]) (by have : n ≤ n * k := Nat.le_mul_of_pos_right n hp; omega)))
  intro X' a o hP ha ho hty
  exact run_bsl ha ho hparts hev hm hval hl ht hk hz hn hle w
theorem SG_make1 {d t e n bytes : Nat} {z : Value} {x : Operand} {ty : TypeId} {pos : String} {af : Array Edge} {K : IntKind} (ht : X.P.underlying t = some (.slice e)) (hi : (X.P.info? e).map (fun i => (i.zero, i.size, i.bytes)) = some (some z, 1, bytes)) (hz : z.cells = #[z])
    (hx : ev l x = some (.int K (n : Int))) (hb : bytes * n ≤ 281474976710656) (h63 : n ≤ 9223372036854775807) {x0 : α} (henc : enc x0 = [z]) (hl : ∀ x, (enc x).length = 1) (hd : Nat.blt d X.N = true)
    (kk : ∀ w' v' b, b = w.heap.size → Below w.heap.size w w' → w'.heap.size = b + 1 → v'.ownBlock = some b → OS w' v' e 1 enc (List.replicate n x0) b → SG X ops Q rest ((d, v') :: l) w') :
    SG X ops Q ({ dst := some d, op := .makeSlice t x x, type := ty, pos := pos, after := af, guard := none } :: rest) l w := by
  obtain ⟨i, hi0, hiz, his, hib⟩ : ∃ i, X.P.info? e = some i ∧ i.zero = some z ∧ i.size = 1 ∧ i.bytes = bytes := by
    cases hx : X.P.info? e with
    | none => rw [hx] at hi; cases hi
    | some i => rw [hx] at hi; simp only [Option.map_some, Option.some.injEq, Prod.mk.injEq] at hi; exact ⟨i, rfl, hi.1, hi.2.1, hi.2.2⟩
  have hr := run_make (P := X.P) w t e i z ht hi0 hiz K K n n (by omega) (Int.le_refl _) (by have h := Int.ofNat_le.2 hb; rw [Int.natCast_mul] at h; rw [hib]; exact h) (by omega)
  have hrep : ∀ m : Nat, List.replicate m z = (List.replicate m x0).flatMap enc := fun m => by
    induction m with
    | zero => rfl
    | succ m ih => rw [List.replicate_succ, List.replicate_succ, List.flatMap_cons, henc, ← ih]; rfl
  have hcs : madeCells z.cells (n * 1) = ((List.replicate n x0).flatMap enc).toArray := by
    apply Array.toList_inj.1
    rw [Nat.mul_one, hz, toList_madeCells_one, hrep]
  simp only [Int.toNat_natCast, his, hcs] at hr
  refine SG_val (v := .slice (some ⟨w.heap.size, 0, none⟩) n n) (w' := w.alloc (.cells ((List.replicate n x0).flatMap enc).toArray e)) ?_ hd (kk _ _ w.heap.size rfl (alloc_below _ _) (by simp) rfl (OS.made hl (by omega) rfl (by simp) h63))
  intro X' a o hP ha ho hty
  unfold execOp; rw [ho]
  simp [ha.ev hx, hr, Sem.run_bind, Result.andThen]
/-- storing into an element of one's own -/
theorem flat_set (hk : ∀ x, (enc x).length = k) : ∀ (xs : List α) (i : Nat) (x y : α) (o : Nat) (vs : List Value), xs[i]? = some x → o + vs.length ≤ k → enc y = setAll (enc x) o vs → (xs.set i y).flatMap enc = setAll (xs.flatMap enc) (i * k + o) vs
  | [], i, x, y, o, vs, h, _, _ => by simp at h
  | a :: as, 0, x, y, o, vs, h, ho, he => by
    simp at h; subst h
    simp only [List.set_cons_zero, List.flatMap_cons, he, Nat.zero_mul, Nat.zero_add]
    have key : ∀ (vs : List Value) (cs ds : List Value) (o : Nat), o + vs.length ≤ cs.length → setAll (cs ++ ds) o vs = setAll cs o vs ++ ds := by
      intro vs
      induction vs with
      | nil => intro cs ds o _; rfl
      | cons v vs ih =>
        intro cs ds o h
        simp only [List.length_cons] at h
        simp only [setAll]
        rw [List.set_append_left _ _ (by omega)]
        exact ih _ _ _ (by simp; omega)
    rw [key vs _ _ _ (by rw [hk]; exact ho)]
  | a :: as, i + 1, x, y, o, vs, h, ho, he => by
    have ih := flat_set hk as i x y o vs (by simpa using h) ho he
    simp only [List.set_cons_succ, List.flatMap_cons, ih]
    have key : ∀ (vs : List Value) (cs ds : List Value) (o : Nat), setAll (cs ++ ds) (cs.length + o) vs = cs ++ setAll ds o vs := by
      intro vs
      induction vs with
      | nil => intro cs ds o; rfl
      | cons v vs ih =>
        intro cs ds o
        simp only [setAll]
        rw [List.set_append_right _ _ (by omega), Nat.add_sub_cancel_left, Nat.add_assoc, ih]
    rw [show (i + 1) * k + o = (enc a).length + (i * k + o) by rw [hk, Nat.add_mul]; omega, key]
theorem setAll_len : ∀ (vs cs : List Value) (o : Nat), (setAll cs o vs).length = cs.length
  | [], _, _ => rfl
  | v :: vs, cs, o => by simp only [setAll]; rw [setAll_len]; simp
theorem setAll_take : ∀ (vs cs : List Value) (o n : Nat), o + vs.length ≤ n → (setAll cs o vs).take n = setAll (cs.take n) o vs
  | [], _, _, _, _ => rfl
  | v :: vs, cs, o, n, h => by
    simp only [List.length_cons] at h
    simp only [setAll]
    rw [setAll_take vs _ _ _ (by omega), List.take_set]
theorem SG_storeE {T n i o e : Nat} {x y : Operand} {ty : TypeId} {pos : String} {af : Array Edge} {elt elt' : α} {vs : List Value} {u : Value} (h : OS w v e k enc xs lo) (hx : ev l x = some (.pointer (some ⟨sb v, so v + i * k + o, none⟩))) (hy : ev l y = some u)
    (hvs : u.cells = vs.toArray) (hone : vs.all one1 = true) (hn : ∀ w, (sizeOf T).run X.P w = .ok n w) (hl : vs.length = n) (hi : xs[i]? = some elt) (ho : o + vs.length ≤ k) (he : enc elt' = setAll (enc elt) o vs)
    (kk : ∀ w', Chg (fun b => v.ownBlock = some b) w w' → OS w' v e k enc (xs.set i elt') lo → SG X ops Q rest l w') :
    SG X ops Q ({ dst := none, op := .store T x y, type := ty, pos := pos, after := af, guard := none } :: rest) l w := by
  have hilt := (List.getElem?_eq_some_iff.1 hi).1
  rcases h.own.2 with ⟨_, q⟩ | ⟨g, cap, cur, q, hlo, hg, hc, hm, hsz, htk⟩
  · omega
  · have hsb : sb v = g := by rw [q]; rfl
    have hso : so v = 0 := by rw [q]; rfl
    rw [hsb, hso, Nat.zero_add] at hx
    have hB : Blk w g cur.toList e := by unfold Blk; simpa using hg
    have hle : i * k + o + vs.length ≤ xs.length * k := by
      have : (i + 1) * k ≤ xs.length * k := Nat.mul_le_mul_right k hilt
      rw [Nat.add_mul] at this; omega
    have hcap : xs.length * k ≤ cap * k := Nat.mul_le_mul_right k hc
    refine SG_store hB hx hy hvs hone hn hl (by rw [Nat.ble_eq]; simp [hsz]; omega) fun w' hch hB' => kk w' (hch.mono fun b _ hb => by subst hb; rw [q]; rfl) ⟨⟨flat_len h.len _, .inr ⟨g, cap, (setAll cur.toList (i * k + o) vs).toArray, by rw [q]; simp, hlo, by simpa [Blk] using hB', by simpa using hc, hm, by simp [setAll_len, hsz], ?_⟩⟩, h.len, h.pos⟩
    simp only [List.length_set]
    rw [flat_set h.len xs i elt elt' o vs hi ho he, ← htk]
    rw [setAll_take _ _ _ _ hle]
end
end Go.Mi
namespace Go.Mi
open Go
def encI (n : Int) : List Value := [.int .i64 n]
/-- the first place where p holds, or -1 -/
def idx {α : Type} (p : α → Bool) (xs : List α) : Int := if xs.any p then (xs.findIdx p : Int) else -1
theorem idx_found {α : Type} {p : α → Bool} {xs : List α} {x : Nat} {y : α} (h : ∀ (j : Nat) (z : α), j < x → xs[j]? = some z → p z = false) (hy : xs[x]? = some y) (hp : p y = true) : idx p xs = x := by
  have hlt := (List.getElem?_eq_some_iff.1 hy).1
  have hy' : xs[x] = y := (List.getElem?_eq_some_iff.1 hy).2
  have ha : xs.any p = true := List.any_eq_true.2 ⟨y, List.mem_of_getElem? hy, hp⟩
  have : xs.findIdx p = x := by
    rw [List.findIdx_eq hlt]
    refine ⟨by rw [hy']; exact hp, fun j hj => ?_⟩
    exact h j _ hj (List.getElem?_eq_getElem (by omega))
  simp [idx, ha, this]
theorem idx_none {α : Type} {p : α → Bool} {xs : List α} (h : ∀ (j : Nat) (z : α), xs[j]? = some z → p z = false) : idx p xs = -1 := by
  have : xs.any p = false := by
    rw [List.any_eq_false]
    intro x hx
    obtain ⟨j, hj⟩ := List.getElem?_of_mem hx
    simp [h j x hj]
  simp [idx, this]
theorem idx_any {α : Type} (p : α → Bool) (xs : List α) : decide (0 ≤ idx p xs) = xs.any p := by
  unfold idx
  cases h : xs.any p <;> simp
theorem no_succ {α : Type} {p : α → Bool} {xs : List α} {x : Nat} {y : α} (h : ∀ (j : Nat) (z : α), j < x → xs[j]? = some z → p z = false) (hy : xs[x]? = some y) (hp : p y = false) :
    ∀ (j : Nat) (z : α), j < x + 1 → xs[j]? = some z → p z = false := fun j z hj hz => by
  rcases Nat.lt_or_ge j x with h' | h'
  · exact h j z h' hz
  · obtain rfl : j = x := by omega
    rw [hz] at hy; cases hy; exact hp
theorem no_all {α : Type} {p : α → Bool} {xs : List α} {x : Nat} (h : ∀ (j : Nat) (z : α), j < x → xs[j]? = some z → p z = false) (hx : xs.length ≤ x) : ∀ (j : Nat) (z : α), xs[j]? = some z → p z = false :=
  fun j z hz => h j z (by have := (List.getElem?_eq_some_iff.1 hz).1; omega) hz

/-! ### cells -/
structure Vl where
  f : Int
  n : Int
deriving DecidableEq
def encV (x : Vl) : List Value := [.int .u8 x.f, .int .i64 x.n]
def valV (x : Vl) : Value := .agg (encV x).toArray
def valI (n : Int) : Value := .int .i64 n
def withinB (least most : Int) (xs : List Int) : Bool := !xs.any fun n => decide (n < least) || decide (most < n)
def isCellB (v : Vl) : Bool := if v.f = 0 then decide (-9999 ≤ v.n) && decide (v.n ≤ 9999) else decide (v.f ≤ 4) && decide (v.n = 0)
def areCellsB (l : List Vl) : Bool := !l.any fun v => !isCellB v
def mkV (n : Int) : Vl := if -9999 ≤ n ∧ n ≤ 9999 then ⟨0, n⟩ else ⟨2, 0⟩
def truthV (b : Bool) : Vl := if b then ⟨0, 1⟩ else ⟨0, 0⟩
theorem within1 (a b n : Int) : withinB a b [n] = decide (a ≤ n ∧ n ≤ b) := by
  simp only [withinB, List.any_cons, List.any_nil, Bool.or_false, Bool.not_or]
  rw [Bool.eq_iff_iff]; simp
/-- what Go's rounded-down division gives -/
def quotR (a b : Int) : Int × Int := if a.tmod b ≠ 0 ∧ decide (a.tmod b < 0) ≠ decide (b < 0) then (a.tdiv b - 1, a.tmod b + b) else (a.tdiv b, a.tmod b)
def sign (a b : Int) : Int := if a < b then -1 else if b < a then 1 else 0
def soloR (code n : Int) : Vl := if code = 5 then mkV (-n) else truthV (decide (n = 0))
def duoR (code a b : Int) : Vl :=
  if code = 7 then mkV (a + b) else if code = 8 then mkV (a - b) else if code = 9 then mkV (a * b)
  else if code = 10 then (if b = 0 then ⟨1, 0⟩ else mkV (quotR a b).1) else if code = 11 then (if b = 0 then ⟨1, 0⟩ else mkV (quotR a b).2)
  else if code = 12 then truthV (decide (sign a b = 0)) else if code = 13 then truthV (decide (sign a b < 0)) else truthV (decide (sign a b ≤ 0))
def isSolo (code : Int) : Bool := decide (code = 5) || decide (code = 6)
def isDuo (code : Int) : Bool := decide (7 ≤ code) && decide (code ≤ 14)
def op1R (code : Int) (a : Vl) : Vl × Int := if isSolo code = false ∨ isCellB a = false then (⟨0, 0⟩, 2) else if a.f ≠ 0 then (a, 0) else (soloR code a.n, 0)
def chooseR (a b c : Vl) : Vl × Int := if areCellsB [a, b, c] = false then (⟨0, 0⟩, 2) else if a.f ≠ 0 then (a, 0) else if a.n = 0 then (c, 0) else (b, 0)
def op2R (code : Int) (a b : Vl) : Vl × Int :=
  if code = 15 then chooseR a b (mkV 0) else if code = 16 then chooseR a (mkV 1) b
  else if isDuo code = false ∨ areCellsB [a, b] = false then (⟨0, 0⟩, 2) else if a.f ≠ 0 then (a, 0) else if b.f ≠ 0 then (b, 0) else (duoR code a.n b.n, 0)
theorem find_none_of {xs : List Vl} {p : Vl → Bool} (h : idx p xs < 0) : xs.find? p = none := by
  rw [List.find?_eq_none]
  intro x hx hp
  have : xs.any p = true := List.any_eq_true.2 ⟨x, hx, hp⟩
  simp [idx, this] at h; omega
theorem find_some_of {xs : List Vl} {p : Vl → Bool} {x : Vl} (hx : xs[(idx p xs).toNat]? = some x) (h : 0 ≤ idx p xs) : xs.find? p = some x := by
  have ha : xs.any p = true := by
    cases hb : xs.any p with
    | true => rfl
    | false => simp [idx, hb] at h
  have e : (idx p xs).toNat = xs.findIdx p := by simp [idx, ha]
  rw [e] at hx
  rw [List.find?_eq_some_iff_getElem]
  have hlt : xs.findIdx p < xs.length := (List.getElem?_eq_some_iff.1 hx).1
  have hv : xs[xs.findIdx p] = x := (List.getElem?_eq_some_iff.1 hx).2
  refine ⟨by rw [← hv]; exact List.findIdx_getElem, xs.findIdx p, hlt, hv, fun j hj => by simpa using List.not_of_lt_findIdx hj⟩
/-! ### cores -/
structure Ch where
  name : ByteArray
  lo : Int
  hi : Int
deriving DecidableEq
def encC (x : Ch) : List Value := [.string x.name, .int .i64 x.lo, .int .i64 x.hi]
def valC (x : Ch) : Value := .agg (encC x).toArray
structure Ot where
  code : Int
  a : Int
  b : Int
  c : Int
  n : Int
deriving DecidableEq
def encO (x : Ot) : List Value := [.int .u8 x.code, .int .i64 x.a, .int .i64 x.b, .int .i64 x.c, .int .i64 x.n]
def valO (x : Ot) : Value := .agg (encO x).toArray
structure Co where
  ch : List Ch
  ops : List Ot
  roots : List Int
deriving DecidableEq
def noCh (x : Ch) : Bool := !withinB (-9999) 9999 [x.lo, x.hi] || !withinB 1 12 [x.hi - x.lo + 1]
theorem within2 {a b n m : Int} (h : withinB a b [n, m] = true) : (a ≤ n ∧ n ≤ b) ∧ a ≤ m ∧ m ≤ b := by
  simp [withinB] at h; omega
def arN (code : Int) : Nat := if code ≤ 4 then 0 else if code ≤ 6 then 1 else if code ≤ 16 then 2 else 3
theorem arN_le (code : Int) : arN code ≤ 3 := by unfold arN; (repeat' split) <;> omega
def isNumB (nch : Nat) (x : Ot) : Bool :=
  if x.code = 1 then withinB (-9999) 9999 [x.n] else if x.code = 2 then withinB 1 4 [x.n] else if x.code = 3 then withinB 0 (nch - 1) [x.n] else if x.code = 4 then withinB 0 31 [x.n] else decide (x.n = 0)
def opndR (x : Ot) : List Int := [x.a, x.b, x.c]
def isOpB (nch : Nat) (i : Nat) (x : Ot) : Bool :=
  !(decide (x.code < 1) || decide (17 < x.code) || !isNumB nch x) && (withinB 0 (i - 1) ((opndR x).take (arN x.code)) && withinB 0 0 ((opndR x).drop (arN x.code)))
def opsB (nch : Nat) (l : List Ot) : Bool := l.zipIdx.all fun p => isOpB nch p.2 p.1
theorem opsB_iff {nch : Nat} {l : List Ot} : opsB nch l = true ↔ ∀ (j : Nat) (x : Ot), l[j]? = some x → isOpB nch j x = true := by
  unfold opsB; rw [List.all_eq_true]
  constructor
  · intro h j x hj
    exact h (x, j) (List.mem_zipIdx_iff_getElem?.2 hj)
  · rintro h ⟨x, j⟩ hp
    exact h j x (List.mem_zipIdx_iff_getElem?.1 hp)
def checkR (c : Co) : Int :=
  if 6 < c.ch.length ∨ 3000 < c.ops.length ∨ 3000 < c.roots.length then 5 else if c.ch.any noCh then 3 else if withinB 0 (c.ops.length - 1) c.roots = false then 4
  else if opsB c.ch.length c.ops then 0 else 4
/-! ### a state's rules -/
def encB (b : Bool) : List Value := [.bool b]
def valB (b : Bool) : Value := .bool b
def o0 : Ot := ⟨0, 0, 0, 0, 0⟩
def getO (l : List Ot) (i : Int) : Ot := l.getD i.toNat o0
def getB (l : List Bool) (i : Int) : Bool := l.getD i.toNat false
theorem getO_some {l : List Ot} {i : Int} (h0 : 0 ≤ i) (h1 : i < l.length) : l[i.toNat]? = some (getO l i) := by
  have : i.toNat < l.length := by omega
  simp [getO, List.getD, List.getElem?_eq_getElem this]
theorem getB_some {l : List Bool} {i : Int} (h0 : 0 ≤ i) (h1 : i < l.length) : l[i.toNat]? = some (getB l i) := by
  have : i.toNat < l.length := by omega
  simp [getB, List.getD, List.getElem?_eq_getElem this]
theorem getO_of {l : List Ot} {i : Int} {x : Ot} (h : l[i.toNat]? = some x) : getO l i = x := by simp [getO, List.getD, h]
/-- what is known of an operation of n operations -/
structure Bd (n : Nat) (x : Ot) : Prop where
  a0 : 0 ≤ x.a
  a1 : x.a < n
  b0 : 0 ≤ x.b
  b1 : x.b < n
  c0 : 0 ≤ x.c
  c1 : x.c < n
  f : x.code = 2 → 1 ≤ x.n ∧ x.n ≤ 4
structure Oc where
  ap : Bool
  st : Int
  be : Ot
def encOc (x : Oc) : List Value := [.bool x.ap, .int .i64 x.st, .int .u8 x.be.code, .int .i64 x.be.a, .int .i64 x.be.b, .int .i64 x.be.c, .int .i64 x.be.n]
def valOc (x : Oc) : Value := .agg (encOc x).toArray
def oc0 : Oc := ⟨false, 0, o0⟩
def stand (n : Int) : Oc := ⟨true, n, o0⟩
def becomeO (x : Ot) : Oc := ⟨true, -1, x⟩
def truthB (tr : List Bool) (x : Ot) : Bool :=
  if x.code = 6 ∨ x.code = 12 ∨ x.code = 13 ∨ x.code = 14 ∨ x.code = 2 then true else if x.code = 1 then decide (x.n = 0) || decide (x.n = 1)
  else if x.code = 15 ∨ x.code = 16 then getB tr x.b else if x.code = 17 then getB tr x.b && getB tr x.c else false
def isR (ops : List Ot) (i n : Int) : Bool := decide (getO ops i = ⟨1, 0, 0, 0, n⟩)
def cellR (x : Ot) : Vl × Bool := if x.code = 1 then (mkV x.n, true) else if x.code = 2 then (⟨x.n, 0⟩, true) else (⟨0, 0⟩, false)
def finR (v : Vl) : Oc := if v.f ≠ 0 then becomeO ⟨2, 0, 0, 0, v.f⟩ else becomeO ⟨1, 0, 0, 0, v.n⟩
def workR (ops : List Ot) (x : Ot) : Oc :=
  if x.code < 5 ∨ 16 < x.code then oc0 else if (cellR (getO ops x.a)).2 = false then oc0
  else if (op1R x.code (cellR (getO ops x.a)).1).2 ≠ 0 then
    (if (cellR (getO ops x.b)).2 = false then oc0 else finR (op2R x.code (cellR (getO ops x.a)).1 (cellR (getO ops x.b)).1).1)
  else finR (op1R x.code (cellR (getO ops x.a)).1).1
def faultR (ops : List Ot) (x : Ot) : Oc := if x.code < 7 ∨ (getO ops x.a).code ≠ 2 then oc0 else stand x.a
def knownR (ops : List Ot) (x : Ot) (code : Int) : Bool × Bool := if x.code ≠ code ∨ (getO ops x.a).code ≠ 1 then (false, false) else (!decide ((getO ops x.a).n = 0), true)
def pickR (ops : List Ot) (x : Ot) : Oc := if (knownR ops x 17).2 = false then oc0 else if (knownR ops x 17).1 then stand x.b else stand x.c
def andR (ops : List Ot) (x : Ot) : Oc := if (knownR ops x 15).2 = false then oc0 else if (knownR ops x 15).1 then stand x.b else stand x.a
def orR (ops : List Ot) (x : Ot) : Oc := if (knownR ops x 16).2 = false then oc0 else if (knownR ops x 16).1 then becomeO ⟨1, 0, 0, 0, 1⟩ else stand x.b
def unit1 (ops : List Ot) (x : Ot) (u : Int) : Oc := if isR ops x.b u then stand x.a else if (x.code = 7 ∨ x.code = 9) ∧ isR ops x.a u = true then stand x.b else oc0
def unitR (ops : List Ot) (x : Ot) : Oc := if x.code = 9 ∨ x.code = 10 then unit1 ops x 1 else if x.code = 7 ∨ x.code = 8 then unit1 ops x 0 else oc0
def twiceR (ops : List Ot) (tr : List Bool) (x : Ot) : Oc :=
  if (x.code ≠ 5 ∧ x.code ≠ 6) ∨ (getO ops x.a).code ≠ x.code then oc0 else if x.code = 6 ∧ getB tr (getO ops x.a).a = false then oc0 else stand (getO ops x.a).a
def truthR (ops : List Ot) (tr : List Bool) (x : Ot) : Oc := if x.code = 17 ∧ getB tr x.a = true ∧ isR ops x.b 1 = true ∧ isR ops x.c 0 = true then stand x.a else oc0
def turnR (ops : List Ot) (x : Ot) : Oc := if x.code = 17 ∧ isR ops x.b 0 = true ∧ isR ops x.c 1 = true then becomeO ⟨6, x.a, 0, 0, 0⟩ else oc0
def selfR (tr : List Bool) (x : Ot) : Oc := if x.a = x.b ∧ (x.code = 15 ∨ (x.code = 16 ∧ getB tr x.a = true)) then stand x.a else oc0
def sameR (first : Ot → Option Int) (i : Int) (x : Ot) : Oc := if (first x).getD 0 < i then stand ((first x).getD 0) else oc0
theorem mkV_f (n : Int) : 0 ≤ (mkV n).f ∧ (mkV n).f ≤ 4 := by unfold mkV; split <;> simp
theorem truthV_f (b : Bool) : 0 ≤ (truthV b).f ∧ (truthV b).f ≤ 4 := by unfold truthV; split <;> simp
theorem soloR_f (c n : Int) : 0 ≤ (soloR c n).f ∧ (soloR c n).f ≤ 4 := by unfold soloR; split; exact mkV_f _; exact truthV_f _
theorem duoR_f (c a b : Int) : 0 ≤ (duoR c a b).f ∧ (duoR c a b).f ≤ 4 := by
  unfold duoR
  split; exact mkV_f _
  split; exact mkV_f _
  split; exact mkV_f _
  split; (split; simp; exact mkV_f _)
  split; (split; simp; exact mkV_f _)
  split; exact truthV_f _
  split; exact truthV_f _
  exact truthV_f _
theorem op1R_f {c : Int} {a : Vl} (h : 0 ≤ a.f ∧ a.f ≤ 4) : 0 ≤ (op1R c a).1.f ∧ (op1R c a).1.f ≤ 4 := by
  unfold op1R; split; simp; split; exact h; exact soloR_f _ _
theorem chooseR_f {a b c : Vl} (h : 0 ≤ a.f ∧ a.f ≤ 4) (h' : 0 ≤ b.f ∧ b.f ≤ 4) (h'' : 0 ≤ c.f ∧ c.f ≤ 4) : 0 ≤ (chooseR a b c).1.f ∧ (chooseR a b c).1.f ≤ 4 := by
  unfold chooseR; split; simp; split; exact h; split; exact h''; exact h'
theorem op2R_f {c : Int} {a b : Vl} (h : 0 ≤ a.f ∧ a.f ≤ 4) (h' : 0 ≤ b.f ∧ b.f ≤ 4) : 0 ≤ (op2R c a b).1.f ∧ (op2R c a b).1.f ≤ 4 := by
  unfold op2R; split; exact chooseR_f h h' (mkV_f _); split; exact chooseR_f h (mkV_f _) h'; split; simp; split; exact h; split; exact h'; exact duoR_f _ _ _
theorem cellR_f {x : Ot} (h : x.code = 2 → 1 ≤ x.n ∧ x.n ≤ 4) : 0 ≤ (cellR x).1.f ∧ (cellR x).1.f ≤ 4 := by
  unfold cellR; split; exact mkV_f _; split; (have := h (by assumption); simp; omega); simp
def ruleR (ops : List Ot) (tr : List Bool) (first : Ot → Option Int) (r i : Int) : Oc :=
  if r = 1 then workR ops (getO ops i) else if r = 2 then faultR ops (getO ops i) else if r = 3 then pickR ops (getO ops i) else if r = 4 then andR ops (getO ops i) else if r = 5 then orR ops (getO ops i)
  else if r = 6 then unitR ops (getO ops i) else if r = 7 then twiceR ops tr (getO ops i) else if r = 8 then truthR ops tr (getO ops i) else if r = 9 then turnR ops (getO ops i) else if r = 10 then selfR tr (getO ops i) else sameR first i (getO ops i)
def atR (ops : List Ot) (tr us : List Bool) (first : Ot → Option Int) (r i : Int) : Oc := if getB us i = false ∨ r < 1 ∨ 11 < r then oc0 else ruleR ops tr first r i
theorem r11 {r : Int} (h : 1 ≤ r) (h' : r ≤ 11) : r = 1 ∨ r = 2 ∨ r = 3 ∨ r = 4 ∨ r = 5 ∨ r = 6 ∨ r = 7 ∨ r = 8 ∨ r = 9 ∨ r = 10 ∨ r = 11 := by omega
end Go.Mi
namespace Go.Mi
open Go Go.RowKit
/-! ### marks -/
def marks (ms : List Nat) : List Deferred := ms.map fun D => { target := .collected D, args := #[] }
structure Marks (w : World) (ms : List Nat) : Prop where
  obj : ∀ D ∈ ms, w.heap[D]? = some (.deferred (some []))
  nodup : ms.Nodup
theorem Marks.nil (w : World) : Marks w [] := ⟨fun _ h => by simp at h, List.nodup_nil⟩
theorem Marks.below {w w' : World} {ms : List Nat} (h : Marks w ms) (hb : Below w.heap.size w w') : Marks w' ms :=
  ⟨fun D hD => (hb.block D (Array.getElem?_eq_some_iff.1 (h.obj D hD)).1).trans (h.obj D hD), h.nodup⟩
theorem Marks.chg {S : Nat → Prop} {w w' : World} {ms : List Nat} (h : Marks w ms) (hc : Chg S w w') (hn : ∀ D ∈ ms, ¬ S D) : Marks w' ms :=
  ⟨fun D hD => (hc.block D (Array.getElem?_eq_some_iff.1 (h.obj D hD)).1 (hn D hD)).trans (h.obj D hD), h.nodup⟩
theorem Marks.ne {w : World} {ms : List Nat} {b : Nat} {cs : List Value} {T : TypeId} (h : Marks w ms) (hB : Blk w b cs T) : ∀ D ∈ ms, ¬ D = b := fun D hD e => by
  subst e; have := h.obj D hD; rw [show w.heap[D]? = _ from hB] at this; cases this
theorem chg_putObj {w : World} {l : Nat} {o : Obj} : Chg (· = l) w (w.putObj l o) :=
  ⟨rfl, rfl, rfl, by simp [World.putObj], fun k _ hk => World.putObj_heap_other hk⟩
section
variable {P : Program} {N : Nat} {l : Frm} {w : World} {fn : Func} {R : Ending → World → Prop} {e : Exit}
theorem leaves_marks {tmps : Array Value} : ∀ (ms : List Nat) (w : World), Marks w ms →
    (∀ w', Chg (· ∈ ms) w w' → ∃ v, (results fn tmps).run P w' = .ok v w' ∧ R (.returned v) w') → LeavesInM (Fw none) 0 P fn tmps R (marks ms) .returning w
  | [], w, _, h => h w (Chg.refl _ _)
  | D :: ms, w, hM, h => by
    refine ⟨(by intro e; cases e), .inl ⟨D, _, rfl, run_takeDeferred (hM.obj D (by simp)), ?_⟩⟩
    have hnd := List.nodup_cons.1 hM.nodup
    refine leaves_marks ms _ ⟨fun D' hD' => (World.putObj_heap_other (fun e => hnd.1 (by subst e; exact hD'))).trans (hM.obj D' (by simp [hD'])), hnd.2⟩ fun w' hc => h w' ?_
    exact (chg_putObj.mono fun k _ hk => by subst hk; simp).trans (hc.mono fun k _ hk => by simp [hk])
theorem D_bodyM_of {vs : Value} {ms : List Nat} (he : Exit.ends e = true) (hM : Marks w ms) (hr : ∀ a w', Ok ⟨none, P, N, marks ms⟩ l a → Chg (· ∈ ms) w w' → (results fn a.tmps).run P w' = .ok vs w')
    (hR : ∀ w', Chg (· ∈ ms) w w' → R (.returned vs) w') : D ⟨none, P, N, marks ms⟩ (bodyPostM (Fw none) 0 P fn R) e l w := fun a ha => by
  have h := leaves_marks (P := P) (fn := fn) (R := R) (tmps := a.tmps) ms w hM fun w' hc => ⟨vs, hr a w' ha hc, hR w' hc⟩
  have hd : a.defers = marks ms := ha.1
  rw [← hd] at h
  cases e <;> first | exact h | (simp [Exit.ends] at he)
theorem D_bodyM0 {ms : List Nat} (he : Exit.ends e = true) (hres : fn.results = #[]) (hM : Marks w ms) (hR : ∀ w', Chg (· ∈ ms) w w' → R (.returned (.tuple #[])) w') : D ⟨none, P, N, marks ms⟩ (bodyPostM (Fw none) 0 P fn R) e l w :=
  D_bodyM_of he hM (fun a _ _ _ => by simp [results, hres]) hR
theorem D_bodyM1 {ms : List Nat} {t : Nat} {v : Value} (he : Exit.ends e = true) (hres : fn.results = #[.tmp t]) (hM : Marks w ms) (hv : look l t = some v) (hR : ∀ w', Chg (· ∈ ms) w w' → R (.returned v) w') : D ⟨none, P, N, marks ms⟩ (bodyPostM (Fw none) 0 P fn R) e l w :=
  D_bodyM_of he hM (fun a _ ha _ => by simp [results, hres, Array.getD_eq_getD_getElem?, ha.2.2 t v hv]) hR
theorem D_bodyM2 {ms : List Nat} {t t' : Nat} {v v' : Value} (he : Exit.ends e = true) (hres : fn.results = #[.tmp t, .tmp t']) (hM : Marks w ms) (hv : look l t = some v) (hv' : look l t' = some v') (hR : ∀ w', Chg (· ∈ ms) w w' → R (.returned (.tuple #[v, v'])) w') : D ⟨none, P, N, marks ms⟩ (bodyPostM (Fw none) 0 P fn R) e l w :=
  D_bodyM_of he hM (fun a _ ha _ => by simp [results, hres, Array.getD_eq_getD_getElem?, ha.2.2 t v hv, ha.2.2 t' v' hv']) hR
theorem D_bodyMR1 {ms : List Nat} {r : ResultVar} {v : Value} (he : Exit.ends e = true) (hres : fn.results = #[r]) (hM : Marks w ms) (h1 : ∀ w', Chg (· ∈ ms) w w' → RV P l w' r v) (hR : ∀ w', Chg (· ∈ ms) w w' → R (.returned v) w') : D ⟨none, P, N, marks ms⟩ (bodyPostM (Fw none) 0 P fn R) e l w :=
  D_bodyM_of he hM (fun a w' ha hc => by rw [results_eq, hres]; simp [Sem.run_bind, (h1 w' hc).run (X := ⟨none, P, N, marks ms⟩) ha, Result.andThen]) hR
theorem D_bodyMR2 {ms : List Nat} {r r' : ResultVar} {v v' : Value} (he : Exit.ends e = true) (hres : fn.results = #[r, r']) (hM : Marks w ms) (h1 : ∀ w', Chg (· ∈ ms) w w' → RV P l w' r v) (h2 : ∀ w', Chg (· ∈ ms) w w' → RV P l w' r' v') (hR : ∀ w', Chg (· ∈ ms) w w' → R (.returned (.tuple #[v, v'])) w') :
    D ⟨none, P, N, marks ms⟩ (bodyPostM (Fw none) 0 P fn R) e l w :=
  D_bodyM_of he hM (fun a w' ha hc => by rw [results_eq, hres]; simp [Sem.run_bind, (h1 w' hc).run (X := ⟨none, P, N, marks ms⟩) ha, (h2 w' hc).run (X := ⟨none, P, N, marks ms⟩) ha, Result.andThen]) hR
end
theorem calls_of_WM {P : Program} {f : FuncId} {fn : Func} {c : Code} {N : Nat} {args : List Value} {w : World} {R : Ending → World → Prop} (hf : P.funcs[f]? = some fn) (hb : fn.body = some c) (hN : fn.ntmps = N) (hle : Nat.ble args.length N = true)
    (h : W ⟨none, P, N, marks []⟩ c (bodyPostM (Fw none) 0 P fn R) (enumF 0 args) w) : Calls P f args.toArray w R := by
  refine (callsIn_wide (n := 0)).1 (callsIn_of_wp_marks hf hb trivial ?_)
  refine h _ ⟨rfl, ?_, fun t v ht => ?_⟩
  · have : args.length ≤ N := Nat.le_of_ble_eq_true hle
    simp [hN]; omega
  · obtain ⟨_, h2⟩ := look_enumF args 0 t v ht
    simp only [Nat.sub_zero] at h2
    have hlt : t < args.length := (List.getElem?_eq_some_iff.1 h2).1
    simp only [Array.getElem?_append, List.size_toArray, hlt, if_true]
    simpa using h2

/-! ### a loop whose rounds may leave marks -/
def LpD (X : Cx) {α : Type} (I : α → Frm) (ds : α → List Deferred) (J : α → World → Prop) (μ : α → Nat) (m : Nat) (Q : Exit → Act → World → Prop) : Exit → Act → World → Prop :=
  Exit.then (fun a w => ∃ x, Ok { X with ds := ds x } (I x) a ∧ J x w ∧ μ x < m) Q
theorem W_loopD {X : Cx} {Q : Exit → Act → World → Prop} {l : Frm} {w : World} {α : Type} {c : Code} (I : α → Frm) (ds : α → List Deferred) (J : α → World → Prop) (μ : α → Nat) (x0 : α) (h0 : Sub l (I x0)) (hds : X.ds = ds x0) (hJ : J x0 w)
    (round : ∀ x w, J x w → W { X with ds := ds x } c (LpD X I ds J μ (μ x) Q) (I x) w) : W X (.loop c) Q l w := by
  classical
  intro a ha
  let p : Act → World → Nat → Prop := fun a w n => ∃ x, Ok { X with ds := ds x } (I x) a ∧ J x w ∧ μ x = n
  let M : Act → World → Nat := fun a w => if h : ∃ n, p a w n then Classical.choose (least h) else 0
  have hM : ∀ a w, (∃ n, p a w n) → p a w (M a w) ∧ ∀ m, p a w m → M a w ≤ m := fun a w h => by
    simp only [M, dif_pos h]; exact Classical.choose_spec (least h)
  refine wpIn_loop (fun a w => ∃ n, p a w n) M ⟨_, x0, ⟨ha.1.trans hds, ha.2.1, (ha.sub h0).2.2⟩, hJ, rfl⟩ ?_
  intro a w hI
  obtain ⟨⟨x, hok, hj, hmu⟩, _⟩ := hM a w hI
  refine wpIn_mono (round x w hj a hok) ?_
  intro e a' w' hq
  cases e with
  | normal =>
    obtain ⟨x', hok', hj', hlt⟩ := hq
    have hI' : ∃ n, p a' w' n := ⟨_, x', hok', hj', rfl⟩
    exact ⟨hI', by have := (hM a' w' hI').2 _ ⟨x', hok', hj', rfl⟩; omega⟩
  | exit id => exact hq
  | goto t => exact hq
  | ret => exact hq
  | panic ch => exact hq
  | outgrown => exact hq
section
variable {X : Cx} {Q : Exit → Act → World → Prop} {l : Frm} {w : World} {α : Type} {r : Option Nat} {P : Program} {N : Nat} {ds0 ds1 : List Deferred} {I : α → Frm} {ds : α → List Deferred} {J : α → World → Prop} {μ : α → Nat} {m : Nat}
theorem D_loopD (x : α) (hs : Sub l (I x)) (hds : ds1 = ds x) (hJ : J x w) (hlt : μ x < m) : D ⟨r, P, N, ds1⟩ (LpD ⟨r, P, N, ds0⟩ I ds J μ m Q) .normal l w :=
  fun _ ha => ⟨x, ⟨ha.1.trans hds, ha.2.1, (ha.sub hs).2.2⟩, hJ, hlt⟩
theorem D_loopD_exit {id : Nat} (h : D X Q (.exit id) l w) : D X (LpD ⟨r, P, N, ds0⟩ I ds J μ m Q) (.exit id) l w := h
theorem D_loopD_ret (h : D X Q .ret l w) : D X (LpD ⟨r, P, N, ds0⟩ I ds J μ m Q) .ret l w := h
end

/-! ### iterators -/
/-- what is asked of a round: it hands back whether it goes on; what it turned is the caller's own -/
def Rnd {α σ : Type} (J Jx : List α → σ → World → Prop) (M : σ → Nat → Prop) (pre : List α) (x : α) (s : σ) (w : World) (e : Ending) (w' : World) : Prop :=
  ∃ b s', e = .returned (.bool b) ∧ Chg (M s) w w' ∧ (∀ k, k < w.heap.size → M s' k → M s k) ∧ (b = true → J (pre ++ [x]) s' w') ∧ (b = false → Jx (pre ++ [x]) s' w')
/-- a function that yields xs, one after another. ro: what it reads between rounds -/
def Iter {α : Type} (P : Program) (f : FuncId) (cap : List Value) (enc : α → Value) (xs : List α) (ro : Nat → Prop) (w : World) : Prop :=
  ∀ (l : Nat) {σ : Type} (J Jx : List α → σ → World → Prop) (M : σ → Nat → Prop),
    (∀ pre s w1 w2, J pre s w1 → Chg (fun k => ¬ (k < w.heap.size ∨ M s k)) w1 w2 → J pre s w2) →
    (∀ pre s w1 w2, Jx pre s w1 → Chg (fun k => ¬ (k < w.heap.size ∨ M s k)) w1 w2 → Jx pre s w2) →
    (∀ pre s w1 k, J pre s w1 → M s k → k < w1.heap.size ∧ ¬ ro k) →
    (∀ pre x post s w1, xs = pre ++ x :: post → w.heap.size ≤ w1.heap.size → J pre s w1 → YieldAt (Fw none) 0 P l #[enc x] w1 (Rnd J Jx M pre x s w1)) →
    ∀ s, J [] s w → Calls P f (.func (.yield l) #[] #[] :: cap).toArray w fun e w' => (∃ v, e = .returned v) ∧ ((∃ s', J xs s' w') ∨ ∃ pre s', Jx pre s' w')
/-- the same for a function with values bound ahead of yield (a method value) -/
def IterB {α : Type} (P : Program) (f : FuncId) (bnd cap : List Value) (enc : α → Value) (xs : List α) (ro : Nat → Prop) (w : World) : Prop :=
  ∀ (l : Nat) {σ : Type} (J Jx : List α → σ → World → Prop) (M : σ → Nat → Prop),
    (∀ pre s w1 w2, J pre s w1 → Chg (fun k => ¬ (k < w.heap.size ∨ M s k)) w1 w2 → J pre s w2) →
    (∀ pre s w1 w2, Jx pre s w1 → Chg (fun k => ¬ (k < w.heap.size ∨ M s k)) w1 w2 → Jx pre s w2) →
    (∀ pre s w1 k, J pre s w1 → M s k → k < w1.heap.size ∧ ¬ ro k) →
    (∀ pre x post s w1, xs = pre ++ x :: post → w.heap.size ≤ w1.heap.size → J pre s w1 → YieldAt (Fw none) 0 P l #[enc x] w1 (Rnd J Jx M pre x s w1)) →
    ∀ s, J [] s w → Calls P f (bnd ++ Value.func (.yield l) #[] #[] :: cap).toArray w fun e w' => (∃ v, e = .returned v) ∧ ((∃ s', J xs s' w') ∨ ∃ pre s', Jx pre s' w')
theorem SG_yield {X : Cx} {Q : Exit → Act → World → Prop} {l : Frm} {w : World} {ops : Array Oper} {rest : List Oper} {d : Nat} {g x : Operand} {tys : Array TypeId} {ty : TypeId} {pos : String} {af : Array Edge} {lp : Nat} {v : Value} {R : Ending → World → Prop}
    (hg : ev l g = some (.func (.yield lp) #[] #[])) (hx : ev l x = some v) (hd : Nat.blt d X.N = true) (h : YieldAt (Fw none) 0 X.P lp #[v] w R) (hR : ∀ e w', R e w' → ∃ u, e = .returned u)
    (k : ∀ u w', R (.returned u) w' → SG X ops Q rest ((d, u) :: l) w') :
    SG X ops Q ({ dst := some d, op := .call { callee := .value g, args := #[x], argTypes := tys }, type := ty, pos := pos, after := af, guard := none } :: rest) l w := fun a ha => by
  obtain ⟨fn, tmps, assign, body, hy, hr⟩ := h
  simp only [segL, Region.wanted, if_true, Oper.wpIn]
  refine ⟨fun _ _ => trivial, ?_⟩
  have hrun : (execOp a.eval { dst := some d, op := .call { callee := .value g, args := #[x], argTypes := tys }, type := ty, pos := pos, after := af, guard := none }).run X.P w = .ok (.round lp fn tmps assign body) w := by
    unfold execOp
    simp [resolve, ha.ev hg, ha.ev hx, Deferred.ofValue, invoke, Sem.run_bind, Result.andThen, hy]
  rw [semAt_of hrun (by intro d h; cases h)]
  rw [Oper.uponIn_round]
  refine ⟨(fun h => by cases h), RoundIn.mono (show RoundIn (Fw X.r) 0 X.P lp fn tmps assign body w R from hr) ?_⟩
  intro e w' he
  obtain ⟨u, rfl⟩ := hR e w' he
  exact k u w' he _ (ha.put hd u)
/-! ### the statement -/
def As (X : Cx) (body : Code) (Qb : World → Exit → Act → World → Prop) (w1 : World) (Jw : World → Prop) : Exit → Act → World → Prop :=
  fun e a w' => e = .normal ∧ w' = w1 ∧ ∃ l', Ok X l' a ∧ ∀ w2, Jw w2 → W X body (Qb w2) l' w2
theorem D_as {X : Cx} {body : Code} {Qb : World → Exit → Act → World → Prop} {w1 : World} {Jw : World → Prop} {l : Frm} (h : ∀ w2, Jw w2 → W X body (Qb w2) l w2) : D X (As X body Qb w1 Jw) .normal l w1 := fun _ ha => ⟨rfl, rfl, l, ha, h⟩
def Rd {α σ : Type} (J : List α → σ → World → Prop) (Jx : Code → List α → σ → World → Prop) (M : σ → Nat → Prop) (pre : List α) (x : α) (s : σ) (w2 : World) : Exit → Act → World → Prop
  | .normal, _, w' => ∃ s', J (pre ++ [x]) s' w' ∧ Chg (M s) w2 w' ∧ ∀ k, k < w2.heap.size → M s' k → M s k
  | .ret, _, w' => ∃ s', Jx .ret (pre ++ [x]) s' w' ∧ Chg (M s) w2 w' ∧ ∀ k, k < w2.heap.size → M s' k → M s k
  | .exit id, _, w' => ∃ s', Jx (.exit id) (pre ++ [x]) s' w' ∧ Chg (M s) w2 w' ∧ ∀ k, k < w2.heap.size → M s' k → M s k
  | _, _, _ => False
theorem putObj_same {w : World} {l : Nat} {o o' : Obj} (h : w.heap[l]? = some o) : (w.putObj l o').heap[l]? = some o' := World.putObj_heap_same (Array.getElem?_eq_some_iff.1 h).1
theorem chg_get {S : Nat → Prop} {w w' : World} {k : Nat} {o : Obj} (hc : Chg S w w') (h : w.heap[k]? = some o) (hn : ¬ S k) : w'.heap[k]? = some o := (hc.block k (Array.getElem?_eq_some_iff.1 h).1 hn).trans h
theorem ok_round {X : Cx} {l : Frm} {a : Act} (ha : Ok X l a) (r : Option Nat) (p : Nat) (v : Value) (hp : Nat.blt p X.N = true) : Ok ⟨r, X.P, X.N, []⟩ ((p, v) :: l) { tmps := (#[p].zip #[v]).foldl (fun tmps (t, a) => tmps.setIfInBounds t a) a.tmps, defers := [] } := by
  have h1 : Ok ⟨r, X.P, X.N, []⟩ l { tmps := a.tmps, defers := [] } := ⟨rfl, ha.2.1, ha.2.2⟩
  have := h1.put (d := p) hp v
  simpa [Act.put] using this
theorem W_rangeB {P : Program} {N : Nat} {ms : List Nat} {l : Frm} {w : World} {Q : Exit → Act → World → Prop} {g : Operand} {p : Nat} {assign body : Code} {f : FuncId} {bnd cap : List Value} {α : Type} {enc : α → Value} {xs : List α} {ro : Nat → Prop}
    (hg : ev l g = some (.func (.func f) bnd.toArray cap.toArray)) (hp : Nat.blt p N = true) (hf : ∀ args w, (callFunc f args).run P w = .ok (.enter f args) w)
    (hit : ∀ w', Below w.heap.size w w' → IterB P f bnd cap enc xs ro w') (hro : ∀ k, ro k → k < w.heap.size)
    {σ : Type} (J : List α → σ → World → Prop) (Jx : Code → List α → σ → World → Prop) (M : σ → Nat → Prop) (s0 : σ)
    (hJ : ∀ pre s w1 w2, J pre s w1 → Chg (fun k => ¬ (k < w.heap.size ∨ M s k)) w1 w2 → J pre s w2)
    (hJx : ∀ c pre s w1 w2, Jx c pre s w1 → Chg (fun k => ¬ (k < w.heap.size ∨ M s k)) w1 w2 → Jx c pre s w2)
    (hM : ∀ pre s w1 k, J pre s w1 → M s k → (k < w.heap.size ∧ ¬ ro k) ∨ (w.heap.size + 2 ≤ k ∧ k < w1.heap.size))
    (hMx : ∀ c pre s w1 k, Jx c pre s w1 → M s k → k < w.heap.size ∨ w.heap.size + 2 ≤ k)
    (h0 : J [] s0 w)
    (round : ∀ pre x post s w1, xs = pre ++ x :: post → J pre s w1 → w.heap.size + 2 ≤ w1.heap.size →
      W ⟨some (w.heap.size + 1), P, N, []⟩ assign (As ⟨some (w.heap.size + 1), P, N, []⟩ body (Rd J Jx M pre x s) w1 (fun w2 => J pre s w2 ∧ w.heap.size + 2 ≤ w2.heap.size ∧ ∃ r, w2.heap[w.heap.size + 1]? = some (.loop r))) ((p, enc x) :: l) w1)
    (done : ∀ s w', J xs s w' → w.heap.size + 2 ≤ w'.heap.size → w'.heap[w.heap.size]? = some (.deferred (some [])) → D ⟨none, P, N, marks (w.heap.size :: ms)⟩ Q .normal l w')
    (stop : ∀ c pre s w', Jx c pre s w' → w.heap.size + 2 ≤ w'.heap.size → w'.heap[w.heap.size]? = some (.deferred (some [])) → W ⟨none, P, N, marks (w.heap.size :: ms)⟩ c Q l w') :
    W ⟨none, P, N, marks ms⟩ (.rangeFunc g #[p] assign body) Q l w := by
  intro a ha
  refine wpIn_rangeFunc ?_
  intro fn hfn
  obtain ⟨rec, hrec⟩ : ∃ rec : LoopState → Option Code → Loop, rec = fun st pe => { state := st, pending := pe, fn, tmps := a.tmps, params := #[p], assign, body, defers := w.heap.size } := ⟨_, rfl⟩
  obtain ⟨W1, hW1⟩ : ∃ W1, (w.alloc (.deferred (some []))).alloc (.loop (rec .ready none)) = W1 := ⟨_, rfl⟩
  have hL1 : W1.heap[w.heap.size + 1]? = some (.loop (rec .ready none)) := by
    rw [← hW1]; have := World.alloc_heap_new (w.alloc (.deferred (some []))) (.loop (rec .ready none)); rwa [World.size_alloc] at this
  have hK1 : W1.heap[w.heap.size]? = some (.deferred (some [])) := by
    rw [← hW1]; exact (Below.heap_alloc _ _ _ (by simp)).trans (World.alloc_heap_new w _)
  have hs1 : W1.heap.size = w.heap.size + 2 := by rw [← hW1]; simp
  have hb1 : Below w.heap.size w W1 := by
    rw [← hW1]; exact ((Below.refl _ w).alloc (Nat.le_refl _) _).alloc (by simp) _
  have hds : a.defers = marks ms := ha.1
  have hmk : ∀ Q', ({ target := .collected w.heap.size, args := #[] } :: a.defers : List Deferred) = Q' → Q' = marks (w.heap.size :: ms) := fun Q' e => by rw [← e, hds]; rfl
  have hok : Ok ⟨none, P, N, marks (w.heap.size :: ms)⟩ l { a with defers := [{ target := .collected w.heap.size, args := #[] }] ++ a.defers } := ⟨hmk _ rfl, ha.2.1, ha.2.2⟩
  refine ⟨w.heap.size + 1, [{ target := .collected w.heap.size, args := #[] }], W1, { target := .fn (.func f) cap.toArray, args := (bnd ++ [Value.func (.yield (w.heap.size + 1)) #[] #[]]).toArray }, W1, f,
    (bnd ++ Value.func (.yield (w.heap.size + 1)) #[] #[] :: cap).toArray, W1, ?_, ?_, (fun _ _ => trivial), ?_, (fun h => by cases h), ?_⟩
  · rw [← hW1, hrec]; exact run_enterLoop_outer _ _ _ _ _
  · simp only [resolve, ha.ev hg]
    simp [go_sem]
  · simp [invoke, go_sem, hf]
  · let M' : σ → Nat → Prop := fun s k => M s k ∨ k = w.heap.size + 1
    have hMl : ∀ pre s w1, J pre s w1 → ¬ M s (w.heap.size + 1) ∧ ¬ M s w.heap.size := fun pre s w1 hj => ⟨fun h => by have := hM _ _ _ _ hj h; omega, fun h => by have := hM _ _ _ _ hj h; omega⟩
    have hMlx : ∀ c pre s w1, Jx c pre s w1 → ¬ M s (w.heap.size + 1) ∧ ¬ M s w.heap.size := fun c pre s w1 hj => ⟨fun h => by have := hMx _ _ _ _ _ hj h; omega, fun h => by have := hMx _ _ _ _ _ hj h; omega⟩
    have hput : ∀ pre s w1 o, J pre s w1 → J pre s (w1.putObj (w.heap.size + 1) o) := fun pre s w1 o hj => hJ _ _ _ _ hj (chg_putObj.mono fun k _ hk => by subst hk; have := (hMl _ _ _ hj).1; simp [this])
    have hputx : ∀ c pre s w1 o, Jx c pre s w1 → Jx c pre s (w1.putObj (w.heap.size + 1) o) := fun c pre s w1 o hj => hJx _ _ _ _ _ hj (chg_putObj.mono fun k _ hk => by subst hk; have := (hMlx _ _ _ _ hj).1; simp [this])
    have hc := hit W1 hb1 (w.heap.size + 1)
      (fun pre s W => J pre s W ∧ W.heap[w.heap.size + 1]? = some (.loop (rec .ready none)) ∧ W.heap[w.heap.size]? = some (.deferred (some [])))
      (fun pre s W => ∃ c, Jx c pre s W ∧ W.heap[w.heap.size + 1]? = some (.loop (rec .done (some c))) ∧ W.heap[w.heap.size]? = some (.deferred (some []))) M'
      (fun pre s w1 w2 h hcg => ⟨hJ _ _ _ _ h.1 (hcg.mono fun k _ hk hn => hk (hn.elim (fun h => .inl (by omega)) (fun h => .inr (.inl h)))), chg_get hcg h.2.1 (by simp [M']), chg_get hcg h.2.2 (fun hn => hn (.inl (by omega)))⟩)
      (fun pre s w1 w2 h hcg => by
        obtain ⟨c, hx, h1, h2⟩ := h
        exact ⟨c, hJx _ _ _ _ _ hx (hcg.mono fun k _ hk hn => hk (hn.elim (fun h => .inl (by omega)) (fun h => .inr (.inl h)))), chg_get hcg h1 (by simp [M']), chg_get hcg h2 (fun hn => hn (.inl (by omega)))⟩)
      (fun pre s w1 k h hm => by
        have hlt : w.heap.size + 1 < w1.heap.size := (Array.getElem?_eq_some_iff.1 h.2.1).1
        rcases hm with hm | hm
        · rcases hM _ _ _ _ h.1 hm with ⟨h1, h2⟩ | ⟨h1, h2⟩
          · exact ⟨by omega, h2⟩
          · exact ⟨h2, fun hr => by have := hro _ hr; omega⟩
        · subst hm; exact ⟨hlt, fun hr => by have := hro _ hr; omega⟩)
      ?_ s0 ⟨hJ _ _ _ _ h0 (Chg.of_below _ hb1), hL1, hK1⟩
    · refine callsIn_of (r := none) (n := 0) (Calls.mono hc ?_)
      rintro e W2 ⟨⟨v, rfl⟩, (⟨s', hj, hl, hk⟩ | ⟨pre, s', c, hj, hl, hk⟩)⟩
      · refine ⟨none, _, by have := run_endLoop (P := P) hl (by rw [hrec]; simp); rw [hrec] at this; exact this, ?_⟩
        exact done s' _ (hput _ _ _ _ hj) (by have := (Array.getElem?_eq_some_iff.1 hl).1; simp [World.putObj]; omega) ((World.putObj_heap_other (by omega)).trans hk) _ hok
      · refine ⟨some c, _, by have := run_endLoop (P := P) hl (by rw [hrec]; simp); rw [hrec] at this; exact this, ?_⟩
        exact stop c pre s' _ (hputx _ _ _ _ _ hj) (by have := (Array.getElem?_eq_some_iff.1 hl).1; simp [World.putObj]; omega) ((World.putObj_heap_other (by omega)).trans hk) _ hok
    · intro pre x post s w1 hxs _ ⟨hj, hl, hk⟩
      have hlt : w.heap.size + 1 < w1.heap.size := (Array.getElem?_eq_some_iff.1 hl).1
      have hy := run_yield (P := P) (args := #[enc x]) hl (by rw [hrec]; rfl)
      rw [hrec] at hy
      refine ⟨fn, _, assign, body, hy, roundIn_of_wpIn trivial (wpIn_mono (round pre x post s w1 hxs hj (by omega) _ (ok_round ha _ p (enc x) hp)) ?_)⟩
      rintro e a1 w1' ⟨rfl, rfl, l', hok', hbody⟩
      refine ⟨_, run_beginRound hl (by rw [hrec]), ?_⟩
      have hl2 : (w1'.putObj (w.heap.size + 1) (.loop { rec .ready none with state := .busy })).heap[w.heap.size + 1]? = some (.loop { rec .ready none with state := .busy }) := putObj_same hl
      have hk2 : (w1'.putObj (w.heap.size + 1) (.loop { rec .ready none with state := .busy })).heap[w.heap.size]? = some (.deferred (some [])) := (World.putObj_heap_other (by omega)).trans hk
      have hj2 := hput pre s w1' (.loop { rec .ready none with state := .busy }) hj
      have hsz : (w1'.putObj (w.heap.size + 1) (.loop { rec .ready none with state := .busy })).heap.size = w1'.heap.size := by simp [World.putObj]
      refine wpIn_mono (hbody _ ⟨hj2, by rw [hsz]; omega, _, hl2⟩ a1 hok') ?_
      have hMs := hMl _ _ _ hj
      have chgAll : ∀ (w3 : World) (o : Obj), Chg (M s) (w1'.putObj (w.heap.size + 1) (.loop { rec .ready none with state := .busy })) w3 → Chg (M' s) w1' (w3.putObj (w.heap.size + 1) o) := fun w3 o h3 =>
        (chg_putObj.mono fun k _ hk => .inr hk).trans ((h3.mono fun k _ hk => .inl hk).trans (chg_putObj.mono fun k _ hk => .inr hk))
      have mm : ∀ s', (∀ k, k < (w1'.putObj (w.heap.size + 1) (.loop { rec .ready none with state := .busy })).heap.size → M s' k → M s k) → ∀ k, k < w1'.heap.size → M' s' k → M' s k := fun s' h k hk hm => hm.imp (h k (by rw [hsz]; exact hk)) id
      intro e a3 w3 hp3
      cases e with
      | normal =>
        obtain ⟨s', hj3, hc3, hm3⟩ := hp3
        have hl3 := chg_get hc3 hl2 hMs.1
        have hk3 := chg_get hc3 hk2 hMs.2
        refine ⟨_, _, run_endRound none hl3, true, s', rfl, chgAll _ _ hc3, mm _ hm3, fun _ => ⟨hput _ _ _ _ hj3, ?_, (World.putObj_heap_other (by omega)).trans hk3⟩, fun h => by cases h⟩
        have := putObj_same (o' := .loop { rec .ready none with state := .ready, pending := none }) hl3
        rw [hrec] at this ⊢; exact this
      | ret =>
        obtain ⟨s', hj3, hc3, hm3⟩ := hp3
        have hl3 := chg_get hc3 hl2 hMs.1
        have hk3 := chg_get hc3 hk2 hMs.2
        refine ⟨_, _, run_endRound (some .ret) hl3, false, s', rfl, chgAll _ _ hc3, mm _ hm3, fun h => (by cases h), fun _ => ⟨.ret, hputx _ _ _ _ _ hj3, ?_, (World.putObj_heap_other (by omega)).trans hk3⟩⟩
        have := putObj_same (o' := .loop { rec .ready none with state := .done, pending := some .ret }) hl3
        rw [hrec] at this ⊢; exact this
      | exit id =>
        obtain ⟨s', hj3, hc3, hm3⟩ := hp3
        have hl3 := chg_get hc3 hl2 hMs.1
        have hk3 := chg_get hc3 hk2 hMs.2
        refine ⟨_, _, run_endRound (some (.exit id)) hl3, false, s', rfl, chgAll _ _ hc3, mm _ hm3, fun h => (by cases h), fun _ => ⟨.exit id, hputx _ _ _ _ _ hj3, ?_, (World.putObj_heap_other (by omega)).trans hk3⟩⟩
        have := putObj_same (o' := .loop { rec .ready none with state := .done, pending := some (.exit id) }) hl3
        rw [hrec] at this ⊢; exact this
      | goto t => exact hp3.elim
      | panic ch => exact hp3.elim
      | outgrown => exact hp3.elim
theorem W_range {P : Program} {N : Nat} {ms : List Nat} {l : Frm} {w : World} {Q : Exit → Act → World → Prop} {g : Operand} {p : Nat} {assign body : Code} {f : FuncId} {cap : List Value} {α : Type} {enc : α → Value} {xs : List α} {ro : Nat → Prop}
    (hg : ev l g = some (.func (.func f) #[] cap.toArray)) (hp : Nat.blt p N = true) (hf : ∀ args w, (callFunc f args).run P w = .ok (.enter f args) w)
    (hit : ∀ w', Below w.heap.size w w' → Iter P f cap enc xs ro w') (hro : ∀ k, ro k → k < w.heap.size)
    {σ : Type} (J : List α → σ → World → Prop) (Jx : Code → List α → σ → World → Prop) (M : σ → Nat → Prop) (s0 : σ)
    (hJ : ∀ pre s w1 w2, J pre s w1 → Chg (fun k => ¬ (k < w.heap.size ∨ M s k)) w1 w2 → J pre s w2)
    (hJx : ∀ c pre s w1 w2, Jx c pre s w1 → Chg (fun k => ¬ (k < w.heap.size ∨ M s k)) w1 w2 → Jx c pre s w2)
    (hM : ∀ pre s w1 k, J pre s w1 → M s k → (k < w.heap.size ∧ ¬ ro k) ∨ (w.heap.size + 2 ≤ k ∧ k < w1.heap.size))
    (hMx : ∀ c pre s w1 k, Jx c pre s w1 → M s k → k < w.heap.size ∨ w.heap.size + 2 ≤ k)
    (h0 : J [] s0 w)
    (round : ∀ pre x post s w1, xs = pre ++ x :: post → J pre s w1 → w.heap.size + 2 ≤ w1.heap.size →
      W ⟨some (w.heap.size + 1), P, N, []⟩ assign (As ⟨some (w.heap.size + 1), P, N, []⟩ body (Rd J Jx M pre x s) w1 (fun w2 => J pre s w2 ∧ w.heap.size + 2 ≤ w2.heap.size ∧ ∃ r, w2.heap[w.heap.size + 1]? = some (.loop r))) ((p, enc x) :: l) w1)
    (done : ∀ s w', J xs s w' → w.heap.size + 2 ≤ w'.heap.size → w'.heap[w.heap.size]? = some (.deferred (some [])) → D ⟨none, P, N, marks (w.heap.size :: ms)⟩ Q .normal l w')
    (stop : ∀ c pre s w', Jx c pre s w' → w.heap.size + 2 ≤ w'.heap.size → w'.heap[w.heap.size]? = some (.deferred (some [])) → W ⟨none, P, N, marks (w.heap.size :: ms)⟩ c Q l w') :
    W ⟨none, P, N, marks ms⟩ (.rangeFunc g #[p] assign body) Q l w :=
  W_rangeB (bnd := []) hg hp hf hit hro J Jx M s0 hJ hJx hM hMx h0 round done stop
/-- a range within a round of loop l0 -/
theorem W_rangeN {P : Program} {N : Nat} {l0 : Nat} {r0 : Loop} {ds : List Deferred} {l : Frm} {w : World} {Q : Exit → Act → World → Prop} {g : Operand} {p : Nat} {assign body : Code} {f : FuncId} {bnd cap : List Value} {α : Type} {enc : α → Value} {xs : List α} {ro : Nat → Prop}
    (hl0 : w.heap[l0]? = some (.loop r0)) (hg : ev l g = some (.func (.func f) bnd.toArray cap.toArray)) (hp : Nat.blt p N = true) (hf : ∀ args w, (callFunc f args).run P w = .ok (.enter f args) w)
    (hit : ∀ w', Below w.heap.size w w' → IterB P f bnd cap enc xs ro w') (hro : ∀ k, ro k → k < w.heap.size)
    {σ : Type} (J : List α → σ → World → Prop) (Jx : Code → List α → σ → World → Prop) (M : σ → Nat → Prop) (s0 : σ)
    (hJ : ∀ pre s w1 w2, J pre s w1 → Chg (fun k => ¬ (k < w.heap.size ∨ M s k)) w1 w2 → J pre s w2)
    (hJx : ∀ c pre s w1 w2, Jx c pre s w1 → Chg (fun k => ¬ (k < w.heap.size ∨ M s k)) w1 w2 → Jx c pre s w2)
    (hM : ∀ pre s w1 k, J pre s w1 → M s k → (k < w.heap.size ∧ ¬ ro k) ∨ (w.heap.size + 1 ≤ k ∧ k < w1.heap.size))
    (hMx : ∀ c pre s w1 k, Jx c pre s w1 → M s k → k < w.heap.size ∨ w.heap.size + 1 ≤ k)
    (h0 : J [] s0 w)
    (round : ∀ pre x post s w1, xs = pre ++ x :: post → J pre s w1 → w.heap.size + 1 ≤ w1.heap.size →
      W ⟨some (w.heap.size), P, N, []⟩ assign (As ⟨some (w.heap.size), P, N, []⟩ body (Rd J Jx M pre x s) w1 (fun w2 => J pre s w2 ∧ w.heap.size + 1 ≤ w2.heap.size ∧ ∃ r, w2.heap[w.heap.size]? = some (.loop r))) ((p, enc x) :: l) w1)
    (done : ∀ s w', J xs s w' → w.heap.size + 1 ≤ w'.heap.size → D ⟨some l0, P, N, ds⟩ Q .normal l w')
    (stop : ∀ c pre s w', Jx c pre s w' → w.heap.size + 1 ≤ w'.heap.size → W ⟨some l0, P, N, ds⟩ c Q l w') :
    W ⟨some l0, P, N, ds⟩ (.rangeFunc g #[p] assign body) Q l w := by
  intro a ha
  refine wpIn_rangeFunc ?_
  intro fn hfn
  obtain ⟨rec, hrec⟩ : ∃ rec : LoopState → Option Code → Loop, rec = fun st pe => { state := st, pending := pe, fn, tmps := a.tmps, params := #[p], assign, body, defers := r0.defers } := ⟨_, rfl⟩
  obtain ⟨W1, hW1⟩ : ∃ W1, w.alloc (.loop (rec .ready none)) = W1 := ⟨_, rfl⟩
  have hL1 : W1.heap[w.heap.size]? = some (.loop (rec .ready none)) := by
    rw [← hW1]; exact World.alloc_heap_new w _
  have hs1 : W1.heap.size = w.heap.size + 1 := by rw [← hW1]; simp
  have hb1 : Below w.heap.size w W1 := by
    rw [← hW1]; exact (Below.refl _ w).alloc (Nat.le_refl _) _
  have hok : Ok ⟨some l0, P, N, ds⟩ l { a with defers := [] ++ a.defers } := ⟨ha.1, ha.2.1, ha.2.2⟩
  refine ⟨w.heap.size, [], W1, { target := .fn (.func f) cap.toArray, args := (bnd ++ [Value.func (.yield (w.heap.size)) #[] #[]]).toArray }, W1, f,
    (bnd ++ Value.func (.yield (w.heap.size)) #[] #[] :: cap).toArray, W1, ?_, ?_, (fun _ _ => trivial), ?_, (fun h => by cases h), ?_⟩
  · rw [← hW1, hrec]; exact run_enterLoop_inner hl0 _ _ _ _ _
  · simp only [resolve, ha.ev hg]
    simp [go_sem]
  · simp [invoke, go_sem, hf]
  · let M' : σ → Nat → Prop := fun s k => M s k ∨ k = w.heap.size
    have hMl : ∀ pre s w1, J pre s w1 → ¬ M s (w.heap.size) := fun pre s w1 hj h => by have := hM _ _ _ _ hj h; omega
    have hMlx : ∀ c pre s w1, Jx c pre s w1 → ¬ M s (w.heap.size) := fun c pre s w1 hj h => by have := hMx _ _ _ _ _ hj h; omega
    have hput : ∀ pre s w1 o, J pre s w1 → J pre s (w1.putObj (w.heap.size) o) := fun pre s w1 o hj => hJ _ _ _ _ hj (chg_putObj.mono fun k _ hk => by subst hk; have := hMl _ _ _ hj; simp [this])
    have hputx : ∀ c pre s w1 o, Jx c pre s w1 → Jx c pre s (w1.putObj (w.heap.size) o) := fun c pre s w1 o hj => hJx _ _ _ _ _ hj (chg_putObj.mono fun k _ hk => by subst hk; have := hMlx _ _ _ _ hj; simp [this])
    have hc := hit W1 hb1 (w.heap.size)
      (fun pre s W => J pre s W ∧ W.heap[w.heap.size]? = some (.loop (rec .ready none)))
      (fun pre s W => ∃ c, Jx c pre s W ∧ W.heap[w.heap.size]? = some (.loop (rec .done (some c)))) M'
      (fun pre s w1 w2 h hcg => ⟨hJ _ _ _ _ h.1 (hcg.mono fun k _ hk hn => hk (hn.elim (fun h => .inl (by omega)) (fun h => .inr (.inl h)))), chg_get hcg h.2 (by simp [M'])⟩)
      (fun pre s w1 w2 h hcg => by
        obtain ⟨c, hx, h1⟩ := h
        exact ⟨c, hJx _ _ _ _ _ hx (hcg.mono fun k _ hk hn => hk (hn.elim (fun h => .inl (by omega)) (fun h => .inr (.inl h)))), chg_get hcg h1 (by simp [M'])⟩)
      (fun pre s w1 k h hm => by
        have hlt : w.heap.size < w1.heap.size := (Array.getElem?_eq_some_iff.1 h.2).1
        rcases hm with hm | hm
        · rcases hM _ _ _ _ h.1 hm with ⟨h1, h2⟩ | ⟨h1, h2⟩
          · exact ⟨by omega, h2⟩
          · exact ⟨h2, fun hr => by have := hro _ hr; omega⟩
        · subst hm; exact ⟨hlt, fun hr => by have := hro _ hr; omega⟩)
      ?_ s0 ⟨hJ _ _ _ _ h0 (Chg.of_below _ hb1), hL1⟩
    · refine callsIn_of (r := some l0) (n := 0) (Calls.mono hc ?_)
      rintro e W2 ⟨⟨v, rfl⟩, (⟨s', hj, hl⟩ | ⟨pre, s', c, hj, hl⟩)⟩
      · refine ⟨none, _, by have := run_endLoop (P := P) hl (by rw [hrec]; simp); rw [hrec] at this; exact this, ?_⟩
        exact done s' _ (hput _ _ _ _ hj) (by have := (Array.getElem?_eq_some_iff.1 hl).1; simp [World.putObj]; omega) _ hok
      · refine ⟨some c, _, by have := run_endLoop (P := P) hl (by rw [hrec]; simp); rw [hrec] at this; exact this, ?_⟩
        exact stop c pre s' _ (hputx _ _ _ _ _ hj) (by have := (Array.getElem?_eq_some_iff.1 hl).1; simp [World.putObj]; omega) _ hok
    · intro pre x post s w1 hxs _ ⟨hj, hl⟩
      have hlt : w.heap.size < w1.heap.size := (Array.getElem?_eq_some_iff.1 hl).1
      have hy := run_yield (P := P) (args := #[enc x]) hl (by rw [hrec]; rfl)
      rw [hrec] at hy
      refine ⟨fn, _, assign, body, hy, roundIn_of_wpIn trivial (wpIn_mono (round pre x post s w1 hxs hj (by omega) _ (ok_round ha _ p (enc x) hp)) ?_)⟩
      rintro e a1 w1' ⟨rfl, rfl, l', hok', hbody⟩
      refine ⟨_, run_beginRound hl (by rw [hrec]), ?_⟩
      have hl2 : (w1'.putObj (w.heap.size) (.loop { rec .ready none with state := .busy })).heap[w.heap.size]? = some (.loop { rec .ready none with state := .busy }) := putObj_same hl
      have hj2 := hput pre s w1' (.loop { rec .ready none with state := .busy }) hj
      have hsz : (w1'.putObj (w.heap.size) (.loop { rec .ready none with state := .busy })).heap.size = w1'.heap.size := by simp [World.putObj]
      refine wpIn_mono (hbody _ ⟨hj2, by rw [hsz]; omega, _, hl2⟩ a1 hok') ?_
      have hMs := hMl _ _ _ hj
      have chgAll : ∀ (w3 : World) (o : Obj), Chg (M s) (w1'.putObj (w.heap.size) (.loop { rec .ready none with state := .busy })) w3 → Chg (M' s) w1' (w3.putObj (w.heap.size) o) := fun w3 o h3 =>
        (chg_putObj.mono fun k _ hk => .inr hk).trans ((h3.mono fun k _ hk => .inl hk).trans (chg_putObj.mono fun k _ hk => .inr hk))
      have mm : ∀ s', (∀ k, k < (w1'.putObj (w.heap.size) (.loop { rec .ready none with state := .busy })).heap.size → M s' k → M s k) → ∀ k, k < w1'.heap.size → M' s' k → M' s k := fun s' h k hk hm => hm.imp (h k (by rw [hsz]; exact hk)) id
      intro e a3 w3 hp3
      cases e with
      | normal =>
        obtain ⟨s', hj3, hc3, hm3⟩ := hp3
        have hl3 := chg_get hc3 hl2 hMs
        refine ⟨_, _, run_endRound none hl3, true, s', rfl, chgAll _ _ hc3, mm _ hm3, fun _ => ⟨hput _ _ _ _ hj3, ?_⟩, fun h => by cases h⟩
        have := putObj_same (o' := .loop { rec .ready none with state := .ready, pending := none }) hl3
        rw [hrec] at this ⊢; exact this
      | ret =>
        obtain ⟨s', hj3, hc3, hm3⟩ := hp3
        have hl3 := chg_get hc3 hl2 hMs
        refine ⟨_, _, run_endRound (some .ret) hl3, false, s', rfl, chgAll _ _ hc3, mm _ hm3, fun h => (by cases h), fun _ => ⟨.ret, hputx _ _ _ _ _ hj3, ?_⟩⟩
        have := putObj_same (o' := .loop { rec .ready none with state := .done, pending := some .ret }) hl3
        rw [hrec] at this ⊢; exact this
      | exit id =>
        obtain ⟨s', hj3, hc3, hm3⟩ := hp3
        have hl3 := chg_get hc3 hl2 hMs
        refine ⟨_, _, run_endRound (some (.exit id)) hl3, false, s', rfl, chgAll _ _ hc3, mm _ hm3, fun h => (by cases h), fun _ => ⟨.exit id, hputx _ _ _ _ _ hj3, ?_⟩⟩
        have := putObj_same (o' := .loop { rec .ready none with state := .done, pending := some (.exit id) }) hl3
        rw [hrec] at this ⊢; exact this
      | goto t => exact hp3.elim
      | panic ch => exact hp3.elim
      | outgrown => exact hp3.elim
/-! ### slices in regions of any order -/
def SlR {α : Type} (B k : Nat) (enc : α → List Value) (xs : List α) (v : Value) (w : World) (_ _ : Nat) : Prop := SL w v k enc xs ∧ B ≤ sb v ∧ ∃ b o c, v = .slice (some ⟨b, o, none⟩) xs.length c ∧ xs.length ≤ c
theorem SlR.stab {α : Type} {B k : Nat} {enc : α → List Value} {xs : List α} {ds : List Nat} : (frs ds (SlR B k enc xs)).stab := fun _ _ _ _ _ hb _ ⟨h1, h2, h3⟩ => ⟨h1.below hb, h2, h3⟩
section
variable {α : Type} {P : Program} {l : Frm} {w : World} {k B : Nat} {enc : α → List Value} {xs : List α} {ds : List Nat}
theorem Ex_bslice {d : Option Nat} {t e n : Nat} {z : Value} {val : α → Value} {os : List Operand} {parts : Array (Nat × Operand)} {vs : List Value} {ty : TypeId} {pos : String} {af : Array Edge} {g : Option (Nat × Bool)} (hB : B ≤ w.heap.size)
    (hparts : parts.toList = os.zipIdx.map (fun p => (p.2, p.1))) (hev : evs l os = some vs) (hm : MV val vs xs) (hval : ∀ x, (val x).cells = (enc x).toArray) (hl : ∀ x, (enc x).length = k)
    (ht : ∀ w, (underlying t).run P w = .ok (.slice e) w) (hk : ∀ w, (sizeOf e).run P w = .ok k w) (hz : ∀ w, (zeroValue e).run P w = .ok z w) (hn : vs.length = n) (hle : n * k ≤ 16777216) (hp : 0 < k) :
    ExH P { dst := d, op := .buildSlice t n parts, type := ty, pos := pos, after := af, guard := g } l w (fun u w' => (frs ds (SlR B k enc xs)).R u w' w.heap.size w'.heap.size) := by
  have hx : n = xs.length := by rw [← hn, hm.length]
  have ho : OS (w.alloc (.cells (xs.flatMap enc).toArray e)) (.slice (some ⟨w.heap.size, 0, none⟩) n n) e k enc xs w.heap.size := OS.made hl hp rfl hx (by have : n ≤ n * k := Nat.le_mul_of_pos_right n hp; omega)
  refine Ex_run (v := .slice (some ⟨w.heap.size, 0, none⟩) n n) (w' := w.alloc (.cells (xs.flatMap enc).toArray e)) ?_ (alloc_below _ _) ⟨ho.sl, hB, _, _, _, by rw [hx], Nat.le_refl _⟩
  intro X' a o hP ha ho' hty
  subst hP
  exact run_bsl ha ho' hparts hev hm hval hl ht hk hz hn hle w
theorem SL.take {v : Value} (h : SL w v k enc xs) {b o c n : Nat} (hv : v = .slice (some ⟨b, o, none⟩) xs.length c) (hn : n ≤ xs.length) (hc : xs.length ≤ c) : SL w (.slice (some ⟨b, o, none⟩) n c) k enc (xs.take n) := by
  have hlen : (xs.take n).length = n := by simp; omega
  refine ⟨.inr ⟨by rw [hlen]; rfl, by rw [hlen]; exact Nat.le_trans hn hc⟩, fun i x hi => ?_, h.pos⟩
  have hlt : i < n := by have := (List.getElem?_eq_some_iff.1 hi).1; omega
  rw [List.getElem?_take_of_lt hlt] at hi
  have := h.cells i x hi
  rw [hv] at this; exact this
theorem Ex_sliceH {d : Option Nat} {T E : TypeId} {x i : Operand} {ty : TypeId} {pos : String} {af : Array Edge} {g : Option (Nat × Bool)} {v : Value} {K : IntKind} {h : Int} {ys : List α} {lo hi : Nat} (hs : SlR B k enc xs v w lo hi)
    (hT : ∀ w, (underlying T).run P w = .ok (.slice E) w) (hE : ∀ w, (sizeOf E).run P w = .ok k w) (hx : ev l x = some v) (hi' : ev l i = some (.int K h)) (h0 : 0 ≤ h) (h1 : h ≤ xs.length) (hys : xs.take h.toNat = ys) :
    ExH P { dst := d, op := .slice T x none (some i) none, type := ty, pos := pos, after := af, guard := g } l w (fun u w' => (frs ds (SlR B k enc ys)).R u w' w.heap.size w'.heap.size) := by
  obtain ⟨h2, h3, b, o, c, h4, h5⟩ := hs
  have hn : h.toNat ≤ xs.length := by omega
  refine Ex_run (v := .slice (some ⟨b, o, none⟩) h.toNat c) (w' := w) ?_ (Below.refl _ _) ⟨?_, ?_, b, o, c, ?_, ?_⟩
  · intro X a op hP ha hop _
    subst hP
    unfold execOp; rw [hop]
    simp only [Option.map_some, Option.map_none, ha.ev hx, ha.ev hi', h4]
    simp [Instr.sliceAt, Instr.slice, Instr.sliceBounds, Sem.run_bind, hT, hE, run_sliceBound _ _ _ _ _ h0 (show h ≤ (c : Int) by omega), Result.andThen, addr_add]
  · rw [← hys]; exact h2.take h4 hn h5
  · rw [h4] at h3; exact h3
  · rw [← hys]; simp; omega
  · rw [← hys]; simp; omega
end
/-! ### a variable is stored into itself -/
theorem setCell_same {w : World} {b o : Nat} {cs : List Value} {T : TypeId} {v : Value} (hB : Blk w b cs T) (hv : cs[o]? = some v) : w.setCell ⟨b, o, none⟩ v = w := by
  have h : w.heap.modify b (fun x => match x with | .cells c t r => .cells (c.setIfInBounds o v) t r | y => y) = w.heap := by
    apply Array.ext_getElem?
    intro i
    rw [Array.getElem?_modify]
    split
    · rename_i h; subst h
      rw [show w.heap[b]? = _ from hB]
      simp only [Option.map_some]
      congr 2
      apply Array.ext_getElem?
      intro j
      rw [Array.getElem?_setIfInBounds]
      split
      · rename_i h; subst h; simp [hv]; exact (List.getElem?_eq_some_iff.1 hv).1
      · rfl
    · rfl
  exact (congrArg (fun h => ({ w with heap := h } : World)) h).trans rfl
theorem run_storeSame {P : Program} {w : World} {b : Nat} {T : TypeId} {cs : List Value} (hB : Blk w b cs T) : ∀ (vs : List Value) (i : Nat), (∀ v ∈ vs, one1 v = true) → vs = cs.drop i → (storeCells ⟨b, 0, none⟩ vs i).run P w = .ok () w
  | [], i, _, _ => by simp [storeCells]
  | v :: vs, i, hone, he => by
    have hget : cs[i]? = some v := by
      have := congrArg (fun l => l[0]?) he; simp at this; exact this.symm
    have hv := hone v (by simp)
    have hst : (Go.store ⟨b, i, none⟩ v).run P w = .ok () w := by
      have hc : w.cell? ⟨b, i, none⟩ = some v := by rw [hB.cell]; exact hget
      have hs := setCell_same hB hget
      cases v <;> simp [one1] at hv <;> simp [Go.store, Sem.run, hc, hB.frozen, hs]
    unfold storeCells
    simp only [Sem.run_bind, addr_add, Nat.zero_add, hst, Result.andThen]
    refine run_storeSame hB vs (i + 1) (fun u hu => hone u (by simp [hu])) ?_
    have := congrArg List.tail he
    simpa using this
theorem QS_storeSame {X : Cx} {K : Act → Prop} {l : Frm} {w : World} {ops : Array Oper} {rest : List Oper} {T T' n : Nat} {x y : Operand} {ty : TypeId} {pos : String} {af : Array Edge} {b : Nat} {cs : List Value} {v : Value}
    (hB : Blk w b cs T') (hx : ev l x = some (.pointer (some ⟨b, 0, none⟩))) (hy : ev l y = some v) (hvs : v.cells = cs.toArray) (hone : cs.all one1 = true) (hn : ∀ w, (sizeOf T).run X.P w = .ok n w) (hl : cs.length = n)
    (k : QS X w ops K rest l) : QS X w ops K ({ dst := none, op := .store T x y, type := ty, pos := pos, after := af, guard := none } :: rest) l := fun a ha => by
  simp only [wpQuiet, Region.wanted, if_true]
  refine ⟨undef, fun w' hw' => ?_, k _ (ha.put_none undef)⟩
  have hrun : (execOp a.eval { dst := none, op := .store T x y, type := ty, pos := pos, after := af, guard := none }).run X.P w' = .ok .skip w' := by
    unfold execOp
    simp [ha.ev hx, ha.ev hy, Instr.storeAt, Instr.sureAddr, storeVar, hn, hvs, hl, Sem.run_bind, Result.andThen, run_storeSame (P := X.P) (hB.below hw') cs 0 (fun u hu => List.all_eq_true.1 hone u hu) (by simp)]
  unfold Oper.quietAt
  rw [hrun]
  exact ⟨rfl, rfl⟩
/-! ### maps -/
def mget {K V : Type} [DecidableEq K] (kv : List (K × V)) (k : K) : Option V := (kv.find? fun p => decide (k = p.1)).map Prod.snd
/-- the map r holds these entries -/
def Mp {K V : Type} (w : World) (r : Nat) (key : K → Value) (val : V → Value) (kv : List (K × V)) : Prop :=
  ∃ (es : Array MapEntry) (clock : Nat), w.heap[r]? = some (.map es clock) ∧ es.toList.map (fun e => (e.key, e.val)) = kv.map fun p => (key p.1, val p.2)
section
variable {K V : Type} [DecidableEq K] {w w' : World} {r : Nat} {key : K → Value} {val : V → Value} {kv : List (K × V)}
theorem Mp.lt (h : Mp w r key val kv) : r < w.heap.size := by obtain ⟨es, c, h, _⟩ := h; exact (Array.getElem?_eq_some_iff.1 h).1
theorem Mp.below (h : Mp w r key val kv) (hb : Below w.heap.size w w') : Mp w' r key val kv := by
  obtain ⟨es, c, h1, h2⟩ := h; exact ⟨es, c, (hb.block r (Array.getElem?_eq_some_iff.1 h1).1).trans h1, h2⟩
theorem Mp.chg {S : Nat → Prop} (h : Mp w r key val kv) (hc : Chg S w w') (hn : ¬ S r) : Mp w' r key val kv := by
  obtain ⟨es, c, h1, h2⟩ := h; exact ⟨es, c, chg_get hc h1 hn, h2⟩
theorem Mp.ne {b : Nat} {cs : List Value} {T : TypeId} (h : Mp w r key val kv) (hB : Blk w b cs T) : ¬ r = b := fun e => by
  subst e; obtain ⟨es, c, h1, _⟩ := h; rw [show w.heap[r]? = _ from hB] at h1; cases h1
variable {P : Program} {T kt et : TypeId}
/-- how two keys of the type are compared -/
def KeyEq (P : Program) (kt : TypeId) (key : K → Value) : Prop :=
  ∃ kind, (∀ w, (underlying kt).run P w = .ok kind w) ∧ (∀ b k w, (Instr.checkKey b 10000 kt (key k)).run P w = .ok () w) ∧
  ((∀ a b, Instr.sameNow kind (key a) (key b) = some (decide (a = b))) ∨ ((∀ a b, Instr.sameNow kind (key a) (key b) = none) ∧ ∀ a b w, (Op.equal kt (key a) (key b)).run P w = .ok (decide (a = b)) w))
def fnd (k : K) : List (K × V) → Nat → Option (Nat × V)
  | [], _ => none
  | p :: t, i => if k = p.1 then some (i, p.2) else fnd k t (i + 1)
theorem fnd_get (k : K) : ∀ (kv : List (K × V)) (i : Nat), (fnd k kv i).map Prod.snd = mget kv k
  | [], i => rfl
  | p :: t, i => by
    have := fnd_get k t (i + 1)
    unfold fnd mget
    by_cases h : k = p.1
    · simp [h]
    · simp only [h, if_false, List.find?_cons, decide_false]
      rw [this]; rfl
theorem run_findKey (hk' : KeyEq P kt key) (k : K) {es : List MapEntry} (he : es.map (fun e => (e.key, e.val)) = kv.map fun p => (key p.1, val p.2)) (w : World) :
    (Instr.findKey kt (key k) es).run P w = .ok ((fnd k kv 0).map fun p => (p.1, val p.2)) w := by
  obtain ⟨kind, hk⟩ := hk'
  have ask : ∀ (kv : List (K × V)) (es : List MapEntry) (i : Nat), (∀ a b w, (Op.equal kt (key a) (key b)).run P w = .ok (decide (a = b)) w) → es.map (fun e => (e.key, e.val)) = kv.map (fun p => (key p.1, val p.2)) →
      (Instr.findAsking kt (key k) es i).run P w = .ok ((fnd k kv i).map fun p => (p.1, val p.2)) w := by
    intro kv
    induction kv with
    | nil => intro es i _ he; cases es <;> simp at he; simp [Instr.findAsking, fnd]
    | cons p t ih =>
      intro es i hq he
      cases es with
      | nil => simp at he
      | cons e es =>
        simp only [List.map_cons, List.cons.injEq, Prod.mk.injEq] at he
        unfold Instr.findAsking fnd
        simp only [Sem.run_bind, he.1.1, hq, Result.andThen]
        by_cases h : k = p.1
        · simp [h, he.1.2]
        · simp only [h, decide_false, if_false]; exact ih es (i + 1) hq he.2
  have now : ∀ (kv : List (K × V)) (es : List MapEntry) (i : Nat), (∀ a b, Instr.sameNow kind (key a) (key b) = some (decide (a = b))) → es.map (fun e => (e.key, e.val)) = kv.map (fun p => (key p.1, val p.2)) →
      Instr.findNow kind (key k) es i = some ((fnd k kv i).map fun p => (p.1, val p.2)) := by
    intro kv
    induction kv with
    | nil => intro es i _ he; cases es <;> simp at he; simp [Instr.findNow, fnd]
    | cons p t ih =>
      intro es i hq he
      cases es with
      | nil => simp at he
      | cons e es =>
        simp only [List.map_cons, List.cons.injEq, Prod.mk.injEq] at he
        unfold Instr.findNow fnd
        rw [he.1.1, hq]
        by_cases h : k = p.1
        · simp [h, he.1.2]
        · simp only [h, decide_false, if_false]; exact ih es (i + 1) hq he.2
  unfold Instr.findKey
  simp only [Sem.run_bind, hk.1, Result.andThen]
  rcases hk.2.2 with h | ⟨h, hq⟩
  · rw [now kv es 0 h he]; rfl
  · cases es with
    | nil => cases kv <;> simp at he; simp [Instr.findNow, fnd]
    | cons e es =>
      have : Instr.findNow kind (key k) (e :: es) 0 = none := by
        cases kv with
        | nil => simp at he
        | cons p t => simp only [List.map_cons, List.cons.injEq, Prod.mk.injEq] at he; unfold Instr.findNow; rw [he.1.1, h]
      rw [this]; exact ask kv _ 0 hq he
theorem KeyEq.check (hk : KeyEq P kt key) : ∀ b k w, (Instr.checkKey b 10000 kt (key k)).run P w = .ok () w := by obtain ⟨_, h⟩ := hk; exact h.2.1
theorem run_lookup (hk : KeyEq P kt key) (hT : ∀ w, (underlying T).run P w = .ok (.map kt et) w) (hM : Mp w r key val kv) (k : K) {z : Value} (hz : ∀ w, (zeroValue et).run P w = .ok z w) (ok : Bool) :
    (Instr.lookup T (.map (some r)) (key k) ok).run P w = .ok (if ok then .tuple #[((mget kv k).map val).getD z, .bool (mget kv k).isSome] else ((mget kv k).map val).getD z) w := by
  obtain ⟨es, c, h1, h2⟩ := hM
  have hf := run_findKey (P := P) hk k h2 w
  have hg : (getObj r).run P w = .ok (.map es c) w := by simp [getObj, Sem.run, h1]
  unfold Instr.lookup
  simp only [Sem.run_bind, hT, Result.andThen, hg, Sem.run_pure, hk.check, hf]
  rw [← fnd_get k kv 0]
  cases hq : fnd k kv 0 with
  | none => simp [hz, Sem.run_bind, Result.andThen]
  | some p => simp [Sem.run_bind, Result.andThen]
variable {l : Frm} {ty : TypeId}
theorem Rq_lookup (hk : KeyEq P kt key) (hT : ∀ w, (underlying T).run P w = .ok (.map kt et) w) (hM : Mp w r key val kv) (k : K) {z : Value} (hz : ∀ w, (zeroValue et).run P w = .ok z w) (ok : Bool) {x i : Operand}
    (hx : ev l x = some (.map (some r))) (hi : ev l i = some (key k)) : Rq P (.lookup T x i ok) ty l w (if ok then .tuple #[((mget kv k).map val).getD z, .bool (mget kv k).isSome] else ((mget kv k).map val).getD z) := fun w' hb X a o _ ha ho _ => by
  unfold execOp; rw [ho]
  simp [ha.ev hx, ha.ev hi, run_lookup hk hT (hM.below hb) k hz ok, Sem.run_bind, Result.andThen]
theorem SG_mapUpdate {X : Cx} {Q : Exit → Act → World → Prop} {ops : Array Oper} {rest : List Oper} {pos : String} {af : Array Edge} (hk : KeyEq X.P kt key) (hT : ∀ w, (underlying T).run X.P w = .ok (.map kt et) w) (hM : Mp w r key val kv) (k : K) (u : V) {x i v : Operand}
    (hx : ev l x = some (.map (some r))) (hi : ev l i = some (key k)) (hv : ev l v = some (val u)) (hn : mget kv k = none)
    (kk : ∀ w', Chg (· = r) w w' → w'.heap.size = w.heap.size → Mp w' r key val (kv ++ [(k, u)]) → SG X ops Q rest l w') :
    SG X ops Q ({ dst := none, op := .mapUpdate T x i v, type := ty, pos := pos, after := af, guard := none } :: rest) l w := by
  obtain ⟨es, c, h1, h2⟩ := hM
  have hf := run_findKey (P := X.P) hk k h2 w
  have hn' : fnd k kv 0 = none := by have := fnd_get k kv 0; rw [hn] at this; simpa using this
  have hg : (getObj r).run X.P w = .ok (.map es c) w := by simp [getObj, Sem.run, h1]
  refine SG_st (w' := w.putObj r (.map (es.push { key := key k, val := val u, born := c }) (c + 1))) ?_ (kk _ chg_putObj (by simp [World.putObj]) ⟨_, _, putObj_same h1, by simp [h2]⟩)
  intro X' a o hP ha ho _
  unfold execOp; rw [ho]
  have hs : (setObj r (.map (es.push { key := key k, val := val u, born := c }) (c + 1))).run X.P w = .ok () (w.putObj r (.map (es.push { key := key k, val := val u, born := c }) (c + 1))) := by simp [setObj, Sem.run, World.putObj, h1]
  simp [ha.ev hx, ha.ev hi, ha.ev hv, Instr.mapUpdate, hT, hg, hk.check, hf, hn', hs, Sem.run_bind, Result.andThen]
end
section
variable {P : Program} {l : Frm} {w : World} {ty : TypeId}
theorem Rq_eqlS {T U : TypeId} {x y : Operand} {a b : Array Value} {r : Bool} (hE : ∀ w, (Op.equal T (.agg a) (.agg b)).run P w = .ok r w) (hG : P.eqGuardType P.depth T = false) (hx : ev l x = some (.agg a)) (hy : ev l y = some (.agg b)) : Rq P (.binOp .eql T x y U) ty l w (.bool r) :=
  Rq_bin hx hy fun w' _ => by
    have h1 : ∀ x y, (eqGuard .eql T x y (.agg a) (.agg b)).run P w' = .ok () w' := fun x y => by unfold eqGuard; simp [Sem.run_bind, hG, Result.andThen]
    have h3 : binOp .eql T (.agg a) (.agg b) = (do pure (.bool (← Op.equal T (.agg a) (.agg b))) : Sem Value) := rfl
    rw [h3]; simp only [Sem.run_bind, h1, hE, Result.andThen, Sem.run_pure]
theorem Rq_neqS {T U : TypeId} {x y : Operand} {a b : Array Value} {r : Bool} (hE : ∀ w, (Op.equal T (.agg a) (.agg b)).run P w = .ok r w) (hG : P.eqGuardType P.depth T = false) (hx : ev l x = some (.agg a)) (hy : ev l y = some (.agg b)) : Rq P (.binOp .neq T x y U) ty l w (.bool (!r)) :=
  Rq_bin hx hy fun w' _ => by
    have h1 : ∀ x y, (eqGuard .neq T x y (.agg a) (.agg b)).run P w' = .ok () w' := fun x y => by unfold eqGuard; simp [Sem.run_bind, hG, Result.andThen]
    have h3 : binOp .neq T (.agg a) (.agg b) = (do pure (.bool (!(← Op.equal T (.agg a) (.agg b)))) : Sem Value) := rfl
    rw [h3]; simp only [Sem.run_bind, h1, hE, Result.andThen, Sem.run_pure]
theorem Rq_aindex {T E : TypeId} {x i : Operand} {n : Nat} {cs : List Value} {K : IntKind} {j : Int} {v : Value} (hT : ∀ w, (underlying T).run P w = .ok (.array n E) w) (hE : ∀ w, (sizeOf E).run P w = .ok 1 w) (hA : ∀ w, (isAgg E).run P w = .ok false w)
    (hx : ev l x = some (.agg cs.toArray)) (hi : ev l i = some (.int K j)) (h0 : 0 ≤ j) (h1 : j < n) (hv : cs[j.toNat]? = some v) : Rq P (.index T x i) ty l w v := fun w' _ X a o _ ha ho _ => by
  unfold execOp; rw [ho]
  simp [ha.ev hx, ha.ev hi, Instr.index, asIntOf, hT, hE, part, hA, h0, h1, hv, Sem.run_bind, Result.andThen]
end
theorem Rq_build3G {P : Program} {l : Frm} {w : World} {ty T i j m : Nat} {x y z : Operand} {v u t r : Value} (hb : ∀ w, (Instr.build T #[(i, v), (j, u), (m, t)]).run P w = .ok r w) (hx : ev l x = some v) (hy : ev l y = some u) (hz : ev l z = some t) :
    Rq P (.build T #[(i, x), (j, y), (m, z)]) ty l w r := fun w' _ X a o _ ha hop _ => by
  unfold execOp; rw [hop]; simp [ha.ev hx, ha.ev hy, ha.ev hz, hb w', Sem.run_bind, Result.andThen]
section
variable {K : Type} [DecidableEq K] {w : World} {r : Nat} {key : K → Value} {kv : List (K × Int)} {P : Program} {T kt et : TypeId} {l : Frm} {ty : TypeId}
theorem getI {o : Option Int} : (o.map valI).getD (.int .i64 0) = .int .i64 (o.getD 0) := by cases o <;> rfl
theorem Rq_lookupI (hk : KeyEq P kt key) (hT : ∀ w, (underlying T).run P w = .ok (.map kt et) w) (hM : Mp w r key valI kv) (k : K) (hz : ∀ w, (zeroValue et).run P w = .ok (.int .i64 0) w) {x i : Operand}
    (hx : ev l x = some (.map (some r))) (hi : ev l i = some (key k)) : Rq P (.lookup T x i false) ty l w (.int .i64 ((mget kv k).getD 0)) := by
  have := Rq_lookup (ty := ty) hk hT hM k hz false hx hi
  simpa [getI] using this
theorem Rq_lookupI2 (hk : KeyEq P kt key) (hT : ∀ w, (underlying T).run P w = .ok (.map kt et) w) (hM : Mp w r key valI kv) (k : K) (hz : ∀ w, (zeroValue et).run P w = .ok (.int .i64 0) w) {x i : Operand}
    (hx : ev l x = some (.map (some r))) (hi : ev l i = some (key k)) : Rq P (.lookup T x i true) ty l w (.tuple [.int .i64 ((mget kv k).getD 0), .bool (mget kv k).isSome].toArray) := by
  have := Rq_lookup (ty := ty) hk hT hM k hz true hx hi
  simpa [getI] using this
end
theorem Rq_buildG {P : Program} {l : Frm} {w : World} {ty T : Nat} {parts : List (Nat × Operand)} {vs : List (Nat × Value)} {r : Value} (hb : ∀ w, (Instr.build T vs.toArray).run P w = .ok r w) (hx : parts.map (fun p => (p.1, ev l p.2)) = vs.map fun p => (p.1, some p.2)) :
    Rq P (.build T parts.toArray) ty l w r := fun w' _ X a o _ ha hop _ => by
  unfold execOp; rw [hop]
  have e : parts.toArray.map (fun p => (p.1, a.eval p.2)) = vs.toArray := by
    rw [List.map_toArray]
    congr 1
    clear hb hop
    revert vs
    induction parts with
    | nil => intro vs hx; cases vs <;> simp at hx; rfl
    | cons p ps ih =>
      intro vs hx
      cases vs with
      | nil => simp at hx
      | cons u us =>
        simp only [List.map_cons, List.cons.injEq, Prod.mk.injEq] at hx ⊢
        refine ⟨Prod.ext hx.1.1 (ha.ev hx.1.2), ih hx.2⟩
  simp only [e, Sem.run_bind, hb w', Result.andThen]
  rfl
def isNilS : Value → Bool
  | .slice none _ _ => true
  | _ => false
theorem Rq_eql_slnil {P : Program} {l : Frm} {w : World} {ty T U E : TypeId} {x : Operand} {a : Option Addr} {n c : Nat} (hT : ∀ w, (underlying T).run P w = .ok (.slice E) w) (hx : ev l x = some (.slice a n c)) : Rq P (.binOp .eql T x (.const (.slice none 0 0)) U) ty l w (.bool (isNilS (.slice a n c))) :=
  Rq_bin hx rfl fun w' _ => by
    have h2' : ∀ d, (Op.equalIn (d + 1) T (.slice a n c) (.slice none 0 0)).run P w' = .ok (isNilS (.slice a n c)) w' := fun d => by cases a <;> simp [Op.equalIn, hT, Sem.run_bind, Result.andThen, isNilS]
    have h3 : binOp .eql T (.slice a n c) (.slice none 0 0) = (do pure (.bool (← Op.equalIn (9999 + 1) T (.slice a n c) (.slice none 0 0))) : Sem Value) := rfl
    have h1 : (eqGuard .eql T x (.const (.slice none 0 0)) (.slice a n c) (.slice none 0 0)).run P w' = .ok () w' := by unfold eqGuard; simp
    rw [h3]; simp only [Sem.run_bind, h1, h2' 9999, Result.andThen, Sem.run_pure]
theorem SL.nilS {α : Type} {w : World} {v : Value} {k : Nat} {enc : α → List Value} {xs : List α} (h : SL w v k enc xs) (hn : isNilS v = true) : v = .slice none 0 0 ∧ xs = [] := by
  rcases h.shape with h | ⟨h, _⟩
  · exact h
  · rw [h] at hn; simp [isNilS] at hn
end Go.Mi
