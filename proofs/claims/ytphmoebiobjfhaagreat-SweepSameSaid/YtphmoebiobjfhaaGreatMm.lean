/- Slices of the call's own: appended to, made, stored into; each as one rule. Over any program. -/
import Derived.Test.YtphmoebiobjfhaaGreatMi
set_option linter.all false
namespace Go.Mi
open Go Go.RowKit
theorem one1_eq (v : Value) : one1 v = v.oneCell' := by cases v <;> rfl
theorem flat_len {α : Type} {enc : α → List Value} {k : Nat} (hk : ∀ x, (enc x).length = k) (xs : List α) : (xs.flatMap enc).length = xs.length * k := by
  induction xs with
  | nil => simp
  | cons x xs ih => simp only [List.flatMap_cons, List.length_append, ih, hk, List.length_cons, Nat.add_mul]; omega
theorem flat_get {α : Type} {enc : α → List Value} {k : Nat} (hk : ∀ x, (enc x).length = k) : ∀ (xs : List α) (i j : Nat) (x : α), xs[i]? = some x → j < k → (xs.flatMap enc)[i * k + j]? = (enc x)[j]?
  | [], i, j, x, h, _ => by simp at h
  | y :: ys, 0, j, x, h, hj => by
    simp at h; subst h
    simp only [Nat.zero_mul, Nat.zero_add, List.flatMap_cons]
    rw [List.getElem?_append_left (by rw [hk]; exact hj)]
  | y :: ys, i + 1, j, x, h, hj => by
    have := flat_get hk ys i j x (by simpa using h) hj
    simp only [List.flatMap_cons]
    rw [List.getElem?_append_right (by rw [hk, Nat.add_mul]; omega), hk, ← this]
    congr 1; rw [Nat.add_mul]; omega
/-- v is a slice of the call's own (its block lies from lo on) that reads as xs -/
structure OS {α : Type} (w : World) (v : Value) (E k : Nat) (enc : α → List Value) (xs : List α) (lo : Nat) : Prop where
  own : w.ownsRow lo E k v xs.length (xs.flatMap enc)
  len : ∀ x, (enc x).length = k
  pos : 0 < k
section
variable {α : Type} {w w' : World} {v : Value} {E k lo : Nat} {enc : α → List Value} {xs : List α}
theorem OS.nil (hl : ∀ x, (enc x).length = k) (hp : 0 < k) : OS w (.slice none 0 0) E k enc ([] : List α) lo := ⟨by simpa using World.ownsRow_nil w lo E k, hl, hp⟩
theorem OS.sl (h : OS w v E k enc xs lo) : SL w v k enc xs := by
  obtain ⟨hlen, hcase⟩ := h.own
  refine ⟨?_, ?_, fun x => by rw [h.len]; exact h.pos⟩
  · rcases hcase with ⟨e, hn⟩ | ⟨g, cap, cur, e, _, _, hc, _⟩
    · exact .inl ⟨e, List.eq_nil_of_length_eq_zero hn⟩
    · exact .inr ⟨by rw [e]; rfl, by rw [e]; exact hc⟩
  · intro i x hx j hj
    rw [h.len] at hj
    have hi := (List.getElem?_eq_some_iff.1 hx).1
    rcases hcase with ⟨e, hn⟩ | ⟨g, cap, cur, e, _, hg, hc, _, hsz, htk⟩
    · omega
    · have h1 := flat_get h.len xs i j x hx hj
      have hlt : i * k + j < xs.length * k := by
        have : (i + 1) * k ≤ xs.length * k := Nat.mul_le_mul_right k hi
        rw [Nat.add_mul] at this; omega
      rw [e]
      simp only [sb, so, Nat.zero_add]
      rw [← h1, ← htk, List.getElem?_take, if_pos hlt]
      unfold World.cell?; rw [hg]; simp
theorem OS.lt (h : OS w v E k enc xs lo) {b : Nat} (hb : v.ownBlock = some b) : lo ≤ b ∧ b < w.heap.size := h.own.lt b hb
theorem OS.chg {S : Nat → Prop} (h : OS w v E k enc xs lo) (hc : Chg S w w') (hn : ∀ b, v.ownBlock = some b → ¬ S b) : OS w' v E k enc xs lo := by
  refine ⟨⟨h.own.1, ?_⟩, h.len, h.pos⟩
  rcases h.own.2 with hl | ⟨g, cap, cur, e, hlo, hg, r⟩
  · exact .inl hl
  · exact .inr ⟨g, cap, cur, e, hlo, (hc.block g (Array.getElem?_eq_some_iff.1 hg).1 (hn g (by rw [e]; rfl))).trans hg, r⟩
theorem OS.below (h : OS w v E k enc xs lo) (hb : Below w.heap.size w w') : OS w' v E k enc xs lo := h.chg (Chg.of_below (fun _ => False) hb) (fun _ _ h => h)
theorem OS.le {lo' : Nat} (h : OS w v E k enc xs lo) (hl : lo' ≤ lo) : OS w v E k enc xs lo' := by
  refine ⟨⟨h.own.1, ?_⟩, h.len, h.pos⟩
  rcases h.own.2 with hl' | ⟨g, cap, cur, e, hlo, r⟩
  · exact .inl hl'
  · exact .inr ⟨g, cap, cur, e, Nat.le_trans hl hlo, r⟩
theorem grown_chg {row : Option Nat} (h : w.grownBy w' row) : Chg (fun b => row = some b) w w' := ⟨h.os, h.tape, h.output, h.size, fun k hk hn => h.block k hk (fun e => hn e.symm)⟩
/-- in what block a slice lies behind an append: in the one it lay in, or in a new one -/
def SameOrNew (w : World) (v v' : Value) : Prop := ∀ b, v'.ownBlock = some b → v.ownBlock = some b ∨ w.heap.size ≤ b
variable {P : Program}
theorem run_app {t ty e size bytes : Nat} {z : Value} {lo : Nat} {u : Value} {ys : List α} (ht : P.underlying t = some (.slice e)) (hi : (P.info? e).map (fun i => (i.zero, i.size, i.bytes)) = some (some z, size, bytes)) (hz : z.cells.size = size)
    (h : OS w v e size enc xs lo) (hu : SL w u size enc ys) (hone : ∀ y ∈ ys, (enc y).all one1 = true) (hmax : xs.length + ys.length ≤ 9223372036854775807) (hb : (xs.length + ys.length) * bytes ≤ 140737488355328) (hlo : lo ≤ w.heap.size) :
    ∃ v' w', (Builtin.append_ #[t, t] ty #[v, u]).run P w = .ok v' w' ∧ OS w' v' e size enc (xs ++ ys) lo ∧ Chg (fun b => v.ownBlock = some b) w w' ∧ SameOrNew w v v' := by
  obtain ⟨i, hi0, hiz, his, hib⟩ : ∃ i, P.info? e = some i ∧ i.zero = some z ∧ i.size = size ∧ i.bytes = bytes := by
    cases hx : P.info? e with
    | none => rw [hx] at hi; cases hi
    | some i => rw [hx] at hi; simp only [Option.map_some, Option.some.injEq, Prod.mk.injEq] at hi; exact ⟨i, rfl, hi.1, hi.2.1, hi.2.2⟩
  have hmx : xs.length + ys.length ≤ maxLen := by unfold maxLen; omega
  rcases hu.shape with ⟨e1, e2⟩ | ⟨e1, hcap⟩
  · subst e2
    have hrun : (Builtin.append_ #[t, t] ty #[v, u]).run P w = .ok v w := by
      rw [e1]
      rcases h.own.2 with ⟨q, hn⟩ | ⟨g, cap, cur, q, _, hg, hc, _⟩
      · rw [q]; simp [Builtin.append_, run_underlying ht, sizeOf, typeInfo, hi0, Builtin.lenOf, Builtin.firstCells]
      · rw [q]; simp [Builtin.append_, run_underlying ht, sizeOf, typeInfo, hi0, Builtin.lenOf, Builtin.firstCells, hc, storeCells]
    exact ⟨v, w, hrun, by simpa using h, Chg.refl _ _, fun b hb' => .inl hb'⟩
  · have hnews : ∀ j u', (ys.flatMap enc)[j]? = some u' → w.cell? ((⟨sb u, so u, none⟩ : Addr).add j) = some u' := fun j u' hj => by
      have hjl := (List.getElem?_eq_some_iff.1 hj).1
      rw [flat_len h.len] at hjl
      have hdiv : j / size < ys.length := Nat.div_lt_of_lt_mul (by rw [Nat.mul_comm]; exact hjl)
      have hm : j % size < size := Nat.mod_lt _ h.pos
      have hd : j / size * size + j % size = j := by have := Nat.div_add_mod j size; rw [Nat.mul_comm]; exact this
      have hg := flat_get h.len ys (j / size) (j % size) _ (List.getElem?_eq_getElem hdiv) hm
      rw [hd, hj] at hg
      have hcell := hu.cells (j / size) _ (List.getElem?_eq_getElem hdiv) (j % size) (by rw [h.len]; exact hm)
      rw [addr_add, ← hd, ← Nat.add_assoc, hcell, ← hg]
    have h1 : ∀ c ∈ ys.flatMap enc, c.oneCell' = true := fun c hc => by
      obtain ⟨y, hy, hcy⟩ := List.mem_flatMap.1 hc
      rw [← one1_eq]
      exact List.all_eq_true.1 (hone y hy) c hcy
    obtain ⟨v', w', hrun, hown, hgr, _⟩ := run_append_own (P := P) w lo t ty e i z size bytes ht hi0 hiz his hib hz h.pos v xs.length (xs.flatMap enc) h.own ⟨sb u, so u, none⟩ ys.length (scap u) (ys.flatMap enc) (flat_len h.len ys) hnews h1 hmx hb hlo
    rw [← e1] at hrun
    refine ⟨v', w', hrun, ⟨by rw [List.length_append, List.flatMap_append]; exact hown, h.len, h.pos⟩, grown_chg hgr, ?_⟩
    -- where it lies
    subst his
    rcases h.own.2 with ⟨q, hn⟩ | ⟨g, cap, cur, q, _, hg, hc, _, hsz, htk⟩
    · have hx0 : xs = [] := List.eq_nil_of_length_eq_zero hn
      subst hx0
      by_cases hm : ys.length = 0
      · have hy0 : ys = [] := List.eq_nil_of_length_eq_zero hm
        subst hy0
        have hr2 : (Builtin.append_ #[t, t] ty #[v, u]).run P w = .ok v w := by
          rw [q, e1]; simp [Builtin.append_, run_underlying ht, sizeOf, typeInfo, hi0, Builtin.lenOf, Builtin.firstCells, loadCells, loadCellsFrom]
        rw [hr2] at hrun; cases hrun
        exact fun b hb' => .inl hb'
      · have hr2 := run_append_nil (P := P) w t ty e i z ht hi0 hiz ⟨sb u, so u, none⟩ ys.length (scap u) (ys.flatMap enc) (flat_len h.len ys) hnews (by omega) (by simp only [List.length_nil] at hmax; omega) (by rw [hib]; simpa using Nat.le_trans hb (by omega))
        rw [q, e1] at hrun
        rw [hr2] at hrun; cases hrun
        exact fun b hb' => .inr (by simp [Value.ownBlock] at hb'; omega)
    · by_cases hroom : xs.length + ys.length ≤ cap
      · have hr2 := run_append_room (P := P) w t ty e i ht hi0 g xs.length cap cur hg ⟨sb u, so u, none⟩ ys.length (scap u) (ys.flatMap enc) (flat_len h.len ys) hnews h1 hroom (by rw [flat_len h.len, hsz, ← Nat.add_mul]; exact Nat.mul_le_mul_right _ hroom)
        rw [q, e1] at hrun
        rw [hr2] at hrun; cases hrun
        exact fun b hb' => .inl (by rw [q]; simpa [Value.ownBlock] using hb')
      · have holds : ∀ j u, (xs.flatMap enc)[j]? = some u → w.cell? ((⟨g, 0, none⟩ : Addr).add j) = some u := h.own.cells (g := g) (by rw [q]; rfl)
        have hr2 := run_append_grow (P := P) w t ty e i z ht hi0 hiz ⟨g, 0, none⟩ xs.length cap (xs.flatMap enc) h.own.1 holds ⟨sb u, so u, none⟩ ys.length (scap u) (ys.flatMap enc) (flat_len h.len ys) hnews (by omega) (by omega) (growslice_fits (by omega) (by rw [hib]; exact hb))
        rw [q, e1] at hrun
        rw [hr2] at hrun; cases hrun
        exact fun b hb' => .inr (by simp [Value.ownBlock] at hb'; omega)
end
section
variable {α : Type} {X : Cx} {Q : Exit → Act → World → Prop} {l : Frm} {w w' : World} {ops : Array Oper} {rest : List Oper} {v u : Value} {k lo : Nat} {enc : α → List Value} {xs ys : List α}
theorem run_appOp {P : Program} {a : Act} {o : Oper} {t : TypeId} {s x : Operand} {v u v' : Value} {w w' : World} {X : Cx} (ha : Ok X l a) (ho : o.op = .call { callee := .builtin .append, args := #[s, x], argTypes := #[t, t] }) (hs : ev l s = some v) (hx : ev l x = some u)
    (h : (Builtin.append_ #[t, t] o.type #[v, u]).run P w = .ok v' w') : (execOp a.eval o).run P w = .ok (.value v') w' := by
  unfold execOp; rw [ho]
  simp [resolve, invoke, builtin, ha.ev hs, ha.ev hx, Sem.run_bind, Result.andThen, h]
theorem SG_append {d : Nat} {s x : Operand} {t e size bytes : Nat} {z : Value} {ty : TypeId} {pos : String} {af : Array Edge} (h : OS w v e size enc xs lo) (hu : SL w u size enc ys) (ht : X.P.underlying t = some (.slice e))
    (hi : (X.P.info? e).map (fun i => (i.zero, i.size, i.bytes)) = some (some z, size, bytes)) (hz : z.cells.size = size) (hs : ev l s = some v) (hx : ev l x = some u) (hone : ∀ y ∈ ys, (enc y).all one1 = true)
    (hmax : xs.length + ys.length ≤ 9223372036854775807) (hb : (xs.length + ys.length) * bytes ≤ 140737488355328) (hlo : lo ≤ w.heap.size) (hd : Nat.blt d X.N = true)
    (kk : ∀ v' w', OS w' v' e size enc (xs ++ ys) lo → Chg (fun b => v.ownBlock = some b) w w' → SameOrNew w v v' → SG X ops Q rest ((d, v') :: l) w') :
    SG X ops Q ({ dst := some d, op := .call { callee := .builtin .append, args := #[s, x], argTypes := #[t, t] }, type := ty, pos := pos, after := af, guard := none } :: rest) l w := by
  obtain ⟨v', w', hr, h1, h2, h3⟩ := run_app (P := X.P) (ty := ty) ht hi hz h hu hone hmax hb hlo
  refine SG_val (v := v') (w' := w') ?_ hd (kk v' w' h1 h2 h3)
  intro X' a o hP ha ho hty
  refine run_appOp ha ho hs hx ?_
  rw [hty]; exact hr
/-! ### literals of slices -/
theorem fill_block : ∀ (cs : List Value) (A : Array Value) (off j0 : Nat), off + j0 + cs.length ≤ A.size →
    ((cs.zipIdx j0).foldl (fun a (p : Value × Nat) => a.setIfInBounds (off + p.2) p.1) A).toList = A.toList.take (off + j0) ++ cs ++ A.toList.drop (off + j0 + cs.length)
  | [], A, off, j0, _ => by simp
  | c :: cs, A, off, j0, h => by
    simp only [List.length_cons] at h
    simp only [List.zipIdx_cons, List.foldl_cons]
    rw [fill_block cs _ off (j0 + 1) (by simp; omega)]
    simp only [Array.toList_setIfInBounds]
    have hlt : off + j0 < A.toList.length := by simp; omega
    apply List.ext_getElem?
    intro i
    simp only [List.getElem?_append, List.getElem?_take, List.getElem?_drop, List.length_append, List.length_take, List.length_set, List.length_cons, Array.length_toList]
    have e1 : min (off + (j0 + 1)) A.size = off + j0 + 1 := by omega
    have e2 : min (off + j0) A.size = off + j0 := by omega
    rw [e1, e2]
    rcases Nat.lt_trichotomy i (off + j0) with hi | hi | hi
    · rw [if_pos (by omega), if_pos (by omega), if_pos (by omega), if_pos (by omega), if_pos (by omega), if_pos (by omega), List.getElem?_set_ne (by omega)]
    · subst hi
      rw [if_pos (by omega), if_pos (by omega), if_pos (by omega), if_pos (by omega), if_neg (by omega), List.getElem?_set_self hlt]
      simp
    · by_cases hi2 : i < off + j0 + 1 + cs.length
      · rw [if_pos (by omega), if_neg (by omega), if_pos (by omega), if_neg (by omega)]
        have : i - (off + j0) = (i - (off + j0 + 1)) + 1 := by omega
        rw [this]; simp
      · rw [if_neg (by omega), if_neg (by omega)]
        rw [List.getElem?_set_ne (by omega)]
        congr 1; omega
theorem run_fill {k : Nat} : ∀ (vs : List Value) (i : Nat) (A : Array Value), (∀ v ∈ vs, v.cells.size = k) → (i + vs.length) * k ≤ A.size →
    ∃ B : Array Value, Instr.fill (fun j => some (j * k, k)) A ((vs.zipIdx i).map fun p => (p.2, p.1)) = some B ∧ B.toList = A.toList.take (i * k) ++ vs.flatMap (fun v => v.cells.toList) ++ A.toList.drop ((i + vs.length) * k)
  | [], i, A, _, _ => ⟨A, by simp [Instr.fill], by simp⟩
  | v :: vs, i, A, hk, h => by
    have hv := hk v (by simp)
    simp only [List.length_cons] at h
    have hik : i * k + k ≤ A.size := by
      have : (i + 1) * k ≤ (i + (vs.length + 1)) * k := Nat.mul_le_mul_right _ (by omega)
      rw [Nat.add_mul] at this; omega
    have hb := fill_block v.cells.toList A (i * k) 0 (by simp [hv]; omega)
    simp only [Nat.add_zero, Array.length_toList, hv] at hb
    let A' : Array Value := (v.cells.toList.zipIdx 0).foldl (fun a (p : Value × Nat) => a.setIfInBounds (i * k + p.2) p.1) A
    have hA' : A'.toList = A.toList.take (i * k) ++ v.cells.toList ++ A.toList.drop (i * k + k) := hb
    have hsz : A'.size = A.size := by
      have := congrArg List.length hA'
      simp only [Array.length_toList, List.length_append, List.length_take, List.length_drop, hv] at this
      omega
    obtain ⟨B, hB, hBl⟩ := run_fill vs (i + 1) A' (fun u hu => hk u (by simp [hu])) (by rw [hsz, show i + 1 + vs.length = i + (vs.length + 1) by omega]; exact h)
    refine ⟨B, ?_, ?_⟩
    · simp only [List.zipIdx_cons, List.map_cons, Instr.fill, hv]
      have c1 : (k ≠ k || decide (i * k + k > A.size)) = false := by simp; omega
      simp only [ne_eq, not_true_eq_false, decide_false, Bool.false_or, decide_eq_true_eq, show ¬ (i * k + k > A.size) by omega, if_false]
      rw [← hB]
      have e0 : Array.foldl (fun cs (x : Value × Nat) => cs.setIfInBounds (i * k + x.snd) x.fst) A v.cells.zipIdx = A' := by
        rw [← Array.foldl_toList]; simp only [A', Array.toList_zipIdx]
      simp only [Bool.false_eq_true, if_false]
      rw [e0]
    · rw [hBl, hA']
      have e1 : (i + 1) * k = i * k + k := by rw [Nat.add_mul]; omega
      have e2 : (i + 1 + vs.length) * k = (i + (vs.length + 1)) * k := by congr 1; omega
      have e3 : (i + (vs.length + 1)) * k = i * k + k + vs.length * k := by rw [Nat.add_mul, Nat.add_mul]; omega
      have l1 : (A.toList.take (i * k) ++ v.cells.toList).length = i * k + k := by simp [hv]; omega
      rw [e1, List.take_append_of_le_length (by omega), List.take_of_length_le (by omega)]
      simp only [List.flatMap_cons, List.append_assoc, List.length_cons]
      rw [e2, e3]
      rw [show List.drop (i * k + k + vs.length * k) (List.take (i * k) A.toList ++ (v.cells.toList ++ List.drop (i * k + k) A.toList)) = List.drop (i * k + k + vs.length * k) A.toList from ?_]
      rw [← List.append_assoc, List.drop_append, l1]
      rw [List.drop_of_length_le (by rw [l1]; omega), List.nil_append, List.drop_drop]
      congr 1; omega
theorem run_bslice {P : Program} {t e k n : Nat} {z : Value} {vs : List Value} (ht : ∀ w, (underlying t).run P w = .ok (.slice e) w) (hk : ∀ w, (sizeOf e).run P w = .ok k w) (hz : ∀ w, (zeroValue e).run P w = .ok z w)
    (hn : vs.length = n) (hcs : ∀ v ∈ vs, v.cells.size = k) (hle : n * k ≤ 16777216) (w : World) :
    (Instr.buildSlice t n (vs.zipIdx.map fun p => (p.2, p.1)).toArray).run P w = .ok (.slice (some ⟨w.heap.size, 0, none⟩) n n) (w.alloc (.cells (vs.flatMap (fun v => v.cells.toList)).toArray e)) := by
  unfold Instr.buildSlice
  have h24 : ¬ (n * k > 2 ^ 24) := by have : (2 : Nat) ^ 24 = 16777216 := by decide
                                      omega
  have key : ∀ (zc : Array Value), ∃ B : Array Value, Instr.fill (fun j => some (j * k, k)) ((Array.range (n * k)).map (zc[· % zc.size]!)) (vs.zipIdx.map fun p => (p.2, p.1)) = some B ∧ B = (vs.flatMap (fun v => v.cells.toList)).toArray := fun zc => by
    obtain ⟨B, h1, h2⟩ := run_fill (k := k) vs 0 ((Array.range (n * k)).map (zc[· % zc.size]!)) hcs (by simp [hn])
    refine ⟨B, h1, ?_⟩
    apply Array.toList_inj.1
    rw [h2]
    simp [hn]
  have hno : ¬ (0 > 2 ^ 24) := by omega
  by_cases h0 : n * k = 0
  · obtain ⟨B, h1, h2⟩ := key #[]
    rw [h0] at h1
    simp only [Sem.run_bind, ht, hk, Result.andThen, h0, hno, if_false, if_true, Sem.run_pure, h1]
    simp only [newRow, newObj, Sem.run_bind, Sem.run, Result.andThen, h2, Sem.run_pure]
    rfl
  · obtain ⟨B, h1, h2⟩ := key z.cells
    simp only [Sem.run_bind, ht, hk, hz, Result.andThen, h24, h0, if_false, Sem.run_pure, h1]
    simp only [newRow, newObj, Sem.run_bind, Sem.run, Result.andThen, h2, Sem.run_pure]
    rfl
/-- these values are these elements -/
inductive MV {α : Type} (val : α → Value) : List Value → List α → Prop
  | nil : MV val [] []
  | cons {x : α} {vs : List Value} {xs : List α} (h : MV val vs xs) : MV val (val x :: vs) (x :: xs)
theorem MV.flat {val : α → Value} (hval : ∀ x, (val x).cells = (enc x).toArray) {vs : List Value} {xs : List α} (h : MV val vs xs) : vs.flatMap (fun v => v.cells.toList) = xs.flatMap enc := by
  induction h with
  | nil => rfl
  | cons h ih => simp [ih, hval]
theorem MV.length {val : α → Value} {vs : List Value} {xs : List α} (h : MV val vs xs) : vs.length = xs.length := by
  induction h with
  | nil => rfl
  | cons h ih => simp [ih]
theorem MV.size {val : α → Value} (hval : ∀ x, (val x).cells = (enc x).toArray) (hl : ∀ x, (enc x).length = k) {vs : List Value} {xs : List α} (h : MV val vs xs) : ∀ v ∈ vs, v.cells.size = k := by
  induction h with
  | nil => simp
  | cons h ih => intro v hv; simp at hv; rcases hv with rfl | hv; · rw [hval]; simp [hl]
                 · exact ih v hv
theorem OS.made {w : World} {e n : Nat} {cs : List Value} (hl : ∀ x, (enc x).length = k) (hp : 0 < k) (hcs : cs = xs.flatMap enc) (hn : n = xs.length) (hm : n ≤ 9223372036854775807) : OS (w.alloc (.cells cs.toArray e)) (.slice (some ⟨w.heap.size, 0, none⟩) n n) e k enc xs w.heap.size := by
  subst hcs; subst hn
  refine ⟨⟨flat_len hl xs, .inr ⟨w.heap.size, xs.length, _, rfl, Nat.le_refl _, alloc_blk w _ e, Nat.le_refl _, by unfold maxLen; omega, by simp [flat_len hl], ?_⟩⟩, hl, hp⟩
  rw [List.take_of_length_le (by simp [flat_len hl])]
theorem run_bsl {P : Program} {t e k n : Nat} {z : Value} {val : α → Value} {os : List Operand} {parts : Array (Nat × Operand)} {vs : List Value} {X : Cx} {a : Act} {o : Oper} (ha : Ok X l a) (ho : o.op = .buildSlice t n parts)
    (hparts : parts.toList = os.zipIdx.map (fun p => (p.2, p.1))) (hev : evs l os = some vs) (hm : MV val vs xs) (hval : ∀ x, (val x).cells = (enc x).toArray) (hl : ∀ x, (enc x).length = k)
    (ht : ∀ w, (underlying t).run P w = .ok (.slice e) w) (hk : ∀ w, (sizeOf e).run P w = .ok k w) (hz : ∀ w, (zeroValue e).run P w = .ok z w) (hn : vs.length = n) (hle : n * k ≤ 16777216) (w : World) :
    (execOp a.eval o).run P w = .ok (.value (.slice (some ⟨w.heap.size, 0, none⟩) n n)) (w.alloc (.cells (xs.flatMap enc).toArray e)) := by
  have hr := run_bslice (P := P) ht hk hz hn (hm.size hval hl) hle w
  have hp : parts.map (fun (p : Nat × Operand) => (p.1, a.eval p.2)) = (vs.zipIdx.map fun p => (p.2, p.1)).toArray := by
    apply Array.toList_inj.1
    rw [Array.toList_map, hparts, ← ha.evs hev]
    simp [List.zipIdx_map, Function.comp_def]
  unfold execOp; rw [ho]
  simp only [Sem.run_bind]
  rw [hp, hr, hm.flat hval]
  rfl
theorem SG_bslice {d t e n : Nat} {z : Value} {val : α → Value} {os : List Operand} {parts : Array (Nat × Operand)} {vs : List Value} {ty : TypeId} {pos : String} {af : Array Edge}
    (hparts : parts.toList = os.zipIdx.map (fun p => (p.2, p.1))) (hev : evs l os = some vs) (hm : MV val vs xs) (hval : ∀ x, (val x).cells = (enc x).toArray) (hl : ∀ x, (enc x).length = k)
    (ht : ∀ w, (underlying t).run X.P w = .ok (.slice e) w) (hk : ∀ w, (sizeOf e).run X.P w = .ok k w) (hz : ∀ w, (zeroValue e).run X.P w = .ok z w) (hn : vs.length = n) (hle : n * k ≤ 16777216) (hp : 0 < k) (hd : Nat.blt d X.N = true)
    (kk : ∀ w' v' b, b = w.heap.size → Below w.heap.size w w' → w'.heap.size = b + 1 → v'.ownBlock = some b → OS w' v' e k enc xs b → SG X ops Q rest ((d, v') :: l) w') :
    SG X ops Q ({ dst := some d, op := .buildSlice t n parts, type := ty, pos := pos, after := af, guard := none } :: rest) l w := by
  refine SG_val (v := .slice (some ⟨w.heap.size, 0, none⟩) n n) (w' := w.alloc (.cells (xs.flatMap enc).toArray e)) ?_ hd (kk _ _ w.heap.size rfl (alloc_below _ _) (by simp) rfl (OS.made hl hp rfl (by rw [← hn, hm.length]) (by have : n ≤ n * k := Nat.le_mul_of_pos_right n hp; omega)))
  intro X' a o hP ha ho hty
  exact run_bsl ha ho hparts hev hm hval hl ht hk hz hn hle w
theorem SG_make1 {d t e n bytes : Nat} {z : Value} {x : Operand} {ty : TypeId} {pos : String} {af : Array Edge} {K : IntKind} (ht : X.P.underlying t = some (.slice e)) (hi : (X.P.info? e).map (fun i => (i.zero, i.size, i.bytes)) = some (some z, 1, bytes)) (hz : z.cells = #[z])
    (hx : ev l x = some (.int K (n : Int))) (hb : bytes * n ≤ 281474976710656) (h63 : n ≤ 9223372036854775807) {x0 : α} (henc : enc x0 = [z]) (hl : ∀ x, (enc x).length = 1) (hd : Nat.blt d X.N = true)
    (kk : ∀ w' v' b, b = w.heap.size → Below w.heap.size w w' → w'.heap.size = b + 1 → v'.ownBlock = some b → OS w' v' e 1 enc (List.replicate n x0) b → SG X ops Q rest ((d, v') :: l) w') :
    SG X ops Q ({ dst := some d, op := .makeSlice t x x, type := ty, pos := pos, after := af, guard := none } :: rest) l w := by
  obtain ⟨i, hi0, hiz, his, hib⟩ : ∃ i, X.P.info? e = some i ∧ i.zero = some z ∧ i.size = 1 ∧ i.bytes = bytes := by
    cases hx : X.P.info? e with
    | none => rw [hx] at hi; cases hi
    | some i => rw [hx] at hi; simp only [Option.map_some, Option.some.injEq, Prod.mk.injEq] at hi; exact ⟨i, rfl, hi.1, hi.2.1, hi.2.2⟩
  have hr := run_make (P := X.P) w t e i z ht hi0 hiz K K n n (by omega) (Int.le_refl _) (by have h := Int.ofNat_le.2 hb; rw [Int.natCast_mul] at h; rw [hib]; exact h) (by omega)
  have hrep : ∀ m : Nat, List.replicate m z = (List.replicate m x0).flatMap enc := fun m => by
    induction m with
    | zero => rfl
    | succ m ih => rw [List.replicate_succ, List.replicate_succ, List.flatMap_cons, henc, ← ih]; rfl
  have hcs : madeCells z.cells (n * 1) = ((List.replicate n x0).flatMap enc).toArray := by
    apply Array.toList_inj.1
    rw [Nat.mul_one, hz, toList_madeCells_one, hrep]
  simp only [Int.toNat_natCast, his, hcs] at hr
  refine SG_val (v := .slice (some ⟨w.heap.size, 0, none⟩) n n) (w' := w.alloc (.cells ((List.replicate n x0).flatMap enc).toArray e)) ?_ hd (kk _ _ w.heap.size rfl (alloc_below _ _) (by simp) rfl (OS.made hl (by omega) rfl (by simp) h63))
  intro X' a o hP ha ho hty
  unfold execOp; rw [ho]
  simp [ha.ev hx, hr, Sem.run_bind, Result.andThen]
/-- storing into an element of one's own -/
theorem flat_set (hk : ∀ x, (enc x).length = k) : ∀ (xs : List α) (i : Nat) (x y : α) (o : Nat) (vs : List Value), xs[i]? = some x → o + vs.length ≤ k → enc y = setAll (enc x) o vs → (xs.set i y).flatMap enc = setAll (xs.flatMap enc) (i * k + o) vs
  | [], i, x, y, o, vs, h, _, _ => by simp at h
  | a :: as, 0, x, y, o, vs, h, ho, he => by
    simp at h; subst h
    simp only [List.set_cons_zero, List.flatMap_cons, he, Nat.zero_mul, Nat.zero_add]
    have key : ∀ (vs : List Value) (cs ds : List Value) (o : Nat), o + vs.length ≤ cs.length → setAll (cs ++ ds) o vs = setAll cs o vs ++ ds := by
      intro vs
      induction vs with
      | nil => intro cs ds o _; rfl
      | cons v vs ih =>
        intro cs ds o h
        simp only [List.length_cons] at h
        simp only [setAll]
        rw [List.set_append_left _ _ (by omega)]
        exact ih _ _ _ (by simp; omega)
    rw [key vs _ _ _ (by rw [hk]; exact ho)]
  | a :: as, i + 1, x, y, o, vs, h, ho, he => by
    have ih := flat_set hk as i x y o vs (by simpa using h) ho he
    simp only [List.set_cons_succ, List.flatMap_cons, ih]
    have key : ∀ (vs : List Value) (cs ds : List Value) (o : Nat), setAll (cs ++ ds) (cs.length + o) vs = cs ++ setAll ds o vs := by
      intro vs
      induction vs with
      | nil => intro cs ds o; rfl
      | cons v vs ih =>
        intro cs ds o
        simp only [setAll]
        rw [List.set_append_right _ _ (by omega), Nat.add_sub_cancel_left, Nat.add_assoc, ih]
    rw [show (i + 1) * k + o = (enc a).length + (i * k + o) by rw [hk, Nat.add_mul]; omega, key]
theorem setAll_len : ∀ (vs cs : List Value) (o : Nat), (setAll cs o vs).length = cs.length
  | [], _, _ => rfl
  | v :: vs, cs, o => by simp only [setAll]; rw [setAll_len]; simp
theorem setAll_take : ∀ (vs cs : List Value) (o n : Nat), o + vs.length ≤ n → (setAll cs o vs).take n = setAll (cs.take n) o vs
  | [], _, _, _, _ => rfl
  | v :: vs, cs, o, n, h => by
    simp only [List.length_cons] at h
    simp only [setAll]
    rw [setAll_take vs _ _ _ (by omega), List.take_set]
theorem SG_storeE {T n i o e : Nat} {x y : Operand} {ty : TypeId} {pos : String} {af : Array Edge} {elt elt' : α} {vs : List Value} {u : Value} (h : OS w v e k enc xs lo) (hx : ev l x = some (.pointer (some ⟨sb v, so v + i * k + o, none⟩))) (hy : ev l y = some u)
    (hvs : u.cells = vs.toArray) (hone : vs.all one1 = true) (hn : ∀ w, (sizeOf T).run X.P w = .ok n w) (hl : vs.length = n) (hi : xs[i]? = some elt) (ho : o + vs.length ≤ k) (he : enc elt' = setAll (enc elt) o vs)
    (kk : ∀ w', Chg (fun b => v.ownBlock = some b) w w' → OS w' v e k enc (xs.set i elt') lo → SG X ops Q rest l w') :
    SG X ops Q ({ dst := none, op := .store T x y, type := ty, pos := pos, after := af, guard := none } :: rest) l w := by
  have hilt := (List.getElem?_eq_some_iff.1 hi).1
  rcases h.own.2 with ⟨_, q⟩ | ⟨g, cap, cur, q, hlo, hg, hc, hm, hsz, htk⟩
  · omega
  · have hsb : sb v = g := by rw [q]; rfl
    have hso : so v = 0 := by rw [q]; rfl
    rw [hsb, hso, Nat.zero_add] at hx
    have hB : Blk w g cur.toList e := by unfold Blk; simpa using hg
    have hle : i * k + o + vs.length ≤ xs.length * k := by
      have : (i + 1) * k ≤ xs.length * k := Nat.mul_le_mul_right k hilt
      rw [Nat.add_mul] at this; omega
    have hcap : xs.length * k ≤ cap * k := Nat.mul_le_mul_right k hc
    refine SG_store hB hx hy hvs hone hn hl (by rw [Nat.ble_eq]; simp [hsz]; omega) fun w' hch hB' => kk w' (hch.mono fun b _ hb => by subst hb; rw [q]; rfl) ⟨⟨flat_len h.len _, .inr ⟨g, cap, (setAll cur.toList (i * k + o) vs).toArray, by rw [q]; simp, hlo, by simpa [Blk] using hB', by simpa using hc, hm, by simp [setAll_len, hsz], ?_⟩⟩, h.len, h.pos⟩
    simp only [List.length_set]
    rw [flat_set h.len xs i elt elt' o vs hi ho he, ← htk]
    rw [setAll_take _ _ _ _ hle]
end
end Go.Mi
