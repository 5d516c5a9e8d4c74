/- The reference's words, and rules for slices that are begun anew. No program's text. -/
import Derived.Test.YtphmoebiobjfhaaGreatKn
import Derived.Laws.Small
set_option linter.all false
namespace Go.Mi
open Go Go.RowKit
/-! ### cores are checked -/
def opnR (code ch : Int) : Int × Int × Int :=
 if code = 1 then (0, -9999, 9999) else if code = 2 then (0, 1, 4) else if code = 3 then (0, 0, ch - 1) else if code = 4 then (0, 0, 31) else if code = 5 ∨ code = 6 then (1, 0, 0)
 else if 7 ≤ code ∧ code ≤ 16 then (2, 0, 0) else if code = 17 then (3, 0, 0) else (-1, 0, -1)
theorem opnR_ar (code ch : Int) (h : 1 ≤ code) (h' : code ≤ 17) : (opnR code ch).1 = arN code := by
 unfold opnR arN; (repeat' split) <;> omega
theorem isOp_n {nch i : Nat} {x : Ot} (h : ¬ ((opnR x.code nch).2.1 ≤ x.n ∧ x.n ≤ (opnR x.code nch).2.2)) : isOpB nch i x = false := by
 rw [Bool.eq_false_iff]; intro hb;obtain ⟨⟨h1, h2, h3⟩, _⟩ := opnd_iff.1 hb
 apply h
 unfold isNumB at h3
 unfold opnR
 simp only [within1] at h3
 (repeat' split at h3) <;> simp at h3 <;> (repeat' split) <;> simp <;> omega
theorem isOp_k {nch i : Nat} {x : Ot} {k : Nat} (hk : k < 3) (h : ((k : Int) < (opnR x.code nch).1 ∧ ¬ (0 ≤ (opndR x).getD k 0 ∧ (opndR x).getD k 0 ≤ (i : Int) - 1)) ∨ ((opnR x.code nch).1 ≤ (k : Int) ∧ (opndR x).getD k 0 ≠ 0)) : isOpB nch i x = false := by
 rw [Bool.eq_false_iff]; intro hb;obtain ⟨⟨h1, h2, _⟩, ha, hb', hc, ha', hb'', hc'⟩ := opnd_iff.1 hb;rw [opnR_ar _ _ h1 h2] at h
 match k, hk with
 | 0, _ => simp [opndR] at h; omega
 | 1, _ => simp [opndR] at h; omega
 | 2, _ => simp [opndR] at h; omega
theorem isOp_yes {nch i : Nat} {x : Ot} (hn : (opnR x.code nch).2.1 ≤ x.n ∧ x.n ≤ (opnR x.code nch).2.2)
  (h : ∀ k : Nat, k < 3 → ((k : Int) < (opnR x.code nch).1 → 0 ≤ (opndR x).getD k 0 ∧ (opndR x).getD k 0 ≤ (i : Int) - 1) ∧ ((opnR x.code nch).1 ≤ (k : Int) → (opndR x).getD k 0 = 0)) : isOpB nch i x = true := by
 have hc : 1 ≤ x.code ∧ x.code ≤ 17 := by
  unfold opnR at hn
  (repeat' split at hn) <;> simp at hn <;> omega
 have hnum : isNumB nch x = true := by
  unfold opnR at hn
  unfold isNumB
  simp only [within1]
  (repeat' split at hn) <;> simp at hn <;> (repeat' split) <;> simp <;> omega
 have h0 := h 0 (by omega); have h1 := h 1 (by omega); have h2 := h 2 (by omega);rw [opnR_ar _ _ hc.1 hc.2] at h0 h1 h2
 simp [opndR] at h0 h1 h2
 rw [opnd_iff];refine ⟨⟨hc.1, hc.2, hnum⟩, ?_⟩
 omega
theorem noCh_iff {x : Ch} : noCh x = false ↔ (-9999 ≤ x.lo ∧ x.lo ≤ x.hi) ∧ x.hi ≤ 9999 ∧ x.hi - x.lo < 12 := by
 unfold noCh
 simp only [within1, Bool.or_eq_false_iff, Bool.not_eq_false', withinB, List.any_cons, List.any_nil, Bool.or_false, Bool.not_eq_true', Bool.or_eq_false_iff, decide_eq_false_iff_not, decide_eq_true_eq]
 omega
theorem check_far {C : Co} (h : 6 < C.ch.length ∨ 3000 < C.ops.length ∨ 3000 < C.roots.length) : checkR C = 5 := by unfold checkR; rw [if_pos h]
theorem check_ch {C : Co} (h : ¬ (6 < C.ch.length ∨ 3000 < C.ops.length ∨ 3000 < C.roots.length)) {j : Nat} {x : Ch} (hj : C.ch[j]? = some x) (hx : noCh x = true) : checkR C = 3 := by
 unfold checkR; rw [if_neg h, if_pos (List.any_eq_true.2 ⟨x, List.mem_of_getElem? hj, hx⟩)]
theorem check_op {C : Co} (h : ¬ (6 < C.ch.length ∨ 3000 < C.ops.length ∨ 3000 < C.roots.length)) (hc : ∀ (j : Nat) (x : Ch), C.ch[j]? = some x → noCh x = false) {j : Nat} {x : Ot} (hj : C.ops[j]? = some x) (hx : isOpB C.ch.length j x = false) : checkR C = 4 := by
 have h1 : C.ch.any noCh = false := by
  rw [List.any_eq_false]; intro y hy; obtain ⟨k, hk⟩ := List.getElem?_of_mem hy; simp [hc k y hk]
 have h2 : ¬ opsB C.ch.length C.ops = true := fun e => by have := opsB_iff.1 e j x hj; rw [hx] at this; cases this
 unfold checkR; rw [if_neg h, if_neg (by simp [h1]), if_neg h2]; split <;> rfl
theorem check_root {C : Co} (h : ¬ (6 < C.ch.length ∨ 3000 < C.ops.length ∨ 3000 < C.roots.length)) (hc : ∀ (j : Nat) (x : Ch), C.ch[j]? = some x → noCh x = false) {j : Nat} {n : Int} (hj : C.roots[j]? = some n) (hn : ¬ (0 ≤ n ∧ n ≤ (C.ops.length : Int) - 1)) : checkR C = 4 := by
 have h1 : C.ch.any noCh = false := by
  rw [List.any_eq_false]; intro y hy; obtain ⟨k, hk⟩ := List.getElem?_of_mem hy; simp [hc k y hk]
 unfold checkR; rw [if_neg h, if_neg (by simp [h1]), if_pos]
 simp only [withinB, Bool.not_eq_false', List.any_eq_true, Bool.or_eq_true, decide_eq_true_eq]
 exact ⟨n, List.mem_of_getElem? hj, by omega⟩
theorem check_yes {C : Co} (h : ¬ (6 < C.ch.length ∨ 3000 < C.ops.length ∨ 3000 < C.roots.length)) (hc : ∀ (j : Nat) (x : Ch), C.ch[j]? = some x → noCh x = false) (ho : ∀ (j : Nat) (x : Ot), C.ops[j]? = some x → isOpB C.ch.length j x = true) (hr : ∀ (j : Nat) (n : Int), C.roots[j]? = some n → 0 ≤ n ∧ n ≤ (C.ops.length : Int) - 1) : checkR C = 0 := by
 refine check_mk (by omega) ?_ (fun n hn => ?_) ho
 ·rw [List.any_eq_false]; intro y hy; obtain ⟨k, hk⟩ := List.getElem?_of_mem hy; simp [hc k y hk]
 ·obtain ⟨k, hk⟩ := List.getElem?_of_mem hn; have := hr k n hk; omega
/-! ### values of any-order operations that only keep a word -/
theorem Ex_qR {P : Program} {l : Frm} {w : World} {d : Option Nat} {op : Op} {ty : TypeId} {pos : String} {af : Array Edge} {g : Option (Nat × Bool)} {v : Value} {ds : List Nat} {R : Value → World → Nat → Nat → Prop} (h : Rq P op ty l w v) (hR : ∀ lo hi, R v w lo hi) :
  ExH P { dst := d, op := op, type := ty, pos := pos, after := af, guard := g } l w (fun u w' => (frs ds R).R u w' w.heap.size w'.heap.size) := fun X a hP ha =>
 .inl ⟨v, w, by subst hP; exact h w (Below.refl _ _) X a _ rfl ha rfl rfl, Below.refl _ _, hR _ _⟩
/-- a slice, and that it is one -/
def SlV {α : Type} (B k : Nat) (enc : α → List Value) (xs : List α) (v : Value) (w : World) (_ _ : Nat) : Prop := SL w v k enc xs ∧ (∃ a n c, v = .slice a n c) ∧ (0 < xs.length → B ≤ sb v)
theorem SlV.stab {α : Type} {B k : Nat} {enc : α → List Value} {xs : List α} {ds : List Nat} : (frs ds (SlV B k enc xs)).stab := fun _ _ _ _ _ hb _ ⟨h1, h2⟩ => ⟨h1.below hb, h2⟩
def OsV {α : Type} (B E k : Nat) (enc : α → List Value) (xs : List α) (v : Value) (w : World) (_ _ : Nat) : Prop := OS w v E k enc xs B ∧ ∃ a n c, v = .slice a n c
theorem OsV.stab {α : Type} {B E k : Nat} {enc : α → List Value} {xs : List α} {ds : List Nat} : (frs ds (OsV B E k enc xs)).stab := fun _ _ _ _ _ hb _ ⟨h1, h2⟩ => ⟨h1.below hb, h2⟩
/-- an empty slice without room -/
def Nul (B E k : Nat) {α : Type} (enc : α → List Value) (v : Value) (w : World) (_ _ : Nat) : Prop := OS w v E k enc ([] : List α) B ∧ ∃ b, v = .slice (some ⟨b, 0, none⟩) 0 0
theorem Nul.stab {α : Type} {B E k : Nat} {enc : α → List Value} {ds : List Nat} : (frs ds (Nul B E k enc)).stab := fun _ _ _ _ _ hb _ ⟨h1, h2⟩ => ⟨h1.below hb, h2⟩
section
variable {α : Type} {P : Program} {l : Frm} {w : World} {k : Nat} {enc : α → List Value} {ys : List α}
theorem Ex_bslice0 {B : Nat} (hB : B ≤ w.heap.size) {d : Option Nat} {t e : Nat} {z : Value} {ty : TypeId} {pos : String} {af : Array Edge} {g : Option (Nat × Bool)} {ds : List Nat} (val : α → Value) (hval : ∀ x, (val x).cells = (enc x).toArray) (hl : ∀ x, (enc x).length = k)
  (ht : ∀ w, (underlying t).run P w = .ok (.slice e) w) (hk : ∀ w, (sizeOf e).run P w = .ok k w) (hz : ∀ w, (zeroValue e).run P w = .ok z w) (hp : 0 < k) :
  ExH P { dst := d, op := .buildSlice t 0 #[], type := ty, pos := pos, after := af, guard := g } l w (fun u w' => (frs ds (Nul B e k enc)).R u w' w.heap.size w'.heap.size) := by
 have ho : OS (w.alloc (.cells (([] : List α).flatMap enc).toArray e)) (.slice (some ⟨w.heap.size, 0, none⟩) 0 0) e k enc [] w.heap.size := OS.made hl hp rfl rfl (by omega);refine Ex_run (v := .slice (some ⟨w.heap.size, 0, none⟩) 0 0) (w' := w.alloc (.cells (([] : List α).flatMap enc).toArray e)) ?_ (alloc_below _ _) ⟨ho.le hB, _, rfl⟩;intro X' a o hP ha ho' hty;subst hP;exact run_bsl (os := []) (parts := #[]) ha ho' rfl rfl (MV.nil (val := val)) hval hl ht hk hz rfl (by omega) w
theorem run_app0 {B : Nat} (hB : B ≤ w.heap.size) {t ty e size bytes : Nat} {z : Value} {lo hi' : Nat} {v u : Value} (ht : P.underlying t = some (.slice e)) (hi : (P.info? e).map (fun i => (i.zero, i.size, i.bytes)) = some (some z, size, bytes)) (hz : z.cells.size = size)
  (h : Nul B e size enc v w lo hi') (hu : SL w u size enc ys) (hone : ∀ y ∈ ys, (enc y).all one1 = true) (hmax : ys.length ≤ 9223372036854775807) (hb : ys.length * bytes ≤ 140737488355328) :
  ∃ v' w', (Builtin.append_ #[t, t] ty #[v, u]).run P w = .ok v' w' ∧ OS w' v' e size enc ys B ∧ (∃ a n c, v' = .slice a n c) ∧ Below w.heap.size w w' := by
 obtain ⟨hos, b, hv⟩ := h;obtain ⟨v', w', hrun, ho, hc, _⟩ := run_app (P := P) (ty := ty) ht hi hz hos hu hone (by simpa using hmax) (by simpa using hb) hB;rw [List.nil_append] at ho;have hq : Below w.heap.size w w' := ?_
 ·exact ⟨v', w', hrun, ho, (by obtain ⟨a, c, h⟩ := ho.sl.len; exact ⟨_, _, _, h⟩), hq⟩
 obtain ⟨i, hi0, hiz, his, hib⟩ : ∃ i, P.info? e = some i ∧ i.zero = some z ∧ i.size = size ∧ i.bytes = bytes := by
  cases hx : P.info? e with
  | none => rw [hx] at hi; cases hi
  | some i => rw [hx] at hi; simp only [Option.map_some, Option.some.injEq, Prod.mk.injEq] at hi; exact ⟨i, rfl, hi.1, hi.2.1, hi.2.2⟩
 rcases hos.own.2 with ⟨q, hn⟩ | ⟨g, cap, cur, q, _, hg, hcap, hm, hsz, htk⟩
 ·rw [hv] at q; cases q
 ·rw [hv] at q
  simp only [Value.slice.injEq, Option.some.injEq, Addr.mk.injEq] at q
  obtain ⟨⟨q1, _⟩, q2, q3⟩ := q;subst q1
  have hc0 : cap = 0 := by omega
  subst hc0
  rcases hu.shape with ⟨e1, e2⟩ | ⟨e1, hcp⟩
  ·have hr2 : (Builtin.append_ #[t, t] ty #[v, u]).run P w = .ok v w := by
    rw [e1, hv]; simp [Builtin.append_, run_underlying ht, sizeOf, typeInfo, hi0, Builtin.lenOf, Builtin.firstCells, storeCells]
   rw [hr2] at hrun; cases hrun; exact Below.refl _ _
  ·by_cases hm0 : ys.length = 0
   ·have hr2 : (Builtin.append_ #[t, t] ty #[v, u]).run P w = .ok v w := by
     rw [e1, hv, hm0]; simp [Builtin.append_, run_underlying ht, sizeOf, typeInfo, hi0, Builtin.lenOf, Builtin.firstCells, storeCells, loadCells, loadCellsFrom]
    rw [hr2] at hrun; cases hrun; exact Below.refl _ _
   ·have hnews : ∀ j u', (ys.flatMap enc)[j]? = some u' → w.cell? ((⟨sb u, so u, none⟩ : Addr).add j) = some u' := fun j u' hj => by
     have hjl := (List.getElem?_eq_some_iff.1 hj).1;rw [flat_len hos.len] at hjl;have hdiv : j / size < ys.length := Nat.div_lt_of_lt_mul (by rw [Nat.mul_comm]; exact hjl);have hm : j % size < size := Nat.mod_lt _ hos.pos
     have hd : j / size * size + j % size = j := by have := Nat.div_add_mod j size; rw [Nat.mul_comm]; exact this
     have hg := flat_get hos.len ys (j / size) (j % size) _ (List.getElem?_eq_getElem hdiv) hm;rw [hd, hj] at hg;have hcell := hu.cells (j / size) _ (List.getElem?_eq_getElem hdiv) (j % size) (by rw [hos.len]; exact hm);rw [addr_add, ← hd, ← Nat.add_assoc, hcell, ← hg]
    have holds : ∀ j u, (([] : List α).flatMap enc)[j]? = some u → w.cell? ((⟨b, 0, none⟩ : Addr).add j) = some u := fun j u h => by simp at h
    have hr2 := run_append_grow (P := P) w t ty e i z ht hi0 hiz ⟨b, 0, none⟩ 0 0 (([] : List α).flatMap enc) (by simp) holds ⟨sb u, so u, none⟩ ys.length (scap u) (ys.flatMap enc) (by rw [flat_len hos.len, his]) hnews (by omega) (by omega) (growslice_fits (by omega) (by rw [hib]; simpa using hb));rw [hv, e1] at hrun;rw [hr2] at hrun; cases hrun;exact (Below.refl _ w).drew.alloc (by simp) _
theorem Ex_append0 {d : Option Nat} {s x : Operand} {t e size bytes : Nat} {z : Value} {ty : TypeId} {pos : String} {af : Array Edge} {g : Option (Nat × Bool)} {v u : Value} {ds : List Nat} {lo hi B : Nat} (hB : B ≤ w.heap.size) (ht : P.underlying t = some (.slice e)) (hi' : (P.info? e).map (fun i => (i.zero, i.size, i.bytes)) = some (some z, size, bytes)) (hz : z.cells.size = size)
  (h : Nul B e size enc v w lo hi) (hu : SL w u size enc ys) (hone : ∀ y ∈ ys, (enc y).all one1 = true) (hmax : ys.length ≤ 9223372036854775807) (hb : ys.length * bytes ≤ 140737488355328) (hs : ev l s = some v) (hx : ev l x = some u) :
  ExH P { dst := d, op := .call { callee := .builtin .append, args := #[s, x], argTypes := #[t, t] }, type := ty, pos := pos, after := af, guard := g } l w (fun u w' => (frs ds (OsV B e size enc ys)).R u w' w.heap.size w'.heap.size) := by
 obtain ⟨v', w', hr, h1, h2, h3⟩ := run_app0 (P := P) (ty := ty) hB ht hi' hz h hu hone hmax hb;refine Ex_run (v := v') (w' := w') ?_ h3 ⟨h1, h2⟩;intro X' a o hP ha ho hty;subst hP;refine run_appOp ha ho hs hx ?_;rw [hty]; exact hr
theorem Rq_max {T ty : TypeId} {x y : Operand} {a b : Int} (hx : ev l x = some (.int .i64 a)) (hy : ev l y = some (.int .i64 b)) : Rq P (.call { callee := .builtin .max, args := #[x, y], argTypes := #[T, T] }) ty l w (.int .i64 (if b > a then b else a)) := fun w' _ X a' o _ ha ho _ => by
 unfold execOp; rw [ho]
 simp [resolve, invoke, builtin, ha.ev hx, ha.ev hy, Sem.run_bind, Result.andThen, run_max_int2]
theorem Rq_sliceS {T E ty : TypeId} {x i : Operand} {b o n c : Nat} {K : IntKind} {h : Int} (hT : ∀ w, (underlying T).run P w = .ok (.slice E) w) (hE : ∀ w, (sizeOf E).run P w = .ok k w) (hx : ev l x = some (.slice (some ⟨b, o, none⟩) n c)) (hi : ev l i = some (.int K h)) (h0 : 0 ≤ h) (h1 : h ≤ (c : Int)) :
  Rq P (.slice T x none (some i) none) ty l w (.slice (some ⟨b, o, none⟩) h.toNat c) := fun w' _ X a' op _ ha ho _ => by
 unfold execOp; rw [ho]
 simp only [Option.map_some, Option.map_none, ha.ev hx, ha.ev hi]
 simp [Instr.sliceAt, Instr.slice, Instr.sliceBounds, Sem.run_bind, hT, hE, run_sliceBound _ _ _ _ _ h0 h1, Result.andThen, addr_add]
end
/-! the reference's new numbers -/
def toL (n : Nat) (pre : List Int) : List Int := (List.range n).map fun (j : Nat) => toR pre j
theorem toL_len (n : Nat) (pre : List Int) : (toL n pre).length = n := by simp [toL]
theorem toL_nil (n : Nat) : toL n [] = List.replicate n 0 := by
 apply List.ext_getElem?; intro j
 by_cases h : j < n <;> simp [toL, toR, h]
theorem toL_get {n : Nat} {pre : List Int} {i : Int} (h0 : 0 ≤ i) (h1 : i < n) : (toL n pre)[i.toNat]? = some (toR pre i) := by
 obtain ⟨k, rfl⟩ := Int.eq_ofNat_of_zero_le h0
 have : k < n := by omega
 simp [toL, this]
theorem toR_snoc {pre : List Int} {i n : Int} (h : n ≠ i) : toR (pre ++ [i]) n = toR pre n := by
 unfold toR
 by_cases hn : n ∈ pre
 ·rw [if_pos hn, if_pos (by simp [hn]), List.findIdx_append, if_pos (List.findIdx_lt_length_of_exists (p := fun m => decide (n = m)) ⟨n, hn, by simp⟩)]
 ·rw [if_neg hn, if_neg (by simp [hn, h])]
theorem toR_self {pre : List Int} {i : Int} (h : ¬ i ∈ pre) : toR (pre ++ [i]) i = pre.length := by
 unfold toR
 rw [if_pos (by simp), List.findIdx_append, if_neg]
 ·simp
 ·simp only [Nat.not_lt]
  refine Nat.le_of_not_lt fun hlt => h ?_
  have := List.findIdx_getElem (w := hlt)
  simp only [decide_eq_true_eq] at this
  rw [this]; exact List.getElem_mem _
theorem toL_set {n : Nat} {pre : List Int} {i : Int} (h0 : 0 ≤ i) (h : ¬ i ∈ pre) : (toL n pre).set i.toNat (pre.length : Int) = toL n (pre ++ [i]) := by
 obtain ⟨k, rfl⟩ := Int.eq_ofNat_of_zero_le h0
 apply List.ext_getElem?; intro j
 rw [List.getElem?_set]
 simp only [Int.toNat_natCast]
 by_cases e : k = j
 ·subst e
  by_cases hl : k < n
  ·simp [toL, hl, toR_self h]
  ·simp [toL, hl]
 ·rw [if_neg e]
  by_cases hl : j < n
  ·have : (j : Int) ≠ (k : Int) := by omega
   simp [toL, hl, toR_snoc this]
  ·simp [toL, hl]
theorem at0_snoc {pre : List Int} {i : Int} {x : Ot} (h : ∀ n ∈ opsOf x, n < i) : at0 (toR (pre ++ [i])) x = at0 (toR pre) x := by
 have h3 := arN_le x.code
 have ha : 1 ≤ arN x.code → x.a ≠ i := fun hk e => by have := h x.a (by unfold opsOf opndR; generalize arN x.code = k at *; match k, hk with | k + 1, _ => simp); omega
 have hb : 2 ≤ arN x.code → x.b ≠ i := fun hk e => by have := h x.b (by unfold opsOf opndR; generalize arN x.code = k at *; match k, hk with | k + 2, _ => simp); omega
 have hc : 3 ≤ arN x.code → x.c ≠ i := fun hk e => by have := h x.c (by unfold opsOf opndR; generalize arN x.code = k at *; match k, hk with | k + 3, _ => simp); omega
 unfold at0
 congr 1
 ·split
  ·rw [toR_snoc (ha (by omega))]
  ·rfl
 ·split
  ·rw [toR_snoc (hb (by omega))]
  ·rfl
 ·split
  ·rw [toR_snoc (hc (by omega))]
  ·rfl
/-- the reference's search -/
def SearchP (P : Program) (fid : FuncId) (C : Co) (f : Nat) : Prop := ∀ (i : Int) (found : List Int) (uC uO uR vF : Value) (w : World) (lo T : Nat), T = 3 → 0 ≤ i → i < f → f ≤ C.ops.length → (SL w uC 3 encC C.ch ∧ SL w uO 5 encO C.ops ∧ SL w uR 1 encI C.roots) →
 ((0 < C.ch.length → sb uC < lo) ∧ (0 < C.ops.length → sb uO < lo) ∧ (0 < C.roots.length → sb uR < lo)) → lo ≤ w.heap.size → OS w vF T 1 encI found lo → visitF C.ops f found i <+: foundR C →
 Calls P fid (.agg [uC, uO, uR].toArray :: .int .i64 i :: [vF]).toArray w fun e w' => ∃ v', e = .returned v' ∧ OS w' v' T 1 encI (visitF C.ops f found i) lo ∧ Chg (fun b => vF.ownBlock = some b) w w' ∧ SameOrNew w vF v'
/-- a core whose slices are spelled out -/
def CoL (B : Nat) (C : Co) (v : Value) (w : World) (_ _ : Nat) : Prop := ∃ a1 n1 c1 a2 n2 c2 a3 n3 c3, v = .agg [.slice a1 n1 c1, .slice a2 n2 c2, .slice a3 n3 c3].toArray ∧ (SL w (.slice a1 n1 c1) 3 encC C.ch ∧ SL w (.slice a2 n2 c2) 5 encO C.ops ∧ SL w (.slice a3 n3 c3) 1 encI C.roots) ∧
 (0 < C.ch.length → B ≤ sb (.slice a1 n1 c1)) ∧ (0 < C.ops.length → B ≤ sb (.slice a2 n2 c2)) ∧ (0 < C.roots.length → B ≤ sb (.slice a3 n3 c3))
theorem CoL.stab {B : Nat} {C : Co} {ds : List Nat} : (frs ds (CoL B C)).stab := fun _ _ _ _ _ hb _ ⟨a1, n1, c1, a2, n2, c2, a3, n3, c3, h, ⟨h1, h2, h3⟩, h4⟩ => ⟨a1, n1, c1, a2, n2, c2, a3, n3, c3, h, ⟨h1.below hb, h2.below hb, h3.below hb⟩, h4⟩
/-- a core whose slices are its owner's -/
def CoW (EC EO ER B : Nat) (C : Co) (v : Value) (w : World) (_ _ : Nat) : Prop := ∃ a1 n1 c1 a2 n2 c2 a3 n3 c3, v = .agg [.slice a1 n1 c1, .slice a2 n2 c2, .slice a3 n3 c3].toArray ∧ OS w (.slice a1 n1 c1) EC 3 encC C.ch B ∧ OS w (.slice a2 n2 c2) EO 5 encO C.ops B ∧ OS w (.slice a3 n3 c3) ER 1 encI C.roots B
theorem CoW.stab {EC EO ER B : Nat} {C : Co} {ds : List Nat} : (frs ds (CoW EC EO ER B C)).stab := fun _ _ _ _ _ hb _ ⟨a1, n1, c1, a2, n2, c2, a3, n3, c3, h, h1, h2, h3⟩ => ⟨a1, n1, c1, a2, n2, c2, a3, n3, c3, h, h1.below hb, h2.below hb, h3.below hb⟩
theorem CoW.co {EC EO ER B : Nat} {C : Co} {v : Value} {w : World} (h : CoW EC EO ER B C v w 0 0) : CoL B C v w 0 0 := by
 obtain ⟨a1, n1, c1, a2, n2, c2, a3, n3, c3, h, h1, h2, h3⟩ := h;exact ⟨a1, n1, c1, a2, n2, c2, a3, n3, c3, h, ⟨h1.sl, h2.sl, h3.sl⟩, fun hp => (h1.lt (sb_own h1.sl hp)).1, fun hp => (h2.lt (sb_own h2.sl hp)).1, fun hp => (h3.lt (sb_own h3.sl hp)).1⟩
/-- blocks of different types are different ones -/
theorem OS.ne_type {α β : Type} {w : World} {v u : Value} {E E' k k' lo lo' : Nat} {enc : α → List Value} {enc' : β → List Value} {xs : List α} {ys : List β} (h : OS w v E k enc xs lo) (h' : OS w u E' k' enc' ys lo') (hne : E ≠ E') : ∀ b, v.ownBlock = some b → u.ownBlock ≠ some b := fun b e e' => by
 rcases h.own.2 with ⟨q, _⟩ | ⟨g, cap, cur, q, _, hg, _⟩
 ·rw [q] at e; cases e
 ·rcases h'.own.2 with ⟨q', _⟩ | ⟨g', cap', cur', q', _, hg', _⟩
  ·rw [q'] at e'; cases e'
  ·rw [q] at e; rw [q'] at e'; cases e; cases e'
   rw [hg] at hg'; cases hg'; exact hne rfl
end Go.Mi
