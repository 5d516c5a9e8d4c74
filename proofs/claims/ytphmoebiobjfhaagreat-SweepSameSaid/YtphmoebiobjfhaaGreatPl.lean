/- What the laws without the reference need: arrays, made cores, sums. No program's text. -/
import Derived.Test.YtphmoebiobjfhaaGreatRg
import Derived.Test.YtphmoebiobjfhaaGreatIt
set_option linter.all false
namespace Go.Mi
open Go Go.RowKit
section
variable {P : Program} {l : Frm} {w : World} {ty : TypeId}
theorem Rq_indexArr {T E : TypeId} {x i : Operand} {b o k N : Nat} {K : IntKind} {n : Int} (hT : ∀ w, (underlying T).run P w = .ok (.array N E) w) (hE : ∀ w, (sizeOf E).run P w = .ok k w)
  (hx : ev l x = some (.pointer (some ⟨b, o, none⟩))) (hi : ev l i = some (.int K n)) (h0 : 0 ≤ n) (h1 : n < N) : Rq P (.indexAddr T x i) ty l w (.pointer (some ⟨b, o + n.toNat * k, none⟩)) := fun w' _ X a op _ ha ho _ => by
 unfold execOp; rw [ho]
 have e1 : (0 ≤ n ∧ n < (N : Int)) := ⟨h0, h1⟩
 simp [ha.ev hx, ha.ev hi, Instr.indexAt, Instr.sureAddr, asIntOf, hT, hE, Sem.run_bind, Result.andThen, e1, addr_add]
theorem Rq_min {T : TypeId} {x y : Operand} {a b : Int} (hx : ev l x = some (.int .i64 a)) (hy : ev l y = some (.int .i64 b)) : Rq P (.call { callee := .builtin .min, args := #[x, y], argTypes := #[T, T] }) ty l w (.int .i64 (min a b)) := fun w' _ X a' o _ ha ho _ => by
 have e : min a b = if b < a then b else a := by simp only [Int.min_def]; split <;> split <;> omega
 unfold execOp; rw [ho]
 simp [resolve, invoke, builtin, ha.ev hx, ha.ev hy, Sem.run_bind, Result.andThen, run_min_int2, e]
theorem Rq_max2 {T : TypeId} {x y : Operand} {a b : Int} (hx : ev l x = some (.int .i64 a)) (hy : ev l y = some (.int .i64 b)) : Rq P (.call { callee := .builtin .max, args := #[x, y], argTypes := #[T, T] }) ty l w (.int .i64 (max a b)) := by
 have e : max a b = if b > a then b else a := by simp only [Int.max_def]; split <;> split <;> omega
 rw [e]; exact Rq_max hx hy
theorem Rq_max3 {T : TypeId} {x y z : Operand} {a b c : Int} (hx : ev l x = some (.int .i64 a)) (hy : ev l y = some (.int .i64 b)) (hz : ev l z = some (.int .i64 c)) : Rq P (.call { callee := .builtin .max, args := #[x, y, z], argTypes := #[T, T, T] }) ty l w (.int .i64 (max (max a b) c)) := fun w' _ X a' o _ ha ho _ => by
 have e : ∀ a b : Int, max a b = if b > a then b else a := fun a b => by simp only [Int.max_def]; split <;> split <;> omega
 unfold execOp; rw [ho]
 simp [resolve, invoke, builtin, ha.ev hx, ha.ev hy, ha.ev hz, Sem.run_bind, Result.andThen, Builtin.max_, Builtin.max2, e]
theorem Rq_min3 {T : TypeId} {x y z : Operand} {a b c : Int} (hx : ev l x = some (.int .i64 a)) (hy : ev l y = some (.int .i64 b)) (hz : ev l z = some (.int .i64 c)) : Rq P (.call { callee := .builtin .min, args := #[x, y, z], argTypes := #[T, T, T] }) ty l w (.int .i64 (min (min a b) c)) := fun w' _ X a' o _ ha ho _ => by
 have e : ∀ a b : Int, min a b = if b < a then b else a := fun a b => by simp only [Int.min_def]; split <;> split <;> omega
 unfold execOp; rw [ho]
 simp [resolve, invoke, builtin, ha.ev hx, ha.ev hy, ha.ev hz, Sem.run_bind, Result.andThen, Builtin.min_, Builtin.min2, e]
theorem Rq_build4 {T i j m q : Nat} {x y z u' : Operand} {v u t s : Value} {F : Value → Value → Value → Value → List Value} (hb : ∀ v u t s w, one1 v = true → one1 u = true → one1 t = true → one1 s = true → (Instr.build T #[(i, v), (j, u), (m, t), (q, s)]).run P w = .ok (.agg (F v u t s).toArray) w)
  (hx : ev l x = some v) (hy : ev l y = some u) (hz : ev l z = some t) (hu : ev l u' = some s) (ho : one1 v = true) (ho' : one1 u = true) (ho'' : one1 t = true) (ho3 : one1 s = true) :
  Rq P (.build T #[(i, x), (j, y), (m, z), (q, u')]) ty l w (.agg (F v u t s).toArray) := fun w' _ X a o _ ha hop _ => by
 unfold execOp; rw [hop]; simp [ha.ev hx, ha.ev hy, ha.ev hz, ha.ev hu, hb v u t s w' ho ho' ho'' ho3, Sem.run_bind, Result.andThen]
end
theorem CoO.frR {EC EO ER B T : Nat} {C : Co} {v : Value} {w w' : World} (h1 : EC ≠ T) (h2 : EO ≠ T) (h3 : ER ≠ T) (h : CoO EC EO ER B w v C) (hc : Below w.heap.size w w' ∨ ∃ b cs, Blk w b cs T ∧ Chg (· = b) w w') : CoO EC EO ER B w' v C := by
 obtain ⟨a, b, c, e, g1, g2, g3⟩ := h;exact ⟨a, b, c, e, OS.frR h1 g1 hc, OS.frR h2 g2 hc, OS.frR h3 g3 hc⟩
theorem tmod_bd {a n : Int} (ha : 0 ≤ a) (hn : 0 < n) : 0 ≤ a.tmod n ∧ a.tmod n < n := ⟨Int.tmod_nonneg _ ha, Int.tmod_lt_of_pos _ hn⟩
theorem tdiv_bd {a n : Int} (ha : 0 < a) (hn : 2 ≤ n) : 0 ≤ a.tdiv n ∧ a.tdiv n < a := ⟨Int.tdiv_nonneg (by omega) (by omega), by
 rw [Int.tdiv_eq_ediv_of_nonneg (by omega)]; exact Int.ediv_lt_self_of_pos_of_ne_one ha (by omega)⟩
/-- four bytes -/
structure Qd where
 p : Int
 q : Int
 r : Int
 s : Int
def encQ (x : Qd) : List Value := [.int .u8 x.p, .int .u8 x.q, .int .u8 x.r, .int .u8 x.s]
def okQ (x : Qd) : Prop := (0 ≤ x.p ∧ x.p ≤ 255) ∧ (0 ≤ x.q ∧ x.q ≤ 255) ∧ (0 ≤ x.r ∧ x.r ≤ 255) ∧ 0 ≤ x.s ∧ x.s ≤ 255
/-! made cores -/
def chA : Ch := ⟨⟨#[97]⟩, -1, 2⟩
def chB : Ch := ⟨⟨#[98]⟩, 0, 2⟩
/-- an operation of a made core -/
def gOp (i : Nat) (y : Ot) : Prop := isOpB 2 i y = true ∧ y.code ≠ 4
structure GoodC (C : Co) : Prop where
 ch : C.ch = [chA, chB]
 len : 4 ≤ C.ops.length ∧ C.ops.length ≤ 34
 ops : ∀ (j : Nat) (y : Ot), C.ops[j]? = some y → gOp j y
 roots : C.roots.length = 3
 rt : ∀ n ∈ C.roots, 0 ≤ n ∧ n < C.ops.length
theorem GoodC.check {C : Co} (h : GoodC C) : checkR C = 0 := by
 have h1 := h.len; have h2 := h.roots
 refine check_mk ⟨by rw [h.ch]; decide, by omega, by omega⟩ (by rw [h.ch]; decide) h.rt fun j x hj => ?_
 rw [h.ch]; exact (h.ops j x hj).1
theorem gOp_leaf {i : Nat} {c n : Int} (h : (c = 1 ∧ -9999 ≤ n ∧ n ≤ 9999) ∨ (c = 2 ∧ 1 ≤ n ∧ n ≤ 4) ∨ (c = 3 ∧ 0 ≤ n ∧ n ≤ 1)) : gOp i ⟨c, 0, 0, 0, n⟩ := by
 refine ⟨?_, by dsimp only; omega⟩;rw [opnd_iff]
 have ha : arN c = 0 := by unfold arN; rw [if_pos (by omega)]
 dsimp only
 rw [ha];refine ⟨⟨by omega, by omega, ?_⟩, by omega, by omega, by omega, fun _ => rfl, fun _ => rfl, fun _ => rfl⟩
 rcases h with ⟨rfl, h⟩ | ⟨rfl, h⟩ | ⟨rfl, h⟩ <;> simp [isNumB, withinB] <;> omega
theorem gOp_one {i : Nat} {c a : Int} (h : c = 5 ∨ c = 6) (h0 : 0 ≤ a) (h1 : a < i) : gOp i ⟨c, a, 0, 0, 0⟩ := by
 refine ⟨?_, by dsimp only; omega⟩;rw [opnd_iff]
 have ha : arN c = 1 := by rcases h with rfl | rfl <;> rfl
 dsimp only
 rw [ha];refine ⟨⟨by omega, by omega, ?_⟩, fun _ => ⟨h0, h1⟩, by omega, by omega, by omega, fun _ => rfl, fun _ => rfl⟩
 rcases h with rfl | rfl <;> rfl
theorem gOp_two {i : Nat} {c a b : Int} (h : 7 ≤ c) (h' : c ≤ 16) (h0 : 0 ≤ a) (h1 : a < i) (g0 : 0 ≤ b) (g1 : b < i) : gOp i ⟨c, a, b, 0, 0⟩ := by
 refine ⟨?_, by dsimp only; omega⟩;rw [opnd_iff]
 have ha : arN c = 2 := by unfold arN; rw [if_neg (by omega), if_neg (by omega), if_pos (by omega)]
 dsimp only
 rw [ha];refine ⟨⟨by omega, by omega, ?_⟩, fun _ => ⟨h0, h1⟩, fun _ => ⟨g0, g1⟩, by omega, by omega, by omega, fun _ => rfl⟩
 simp [isNumB]; (repeat' split) <;> omega
theorem gOp_three {i : Nat} {a b c : Int} (h0 : 0 ≤ a) (h1 : a < i) (g0 : 0 ≤ b) (g1 : b < i) (k0 : 0 ≤ c) (k1 : c < i) : gOp i ⟨17, a, b, c, 0⟩ := by
 refine ⟨?_, by dsimp only; omega⟩;rw [opnd_iff];have ha : arN 17 = 3 := rfl
 dsimp only
 rw [ha];exact ⟨⟨by omega, by omega, rfl⟩, fun _ => ⟨h0, h1⟩, fun _ => ⟨g0, g1⟩, fun _ => ⟨k0, k1⟩, by omega, by omega, by omega⟩
theorem gOps_snoc {l : List Ot} {y : Ot} (h : ∀ (j : Nat) (x : Ot), l[j]? = some x → gOp j x) (hy : gOp l.length y) : ∀ (j : Nat) (x : Ot), (l ++ [y])[j]? = some x → gOp j x := fun j x hj => by
 by_cases hl : j < l.length
 ·rw [List.getElem?_append_left hl] at hj; exact h j x hj
 ·have := (List.getElem?_eq_some_iff.1 hj).1
  simp at this
  have : j = l.length := by omega
  subst this
  simp at hj; subst hj; exact hy
/-- the first operations of a made core -/
def ops4 : List Ot := [⟨3, 0, 0, 0, 0⟩, ⟨3, 0, 0, 0, 1⟩, ⟨1, 0, 0, 0, 0⟩, ⟨1, 0, 0, 0, 1⟩]
theorem gOps4 : ∀ (j : Nat) (x : Ot), ops4[j]? = some x → gOp j x := fun j x hj => by
 match j with
 | 0 => cases hj; exact gOp_leaf (by decide)
 | 1 => cases hj; exact gOp_leaf (by decide)
 | 2 => cases hj; exact gOp_leaf (by decide)
 | 3 => cases hj; exact gOp_leaf (by decide)
 | j + 4 => simp [ops4] at hj
/-! sums -/
def osum (l : List Ot) (k : Nat) : Int := ((l.take k).map opsum).sum
def rsum (l : List Int) (k : Nat) : Int := ((l.take k).map (· + 1)).sum
theorem osum_succ {l : List Ot} {k : Nat} {y : Ot} (h : l[k]? = some y) : osum l (k + 1) = osum l k + opsum y := by
 unfold osum; rw [take_succ_get h, List.map_append, List.sum_append]; simp
theorem rsum_succ {l : List Int} {k : Nat} {y : Int} (h : l[k]? = some y) : rsum l (k + 1) = rsum l k + (y + 1) := by
 unfold rsum; rw [take_succ_get h, List.map_append, List.sum_append]; simp
theorem sum_part {l : List Int} (h : ∀ n ∈ l, 0 ≤ n) (k : Nat) : 0 ≤ (l.take k).sum ∧ (l.take k).sum ≤ l.sum := by
 have h1 : 0 ≤ (l.take k).sum := sum_nonneg fun n hn => h n (List.mem_of_mem_take hn)
 have h2 : 0 ≤ (l.drop k).sum := sum_nonneg fun n hn => h n (List.mem_of_mem_drop hn)
 have h3 : l.sum = (l.take k).sum + (l.drop k).sum := by rw [← List.sum_append, List.take_append_drop]
 omega
theorem refs_part {C : Co} (hck : checkR C = 0) (k m : Nat) : 0 ≤ osum C.ops k ∧ 0 ≤ rsum C.roots m ∧ osum C.ops k + rsum C.roots m ≤ 50000000 := by
 obtain ⟨_, hr, hops⟩ := check_ok hck;have hb := refs_bound hck
 have h1 := sum_part (l := C.ops.map opsum) (fun n hn => by
  obtain ⟨x, hx, rfl⟩ := List.mem_map.1 hn;obtain ⟨k, hk⟩ := List.getElem?_of_mem hx
  exact opsum_nonneg (hops k x hk)) k
 have h2 := sum_part (l := C.roots.map (· + 1)) (fun n hn => by
  obtain ⟨x, hx, rfl⟩ := List.mem_map.1 hn
  have := hr x hx; omega) m
 rw [← List.map_take] at h1 h2
 unfold refsR at hb
 unfold osum rsum
 omega
theorem refs_all (C : Co) : refsR C = osum C.ops C.ops.length + rsum C.roots C.roots.length := by
 unfold refsR osum rsum; rw [List.take_length, List.take_length]
theorem opsum_code {x : Ot} (h : 1 ≤ x.code) (h' : x.code ≤ 17) : opsum x = (if 5 ≤ x.code then x.a + 1 else 0) + (if 7 ≤ x.code then x.b + 1 else 0) + (if x.code = 17 then x.c + 1 else 0) := by
 rw [opsum_eq];have := arN_case h h'
 (repeat' split) <;> omega
/-! the rewrites that a core can have -/
def canL (C : Co) (n : Nat) : List Rw := (List.range n).flatMap fun (o : Nat) => (rulesC C (o : Int)).map fun r => ⟨r, (o : Int)⟩
theorem canL_succ (C : Co) (n : Nat) : canL C (n + 1) = canL C n ++ (rulesC C (n : Int)).map fun r => ⟨r, (n : Int)⟩ := by
 unfold canL; rw [List.range_succ, List.flatMap_append]; simp
theorem rulesC_len (C : Co) (j : Int) : (rulesC C j).length ≤ 11 := by
 show (rl (fun r => (atC C r j).ap) 11).length ≤ 11
 unfold rl
 refine Nat.le_trans (List.length_filter_le _ _) ?_
 simp
theorem canL_len (C : Co) : ∀ n : Nat, (canL C n).length ≤ 11 * n
 | 0 => by simp [canL]
 | n + 1 => by rw [canL_succ, List.length_append, List.length_map]; have := canL_len C n; have := rulesC_len C (n : Int); omega
theorem rulesC_mem {C : Co} {r j : Int} (h : r ∈ rulesC C j) : (atC C r j).ap = true := by
 have h' : r ∈ rl (fun r => (atC C r j).ap) 11 := h
 unfold rl at h'
 rw [List.mem_filter] at h';exact h'.2
theorem canL_mem {C : Co} {n : Nat} {r : Rw} (h : r ∈ canL C n) : 0 ≤ r.op ∧ r.op < n ∧ (atC C r.rule r.op).ap = true := by
 unfold canL at h
 rw [List.mem_flatMap] at h;obtain ⟨o, ho, hr⟩ := h;rw [List.mem_map] at hr;obtain ⟨q, hq, rfl⟩ := hr;rw [List.mem_range] at ho;exact ⟨by dsimp only; omega, by dsimp only; omega, rulesC_mem hq⟩
theorem canL_nil {C : Co} {n : Nat} (h : canL C n = []) : ∀ j : Nat, j < n → rulesC C (j : Int) = [] := by
 unfold canL at h
 rw [List.flatMap_eq_nil_iff] at h;intro j hj;exact List.map_eq_nil_iff.1 (h j (List.mem_range.2 hj))
theorem replay_one {C : Co} (hck : checkR C = 0) {r : Rw} (h0 : 0 ≤ r.op) (h1 : r.op < C.ops.length) (h : (atC C r.rule r.op).ap = true) : replayR C [r] = (appR C r, 1, 0) := by
 have ha : applyR C r = (appR C r, 0) := by unfold applyR; rw [if_neg (by omega), if_neg (by rw [h]; decide)]
 unfold replayR
 rw [if_neg (by simp [hck]), if_neg (by simp)]
 simp [replayF, ha]
theorem appR_len (C : Co) (r : Rw) : (appR C r).ch = C.ch ∧ (appR C r).ops.length = C.ops.length ∧ (appR C r).roots.length = C.roots.length := by
 unfold appR outC; split <;> simp
theorem CoO.le {EC EO ER B B' : Nat} {C : Co} {v : Value} {w : World} (h : CoO EC EO ER B w v C) (hB : B' ≤ B) : CoO EC EO ER B' w v C := by
 obtain ⟨a, b, c, e, g1, g2, g3⟩ := h;exact ⟨a, b, c, e, g1.le hB, g2.le hB, g3.le hB⟩
structure Ex where
 i : Nat
 C : Co
 v1 : Value
 v2 : Value
 v3 : Value
end Go.Mi
