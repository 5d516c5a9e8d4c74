/- The cells of a core's operations, and that rewrites, and tidying, keep those of its roots. No program's text. -/
import Derived.Test.YtphmoebiobjfhaaGreatCo
import Derived.Test.YtphmoebiobjfhaaGreatPl
set_option linter.all false
namespace Go.Mi
open Go
def gV (l : List Vl) (i : Int) : Vl := l.getD i.toNat ⟨0, 0⟩
/-- the cell of an operation, by those of earlier ones -/
def cellE (wd : List Int) (V : Int → Vl) (x : Ot) : Vl :=
 if x.code = 1 then mkV x.n else if x.code = 2 then ⟨x.n, 0⟩ else if x.code = 3 then mkV (wd.getD x.n.toNat 0) else if x.code = 4 then ⟨0, 0⟩
 else if x.code = 5 ∨ x.code = 6 then (op1R x.code (V x.a)).1 else if x.code = 17 then (chooseR (V x.a) (V x.b) (V x.c)).1 else (op2R x.code (V x.a) (V x.b)).1
def cellsF (wd : List Int) (ops : List Ot) : List Vl := ops.foldl (fun l x => l ++ [cellE wd (gV l) x]) []
theorem cellsF_snoc (wd : List Int) (l : List Ot) (x : Ot) : cellsF wd (l ++ [x]) = cellsF wd l ++ [cellE wd (gV (cellsF wd l)) x] := by unfold cellsF; rw [List.foldl_append]; rfl
theorem cellsF_len (wd : List Int) (l : List Ot) : (cellsF wd l).length = l.length := by
 refine snoc_ind (p := fun l => (cellsF wd l).length = l.length) rfl (fun l x ih => ?_) l;rw [cellsF_snoc, List.length_append, List.length_append, ih]; rfl
theorem cellsF_take (wd : List Int) (l : List Ot) (m : Nat) : (cellsF wd l).take m = cellsF wd (l.take m) := by
 refine snoc_ind (p := fun l => ∀ m, (cellsF wd l).take m = cellsF wd (l.take m)) (fun n => by simp [cellsF]) (fun l x ih n => ?_) l m;rw [cellsF_snoc]
 rcases Nat.lt_or_ge l.length n with h | h
 ·rw [List.take_of_length_le (by rw [List.length_append, cellsF_len, List.length_singleton]; omega), List.take_of_length_le (by rw [List.length_append, List.length_singleton]; omega), cellsF_snoc]
 ·rw [List.take_append_of_le_length (by rw [cellsF_len]; omega), List.take_append_of_le_length h, ih]
theorem cellE_hi {wd : List Int} {V : Int → Vl} {x : Ot} (h : 5 ≤ x.code) : cellE wd V x = if x.code = 5 ∨ x.code = 6 then (op1R x.code (V x.a)).1 else if x.code = 17 then (chooseR (V x.a) (V x.b) (V x.c)).1 else (op2R x.code (V x.a) (V x.b)).1 := by
 rw [cellE, if_neg (by omega), if_neg (by omega), if_neg (by omega), if_neg (by omega)]
theorem cellE_lo {wd : List Int} {V V' : Int → Vl} {x : Ot} (h1 : 1 ≤ x.code) (h : x.code ≤ 4) : cellE wd V x = cellE wd V' x := by
 unfold cellE; (repeat' split) <;> first | rfl | omega
theorem cellE_congr {wd : List Int} {V V' : Int → Vl} {x : Ot} (h1 : 1 ≤ x.code) (h2 : x.code ≤ 17) (h : ∀ n ∈ opsOf x, V n = V' n) : cellE wd V x = cellE wd V' x := by
 have hc := arN_case h1 h2
 by_cases e1 : x.code ≤ 4
 ·exact cellE_lo h1 e1
 ·rw [cellE_hi (by omega), cellE_hi (by omega), h _ (mem_a (by omega))]
  by_cases e2 : x.code = 5 ∨ x.code = 6
  ·rw [if_pos e2, if_pos e2]
  ·rw [if_neg e2, if_neg e2, h _ (mem_b (by omega))]
   by_cases e3 : x.code = 17
   ·rw [if_pos e3, if_pos e3, h _ (mem_c (by omega))]
   ·rw [if_neg e3, if_neg e3]
/-- an operation with other operands, but their cells -/
theorem cellE_same {wd : List Int} {V V' : Int → Vl} {x y : Ot} (h1 : 1 ≤ x.code) (h2 : x.code ≤ 17) (hc : y.code = x.code) (hn : y.n = x.n) (ea : 5 ≤ x.code → V' y.a = V x.a) (eb : 7 ≤ x.code → V' y.b = V x.b) (ec : x.code = 17 → V' y.c = V x.c) : cellE wd V x = cellE wd V' y := by
 by_cases h4 : x.code ≤ 4
 ·unfold cellE; rw [hc, hn]; (repeat' split) <;> first | rfl | omega
 ·rw [cellE_hi (by omega), cellE_hi (by omega), hc, ea (by omega)]
  by_cases h5 : x.code = 5 ∨ x.code = 6
  ·rw [if_pos h5, if_pos h5]
  ·rw [if_neg h5, if_neg h5, eb (by omega)]
   by_cases h17 : x.code = 17
   ·rw [if_pos h17, if_pos h17, ec h17]
   ·rw [if_neg h17, if_neg h17]
def VK (wd : List Int) (C : Co) (i : Int) : Vl := gV (cellsF wd C.ops) i
def evalR (wd : List Int) (C : Co) : List Vl := C.roots.map (VK wd C)
theorem VK_at {wd : List Int} {C : Co} (hck : checkR C = 0) {i : Int} (h0 : 0 ≤ i) (h1 : i < C.ops.length) : VK wd C i = cellE wd (VK wd C) (getO C.ops i) := by
 obtain ⟨k, rfl⟩ := Int.eq_ofNat_of_zero_le h0;have hx := getO_some h0 h1;rw [Int.toNat_natCast] at hx
 have hget : ∀ (m : Nat) (j : Int), 0 ≤ j → j < m → gV (cellsF wd (C.ops.take m)) j = VK wd C j := fun m j hj hm => by
  rw [← cellsF_take]
  unfold VK gV
  rw [List.getD_eq_getElem?_getD, List.getD_eq_getElem?_getD, List.getElem?_take, if_pos (by omega)]
 rw [← hget (k + 1) k (by omega) (by omega), take_succ_get hx, cellsF_snoc]
 have hl : (cellsF wd (C.ops.take k)).length = k := by rw [cellsF_len]; simp; omega
 have e2 : ∀ u : Vl, gV (cellsF wd (C.ops.take k) ++ [u]) (k : Int) = u := fun u => by
  unfold gV; rw [Int.toNat_natCast, List.getD_eq_getElem?_getD, List.getElem?_append_right (by omega), hl]; simp
 rw [e2];have hop := ops_at hck h0 h1;obtain ⟨⟨c1, c2, _⟩, _⟩ := opnd_iff.1 hop
 refine cellE_congr c1 c2 fun n hn => ?_
 have := opsOf_bd hck h0 h1 n hn;exact hget k n this.1 (by omega)
theorem VK_uniq {wd : List Int} {C : Co} (hck : checkR C = 0) {V : Int → Vl} (hV : ∀ i : Int, 0 ≤ i → i < C.ops.length → V i = cellE wd V (getO C.ops i)) : ∀ (m : Nat) (i : Int), 0 ≤ i → i < C.ops.length → i < m → V i = VK wd C i
 | 0, i, h0, _, hm => by omega
 | m + 1, i, h0, h1, hm => by
  rw [hV i h0 h1, VK_at hck h0 h1];obtain ⟨⟨c1, c2, _⟩, _⟩ := opnd_iff.1 (ops_at hck h0 h1)
  refine cellE_congr c1 c2 fun n hn => ?_
  have := opsOf_bd hck h0 h1 n hn;exact VK_uniq hck hV m n this.1 (by omega) (by omega)
/-! values -/
theorem op1_case {c : Int} {a : Vl} (h : c = 5 ∨ c = 6) (ha : isCellB a = true) : op1R c a = if a.f ≠ 0 then (a, 0) else (soloR c a.n, 0) := by
 rw [op1R, if_neg]; rcases h with e | e <;> simp [isSolo, e, ha]
theorem choose_case {a b c : Vl} (ha : isCellB a = true) (hb : isCellB b = true) (hc : isCellB c = true) : chooseR a b c = if a.f ≠ 0 then (a, 0) else if a.n = 0 then (c, 0) else (b, 0) := by
 rw [chooseR, if_neg (by simp [areCellsB, ha, hb, hc])]
theorem op2_case {c : Int} {a b : Vl} (h : 7 ≤ c) (h' : c ≤ 14) (ha : isCellB a = true) (hb : isCellB b = true) : op2R c a b = if a.f ≠ 0 then (a, 0) else if b.f ≠ 0 then (b, 0) else (duoR c a.n b.n, 0) := by
 rw [op2R, if_neg (by omega), if_neg (by omega), if_neg (by simp [areCellsB, ha, hb, isDuo, h, h'])]
theorem mkV_in {n : Int} (h : -9999 ≤ n ∧ n ≤ 9999) : mkV n = ⟨0, n⟩ := by rw [mkV, if_pos h]
theorem cellN (n : Int) (h : -9999 ≤ n ∧ n ≤ 9999) : isCellB ⟨0, n⟩ = true := by simp [isCellB, h]
theorem op2_fault {c : Int} {a b : Vl} (h : 7 ≤ c) (h' : c ≤ 16) (ha : isCellB a = true) (hb : isCellB b = true) (hf : a.f ≠ 0) : (op2R c a b).1 = a := by
 by_cases h15 : c = 15
 ·rw [op2R, if_pos h15, choose_case ha hb (cell_mkV _), if_pos hf]
 ·by_cases h16 : c = 16
  ·rw [op2R, if_neg h15, if_pos h16, choose_case ha (cell_mkV _) hb, if_pos hf]
  ·rw [op2_case h (by omega) ha hb, if_pos hf]
/-- what is known of the cells of a core -/
structure Vs (wd : List Int) (C : Co) (V : Int → Vl) : Prop where
 at_ : ∀ j : Int, 0 ≤ j → j < C.ops.length → V j = cellE wd V (getO C.ops j)
 ok : ∀ j : Int, 0 ≤ j → j < C.ops.length → isCellB (V j) = true ∧ 0 ≤ (V j).f ∧ (V j).f ≤ 4
 tr : ∀ j : Int, 0 ≤ j → j < C.ops.length → getB (truthsR C.ops) j = true → (V j).f ≠ 0 ∨ (V j).n = 0 ∨ (V j).n = 1
theorem numB {nch : Nat} {x : Ot} (h : isNumB nch x = true) : (x.code = 1 → -9999 ≤ x.n ∧ x.n ≤ 9999) ∧ (x.code = 2 → 1 ≤ x.n ∧ x.n ≤ 4) := by
 constructor <;> intro e <;> simpa [isNumB, e, within1] using h
theorem VK_ok {wd : List Int} {C : Co} (hck : checkR C = 0) : ∀ (m : Nat) (j : Int), 0 ≤ j → j < C.ops.length → j < m → isCellB (VK wd C j) = true ∧ 0 ≤ (VK wd C j).f ∧ (VK wd C j).f ≤ 4
 | 0, j, h0, _, hm => by omega
 | m + 1, j, h0, h1, hm => by
  rw [VK_at hck h0 h1]
  obtain ⟨x, hx⟩ : ∃ x, getO C.ops j = x := ⟨_, rfl⟩
  have hop := ops_at hck h0 h1
  have ih : ∀ n ∈ opsOf x, 0 ≤ (VK wd C n).f ∧ (VK wd C n).f ≤ 4 := fun n hn => by
   rw [← hx] at hn;have := opsOf_bd hck h0 h1 n hn;exact (VK_ok hck m n this.1 (by omega) (by omega)).2
  rw [hx] at hop ⊢;obtain ⟨⟨c1, c2, c3⟩, _⟩ := opnd_iff.1 hop;have hc := arN_case c1 c2;have hn := numB c3
  unfold cellE
  split
  ·exact ⟨cell_mkV _, mkV_f _⟩
  split
  ·rename_i h2; have := hn.2 h2; refine ⟨?_, ?_⟩
   ·simp [isCellB]; omega
   ·show 0 ≤ x.n ∧ x.n ≤ 4; omega
  split
  ·exact ⟨cell_mkV _, mkV_f _⟩
  split
  ·exact ⟨rfl, by decide, by decide⟩
  have hA := ih _ (mem_a (x := x) (by omega))
  split
  ·exact ⟨cell_op1R, op1R_f hA⟩
  have hB := ih _ (mem_b (x := x) (by omega))
  split
  ·exact ⟨cell_chooseR, chooseR_f hA hB (ih _ (mem_c (by omega)))⟩
  ·exact ⟨cell_op2R, op2R_f hA hB⟩
theorem truthV_01 (b : Bool) : (truthV b).n = 0 ∨ (truthV b).n = 1 := by cases b <;> simp [truthV]
theorem VK_tr {wd : List Int} {C : Co} (hck : checkR C = 0) : ∀ (m : Nat) (j : Int), 0 ≤ j → j < C.ops.length → j < m → getB (truthsR C.ops) j = true → (VK wd C j).f ≠ 0 ∨ (VK wd C j).n = 0 ∨ (VK wd C j).n = 1
 | 0, j, h0, _, hm => by omega
 | m + 1, j, h0, h1, hm => by
  intro ht;rw [truth_at hck h0 h1] at ht;rw [VK_at hck h0 h1]
  obtain ⟨x, hx⟩ : ∃ x, getO C.ops j = x := ⟨_, rfl⟩
  have hop := ops_at hck h0 h1
  have ih : ∀ n ∈ opsOf x, isCellB (VK wd C n) = true ∧ (getB (truthsR C.ops) n = true → (VK wd C n).f ≠ 0 ∨ (VK wd C n).n = 0 ∨ (VK wd C n).n = 1) := fun n hn => by
   rw [← hx] at hn;have := opsOf_bd hck h0 h1 n hn;exact ⟨(VK_ok hck C.ops.length n this.1 (by omega) (by omega)).1, VK_tr hck m n this.1 (by omega) (by omega)⟩
  rw [hx] at hop ht ⊢;obtain ⟨⟨c1, c2, c3⟩, _⟩ := opnd_iff.1 hop;have hc := arN_case c1 c2;have hn := numB c3
  unfold truthB at ht
  unfold cellE
  split
  ·rename_i h1
   rw [if_neg (by omega), if_pos h1] at ht
   simp at ht
   rw [mkV_in (hn.1 h1)]; right; exact ht
  split
  ·rename_i h2; left; have := hn.2 h2; show x.n ≠ 0; omega
  split
  ·rename_i h3; rw [if_neg (by omega), if_neg (by omega), if_neg (by omega), if_neg (by omega)] at ht; cases ht
  split
  ·rename_i h3; rw [if_neg (by omega), if_neg (by omega), if_neg (by omega), if_neg (by omega)] at ht; cases ht
  have hA := ih _ (mem_a (x := x) (by omega))
  split
  ·rename_i h56
   rw [op1_case h56 hA.1]
   split
   ·left; assumption
   ·rcases h56 with e | e
    ·rw [if_neg (by omega), if_neg (by omega), if_neg (by omega), if_neg (by omega)] at ht; cases ht
    ·right; rw [soloR, if_neg (by omega)]; exact truthV_01 _
  have hB := ih _ (mem_b (x := x) (by omega))
  split
  ·rename_i h17
   have hC := ih _ (mem_c (x := x) (by omega));rw [if_neg (by omega), if_neg (by omega), if_neg (by omega), if_pos h17, Bool.and_eq_true] at ht;rw [choose_case hA.1 hB.1 hC.1]
   split
   ·left; assumption
   ·split
    ·exact hC.2 ht.2
    ·exact hB.2 ht.1
  ·by_cases h15 : x.code = 15
   ·rw [if_neg (by omega), if_neg (by omega), if_pos (by omega)] at ht
    rw [op2R, if_pos h15, choose_case hA.1 hB.1 (cell_mkV _)]
    split
    ·left; assumption
    ·split
     ·right; left; rfl
     ·exact hB.2 ht
   ·by_cases h16 : x.code = 16
    ·rw [if_neg (by omega), if_neg (by omega), if_pos (by omega)] at ht
     rw [op2R, if_neg h15, if_pos h16, choose_case hA.1 (cell_mkV _) hB.1]
     split
     ·left; assumption
     ·split
      ·exact hB.2 ht
      ·right; right; rfl
    ·have h12 : x.code = 12 ∨ x.code = 13 ∨ x.code = 14 := Classical.byContradiction fun hno => by
      rw [if_neg (by omega), if_neg (by omega), if_neg (by omega), if_neg (by omega)] at ht; cases ht
     rw [op2_case (by omega) (by omega) hA.1 hB.1]
     split
     ·left; assumption
     ·split
      ·left; assumption
      ·right; rw [duoR, if_neg (by omega), if_neg (by omega), if_neg (by omega), if_neg (by omega), if_neg (by omega)]
       (repeat' split) <;> exact truthV_01 _
theorem Vs.of {wd : List Int} {C : Co} (hck : checkR C = 0) : Vs wd C (VK wd C) :=
 ⟨fun j h0 h1 => VK_at hck h0 h1, fun j h0 h1 => VK_ok hck C.ops.length j h0 h1 h1, fun j h0 h1 => VK_tr hck C.ops.length j h0 h1 h1⟩
/-- what stands for an operation, or what it becomes, has its cell -/
def Kp (wd : List Int) (V : Int → Vl) (i : Int) (o : Oc) : Prop := o.ap = true → (o.st = -1 → cellE wd V o.be = V i) ∧ (0 ≤ o.st → V o.st = V i)
theorem Kp.oc0 {wd : List Int} {V : Int → Vl} {i : Int} : Kp wd V i oc0 := fun h => by cases h
theorem Kp.stand {wd : List Int} {V : Int → Vl} {i n : Int} (h0 : 0 ≤ n) (h : V n = V i) : Kp wd V i (stand n) := fun _ => ⟨fun e => by have : n = -1 := e; omega, fun _ => h⟩
theorem Kp.become {wd : List Int} {V : Int → Vl} {i : Int} {x : Ot} (h : cellE wd V x = V i) : Kp wd V i (becomeO x) := fun _ => ⟨fun _ => h, fun e => by have : (0 : Int) ≤ -1 := e; omega⟩
theorem Kp.fin {wd : List Int} {V : Int → Vl} {i : Int} {v : Vl} (h : isCellB v = true) (hf : 0 ≤ v.f) (e : v = V i) : Kp wd V i (finR v) := by
 unfold finR
 rcases isCell_spec h hf with g | g
 ·rw [if_neg (by omega)]
  refine .become ?_;rw [← e, cellE, if_pos rfl]
  show mkV v.n = v
  rw [mkV_in g.2]; cases v; simp at g; simp [g]
 ·rw [if_pos (by omega)]
  refine .become ?_;rw [← e, cellE, if_neg (by show ¬ (2 : Int) = 1; decide), if_pos rfl]
  show (⟨v.f, 0⟩ : Vl) = v
  cases v; simp at g; simp [g]
theorem eta0 {v : Vl} (h : v.f = 0) : (⟨0, v.n⟩ : Vl) = v := by cases v; simp at h; simp [h]
theorem duo_b {c u : Int} {v : Vl} (hv : isCellB v = true) (hf : 0 ≤ v.f) (h : ((c = 7 ∨ c = 8) ∧ u = 0) ∨ ((c = 9 ∨ c = 10) ∧ u = 1)) : (op2R c v ⟨0, u⟩).1 = v := by
 rw [op2_case (by omega) (by omega) hv (cellN _ (by omega))]
 rcases isCell_spec hv hf with g | g
 ·rw [if_neg (by omega), if_neg (by simp)]
  show duoR c v.n u = v
  rcases h with ⟨rfl | rfl, rfl⟩ | ⟨rfl | rfl, rfl⟩ <;> simp [duoR, quotR] <;> rw [mkV_in g.2] <;> exact eta0 g.1
 ·rw [if_pos (by omega)]
theorem duo_a {c u : Int} {v : Vl} (hv : isCellB v = true) (hf : 0 ≤ v.f) (h : (c = 7 ∧ u = 0) ∨ (c = 9 ∧ u = 1)) : (op2R c ⟨0, u⟩ v).1 = v := by
 rw [op2_case (by omega) (by omega) (cellN _ (by omega)) hv, if_neg (by simp)]
 rcases isCell_spec hv hf with g | g
 ·rw [if_neg (by omega)]
  show duoR c u v.n = v
  rcases h with ⟨rfl, rfl⟩ | ⟨rfl, rfl⟩ <;> simp [duoR] <;> rw [mkV_in g.2] <;> exact eta0 g.1
 ·rw [if_pos (by omega)]
theorem keep_rule {wd : List Int} {C : Co} (hck : checkR C = 0) {r i : Int} (h0 : 0 ≤ i) (h1 : i < C.ops.length) (hr : 1 ≤ r ∧ r ≤ 11) : Kp wd (VK wd C) i (ruleR C.ops (truthsR C.ops) (mget (firstR C.ops)) r i) := by
 have hv := Vs.of (wd := wd) hck
 obtain ⟨V, hVe⟩ : ∃ V, VK wd C = V := ⟨_, rfl⟩
 rw [hVe] at hv ⊢
 obtain ⟨x, hx⟩ : ∃ x, getO C.ops i = x := ⟨_, rfl⟩
 have hop := ops_at hck h0 h1;rw [hx] at hop;obtain ⟨⟨c1, c2, c3⟩, ha, hb, hc, _⟩ := opnd_iff.1 hop;have hcase := arN_case c1 c2
 have hti : (i.toNat : Int) = i := by omega
 rw [hti] at ha hb hc
 have ha' : 5 ≤ x.code → 0 ≤ x.a ∧ x.a < i := fun h => ha (by omega)
 have hb' : 7 ≤ x.code → 0 ≤ x.b ∧ x.b < i := fun h => hb (by omega)
 have hc' : x.code = 17 → 0 ≤ x.c ∧ x.c < i := fun h => hc (by omega)
 have okA : 5 ≤ x.code → isCellB (V x.a) = true ∧ 0 ≤ (V x.a).f ∧ (V x.a).f ≤ 4 := fun h => hv.ok _ (ha' h).1 (by have := ha' h; omega)
 have okB : 7 ≤ x.code → isCellB (V x.b) = true ∧ 0 ≤ (V x.b).f ∧ (V x.b).f ≤ 4 := fun h => hv.ok _ (hb' h).1 (by have := hb' h; omega)
 have okC : x.code = 17 → isCellB (V x.c) = true ∧ 0 ≤ (V x.c).f ∧ (V x.c).f ≤ 4 := fun h => hv.ok _ (hc' h).1 (by have := hc' h; omega)
 have hVi := hv.at_ i h0 h1;rw [hx] at hVi
 have v1 : ∀ j : Int, 0 ≤ j → j < C.ops.length → ∀ c, (c = 5 ∨ c = 6) → (getO C.ops j).code = c → V j = if (V (getO C.ops j).a).f ≠ 0 then V (getO C.ops j).a else soloR c (V (getO C.ops j).a).n := fun j g0 g1 c hc5 e => by
  have hopj := ops_at hck g0 g1;have hy := (opnd_lt hopj).1 (by rw [e]; rcases hc5 with rfl | rfl <;> decide);rw [hv.at_ j g0 g1, cellE, if_neg (by omega), if_neg (by omega), if_neg (by omega), if_neg (by omega), if_pos (by omega), e, op1_case hc5 (hv.ok _ hy.1 (by omega)).1]
  split <;> rfl
 have v2 : 7 ≤ x.code → x.code ≤ 16 → V i = (op2R x.code (V x.a) (V x.b)).1 := fun h h' => by
  rw [hVi, cellE, if_neg (by omega), if_neg (by omega), if_neg (by omega), if_neg (by omega), if_neg (by omega), if_neg (by omega)]
 have v3 : x.code = 17 → V i = if (V x.a).f ≠ 0 then V x.a else if (V x.a).n = 0 then V x.c else V x.b := fun h => by
  rw [hVi, cellE, if_neg (by omega), if_neg (by omega), if_neg (by omega), if_neg (by omega), if_neg (by omega), if_pos h, choose_case (okA (by omega)).1 (okB (by omega)).1 (okC h).1]
  split
  ·rfl
  ·split <;> rfl
 have hk1 : ∀ j : Int, 0 ≤ j → j < C.ops.length → (getO C.ops j).code = 1 → V j = ⟨0, (getO C.ops j).n⟩ ∧ -9999 ≤ (getO C.ops j).n ∧ (getO C.ops j).n ≤ 9999 := fun j g0 g1 e => by
  have hn := (numB (opnd_iff.1 (ops_at hck g0 g1)).1.2.2).1 e;exact ⟨by rw [hv.at_ j g0 g1, cellE, if_pos e, mkV_in hn], hn⟩
 have hk2 : ∀ j : Int, 0 ≤ j → j < C.ops.length → (getO C.ops j).code = 2 → V j = ⟨(getO C.ops j).n, 0⟩ ∧ (V j).f ≠ 0 := fun j g0 g1 e => by
  have hn := (numB (opnd_iff.1 (ops_at hck g0 g1)).1.2.2).2 e
  have e2 : V j = ⟨(getO C.ops j).n, 0⟩ := by rw [hv.at_ j g0 g1, cellE, if_neg (by omega), if_pos e]
  exact ⟨e2, by rw [e2]; show (getO C.ops j).n ≠ 0; omega⟩
 have hcell : ∀ j : Int, 0 ≤ j → j < C.ops.length → (cellR (getO C.ops j)).2 ≠ false → (cellR (getO C.ops j)).1 = V j := fun j g0 g1 => by
  unfold cellR
  split
  ·rename_i e; intro _; have := hk1 j g0 g1 e; rw [this.1]; exact mkV_in this.2
  ·split
   ·rename_i e; intro _; exact (hk2 j g0 g1 e).1.symm
   ·intro h; exact absurd rfl h
 have his : ∀ (j u : Int), 0 ≤ j → j < C.ops.length → isR C.ops j u = true → V j = ⟨0, u⟩ := fun j u g0 g1 h => by
  have e : getO C.ops j = ⟨1, 0, 0, 0, u⟩ := by simpa [isR] using h
  have := (hk1 j g0 g1 (by rw [e])).1;rw [this, e]
 have hkn : ∀ code, (knownR C.ops x code).2 ≠ false → x.code = code ∧ (getO C.ops x.a).code = 1 ∧ (knownR C.ops x code).1 = !decide ((getO C.ops x.a).n = 0) := fun code h => by
  unfold knownR at h ⊢
  split at h
  ·exact (h rfl).elim
  ·rename_i hn; rw [if_neg hn]; refine ⟨by omega, by omega, rfl⟩
 have A := fun h => (ha' h).1
 have A' := fun h => show x.a < C.ops.length by have := ha' h; omega
 have B := fun h => (hb' h).1
 have B' := fun h => show x.b < C.ops.length by have := hb' h; omega
 rcases r11 hr.1 hr.2 with rfl | rfl | rfl | rfl | rfl | rfl | rfl | rfl | rfl | rfl | rfl <;> simp only [ruleR, if_true, Int.reduceEq, if_false, hx]
 ·unfold workR
  split; exact .oc0
  rename_i hg
  split; exact .oc0
  rename_i hka
  have eA := hcell x.a (A (by omega)) (A' (by omega)) hka;rw [eA]
  split
  ·rename_i hne
   split; exact .oc0
   rename_i hkb
   have h7 : 7 ≤ x.code := Int.not_lt.1 fun hlt => hne (by rw [op1_case (by omega) (okA (by omega)).1]; split <;> rfl)
   have eB := hcell x.b (B h7) (B' h7) hkb;rw [eB];exact .fin cell_op2R (op2R_f (okA (by omega)).2 (okB h7).2).1 (v2 h7 (by omega)).symm
  ·rename_i he
   have h56 : x.code = 5 ∨ x.code = 6 := Classical.byContradiction fun hno => he (by
    rw [op1R, if_pos (.inl (by simp [isSolo]; omega))]; decide)
   refine .fin cell_op1R (op1R_f (okA (by omega)).2).1 ?_;rw [hVi, cellE, if_neg (by omega), if_neg (by omega), if_neg (by omega), if_neg (by omega), if_pos h56]
 ·unfold faultR
  split; exact .oc0
  rename_i hg
  have hf := (hk2 x.a (A (by omega)) (A' (by omega)) (by omega)).2;refine .stand (A (by omega)) ?_
  by_cases h17 : x.code = 17
  ·rw [v3 h17, if_pos hf]
  ·rw [v2 (by omega) (by omega), op2_fault (by omega) (by omega) (okA (by omega)).1 (okB (by omega)).1 hf]
 ·unfold pickR
  split; exact .oc0
  rename_i hg
  obtain ⟨e, e1, e2⟩ := hkn _ hg;have ka := hk1 x.a (A (by omega)) (A' (by omega)) e1;rw [e2]
  split
  ·rename_i hn
   refine .stand (B (by omega)) ?_;rw [v3 e, ka.1, if_neg (by simp), if_neg (by simpa using hn)]
  ·rename_i hn
   refine .stand (hc' e).1 ?_;rw [v3 e, ka.1, if_neg (by simp), if_pos (by simpa using hn)]
 ·unfold andR
  split; exact .oc0
  rename_i hg
  obtain ⟨e, e1, e2⟩ := hkn _ hg;have ka := hk1 x.a (A (by omega)) (A' (by omega)) e1
  have ev : V i = (chooseR (V x.a) (V x.b) (mkV 0)).1 := by rw [v2 (by omega) (by omega), op2R, if_pos e]
  rw [choose_case (okA (by omega)).1 (okB (by omega)).1 (cell_mkV _), ka.1, if_neg (by simp)] at ev;rw [e2]
  split
  ·rename_i hn
   refine .stand (B (by omega)) ?_;rw [ev, if_neg (by simpa using hn)]
  ·rename_i hn
   refine .stand (A (by omega)) ?_
   have hn : (getO C.ops x.a).n = 0 := by simpa using hn
   rw [ev, if_pos hn, ka.1, hn]; rfl
 ·unfold orR
  split; exact .oc0
  rename_i hg
  obtain ⟨e, e1, e2⟩ := hkn _ hg;have ka := hk1 x.a (A (by omega)) (A' (by omega)) e1
  have ev : V i = (chooseR (V x.a) (mkV 1) (V x.b)).1 := by rw [v2 (by omega) (by omega), op2R, if_neg (by omega), if_pos e]
  rw [choose_case (okA (by omega)).1 (cell_mkV _) (okB (by omega)).1, ka.1, if_neg (by simp)] at ev;rw [e2]
  split
  ·rename_i hn
   refine .become ?_;rw [ev, if_neg (by simpa using hn)]; rfl
  ·rename_i hn
   refine .stand (B (by omega)) ?_;rw [ev, if_pos (by simpa using hn)]
 ·have hunit : ∀ u, ((x.code = 7 ∨ x.code = 8) ∧ u = 0) ∨ ((x.code = 9 ∨ x.code = 10) ∧ u = 1) → Kp wd V i (unit1 C.ops x u) := fun u hu => by
   unfold unit1
   split
   ·rename_i h
    refine .stand (A (by omega)) ?_;rw [v2 (by omega) (by omega), his _ _ (B (by omega)) (B' (by omega)) h, duo_b (okA (by omega)).1 (okA (by omega)).2.1 hu]
   ·split
    ·rename_i h
     refine .stand (B (by omega)) ?_;rw [v2 (by omega) (by omega), his _ _ (A (by omega)) (A' (by omega)) h.2, duo_a (okB (by omega)).1 (okB (by omega)).2.1 (by omega)]
    ·exact .oc0
  unfold unitR
  split
  ·exact hunit _ (by omega)
  ·split
   ·exact hunit _ (by omega)
   ·exact .oc0
 ·unfold twiceR
  split; exact .oc0
  rename_i hg
  split; exact .oc0
  rename_i hg2
  have h56 : x.code = 5 ∨ x.code = 6 := by omega
  have hya := (opnd_lt (ops_at hck (A (by omega)) (A' (by omega)))).1 (by rw [show (getO C.ops x.a).code = x.code by omega]; omega);have hxa := ha' (by omega);have hin := hv.ok (getO C.ops x.a).a hya.1 (by omega);have va := v1 x.a (A (by omega)) (A' (by omega)) x.code h56 (by omega);have vi := v1 i h0 h1 x.code h56 (by rw [hx]);rw [hx] at vi;refine .stand hya.1 ?_
  obtain ⟨y, hy⟩ : ∃ y, V (getO C.ops x.a).a = y := ⟨_, rfl⟩
  have htr := hv.tr (getO C.ops x.a).a hya.1 (by omega);rw [hy] at va hin htr ⊢
  by_cases hf : y.f = 0
  ·have hs : (soloR x.code y.n).f = 0 ∧ soloR x.code (soloR x.code y.n).n = y := by
    have hrg : -9999 ≤ y.n ∧ y.n ≤ 9999 := by rcases isCell_spec hin.1 hin.2.1 with g | g <;> omega
    rcases h56 with e | e
    ·have e1 : soloR x.code y.n = ⟨0, -y.n⟩ := by rw [soloR, if_pos e, mkV_in (by omega)]
     rw [e1];refine ⟨rfl, ?_⟩
     rw [soloR, if_pos e]; show mkV (- -y.n) = y; rw [Int.neg_neg, mkV_in hrg]; exact eta0 hf
    ·have ht : y.n = 0 ∨ y.n = 1 := by
      have := htr (by simpa [e] using hg2)
      rcases this with h | h | h
      ·exact absurd hf h
      ·exact .inl h
      ·exact .inr h
     rw [e];have key := eta0 hf
     rcases ht with h | h <;> rw [h] at key ⊢ <;> exact ⟨rfl, key⟩
   rw [if_neg (by simpa using hf)] at va;rw [vi, va, if_neg (by simpa using hs.1), hs.2]
  ·rw [if_pos hf] at va
   rw [vi, va, if_pos hf]
 ·unfold truthR
  split
  ·rename_i h
   refine .stand (A (by omega)) ?_;have ht := hv.tr x.a (A (by omega)) (A' (by omega)) h.2.1;rw [v3 h.1, his _ _ (B (by omega)) (B' (by omega)) h.2.2.1, his x.c 0 (hc' h.1).1 (by have := hc' h.1; omega) h.2.2.2]
   split
   ·rfl
   ·rename_i hf
    have key := eta0 (v := V x.a) (by omega)
    split
    ·rename_i hn; rw [← key, hn]
    ·rename_i hn; rw [← key, show (V x.a).n = 1 by omega]
  ·exact .oc0
 ·unfold turnR
  split
  ·rename_i h
   refine .become ?_;rw [v3 h.1, his _ _ (B (by omega)) (B' (by omega)) h.2.1, his x.c 1 (hc' h.1).1 (by have := hc' h.1; omega) h.2.2];have e1 : cellE wd V ⟨6, x.a, 0, 0, 0⟩ = (op1R 6 (V x.a)).1 := rfl;rw [e1, op1_case (.inr rfl) (okA (by omega)).1]
   split
   ·rfl
   ·split
    ·rename_i hn; show soloR 6 (V x.a).n = _; rw [hn]; rfl
    ·rename_i hn; show soloR 6 (V x.a).n = _; simp [soloR, truthV, hn]
  ·exact .oc0
 ·unfold selfR
  split
  ·rename_i h
   refine .stand (A (by omega)) ?_
   by_cases h15 : x.code = 15
   ·rw [v2 (by omega) (by omega), op2R, if_pos h15, choose_case (okA (by omega)).1 (okB (by omega)).1 (cell_mkV _), ← h.1]
    split
    ·rfl
    ·split
     ·rename_i hf hn; have key := eta0 (v := V x.a) (by omega); rw [← key, hn]; rfl
     ·rfl
   ·have h16 : x.code = 16 ∧ getB (truthsR C.ops) x.a = true := by rcases h.2 with h | h; exact absurd h h15; exact h
    have ht := hv.tr x.a (A (by omega)) (A' (by omega)) h16.2;rw [v2 (by omega) (by omega), op2R, if_neg h15, if_pos h16.1, choose_case (okA (by omega)).1 (cell_mkV _) (okB (by omega)).1, ← h.1]
    split
    ·rfl
    ·split
     ·rfl
     ·rename_i hf hn; have key := eta0 (v := V x.a) (by omega); rw [← key, show (V x.a).n = 1 by omega]; rfl
  ·exact .oc0
 ·unfold sameR
  obtain ⟨j, hj, hji, hje⟩ := first_le h0 h1;rw [hx] at hj hje;rw [hj]; simp only [Option.getD_some]
  split
  ·rename_i hlt
   refine .stand (by omega) ?_;rw [hVi, hv.at_ j (by omega) (by omega), hje]
  ·exact .oc0
/-- a rewrite keeps all cells -/
theorem keep_app {wd : List Int} {C : Co} (hck : checkR C = 0) {r : Rw} (h0 : 0 ≤ r.op) (h1 : r.op < C.ops.length) (h : (atC C r.rule r.op).ap = true) : evalR wd (appR C r) = evalR wd C := by
 have hap := h
 have hr : 1 ≤ r.rule ∧ r.rule ≤ 11 := Classical.byContradiction fun hn => by rw [at_out (by omega)] at h; cases h
 have hk := keep_rule (wd := wd) hck h0 h1 hr;have hok := at_ok hck h0 h1 h;have hck' := app_check hck h0 h1 h;have hlen := (appR_len C r).2.1
 have e : atC C r.rule r.op = ruleR C.ops (truthsR C.ops) (mget (firstR C.ops)) r.rule r.op := by
  unfold atC atR at h ⊢
  by_cases hg : getB (usedR C) r.op = false ∨ r.rule < 1 ∨ 11 < r.rule
  ·rw [if_pos hg] at h; exact absurd h (by decide)
  ·rw [if_neg hg]
 rw [← e] at hk;have hk := hk h
 obtain ⟨o, ho⟩ : ∃ o, atC C r.rule r.op = o := ⟨_, rfl⟩
 have happ : appR C r = outC C r.op o := by rw [← ho]; rfl
 rw [ho] at hk hok
 by_cases hs : o.st = -1
 ·have eC : appR C r = ⟨C.ch, C.ops.set r.op.toNat o.be, C.roots⟩ := by rw [happ, outC, if_pos hs]
  rw [eC] at hck' ⊢
  have hV : ∀ j : Int, 0 ≤ j → j < (C.ops.set r.op.toNat o.be).length → VK wd C j = cellE wd (VK wd C) (getO (C.ops.set r.op.toNat o.be) j) := fun j g0 g1 => by
   rw [List.length_set] at g1
   by_cases hj : j = r.op
   ·have : getO (C.ops.set r.op.toNat o.be) j = o.be := by subst hj; unfold getO; rw [List.getD_eq_getElem?_getD, List.getElem?_set_self (by omega)]; rfl
    rw [this, hj]; exact (hk.1 hs).symm
   ·have : getO (C.ops.set r.op.toNat o.be) j = getO C.ops j := by unfold getO; rw [List.getD_eq_getElem?_getD, List.getElem?_set_ne (by omega), ← List.getD_eq_getElem?_getD]
    rw [this]; exact VK_at hck g0 g1
  unfold evalR
  refine List.map_congr_left fun n hn => ?_
  have hn2 := (check_ok hck').2.1 n hn;exact (VK_uniq hck' hV (C.ops.set r.op.toNat o.be).length n hn2.1 hn2.2 hn2.2).symm
 ·have hst : 0 ≤ o.st ∧ o.st < r.op := by rcases hok.2 with g | g; exact absurd g.1 hs; exact g
  have eC : appR C r = ⟨C.ch, C.ops.map (turnO r.op o.st), C.roots.map (turnI r.op o.st)⟩ := by rw [happ, outC, if_neg hs]
  have ht : ∀ n, VK wd C (turnI r.op o.st n) = VK wd C n := fun n => by
   unfold turnI; split
   ·rename_i e; rw [hk.2 hst.1, e]
   ·rfl
  rw [eC] at hck' ⊢
  have hV : ∀ j : Int, 0 ≤ j → j < (C.ops.map (turnO r.op o.st)).length → VK wd C j = cellE wd (VK wd C) (getO (C.ops.map (turnO r.op o.st)) j) := fun j g0 g1 => by
   rw [List.length_map] at g1;rw [getO_map g0 g1, VK_at hck g0 g1]
   obtain ⟨x, hx⟩ : ∃ x, getO C.ops j = x := ⟨_, rfl⟩
   have hop := ops_at hck g0 g1;rw [hx] at hop ⊢;obtain ⟨⟨c1, c2, _⟩, _⟩ := opnd_iff.1 hop;have hcase := arN_case c1 c2
   have ea : 5 ≤ x.code → VK wd C (turnO r.op o.st x).a = VK wd C x.a := fun h => by
    have : (turnO r.op o.st x).a = turnI r.op o.st x.a := by unfold turnO; exact if_pos (by omega)
    rw [this]; exact ht _
   have eb : 7 ≤ x.code → VK wd C (turnO r.op o.st x).b = VK wd C x.b := fun h => by
    have : (turnO r.op o.st x).b = turnI r.op o.st x.b := by unfold turnO; exact if_pos (by omega)
    rw [this]; exact ht _
   have ec : x.code = 17 → VK wd C (turnO r.op o.st x).c = VK wd C x.c := fun h => by
    have : (turnO r.op o.st x).c = turnI r.op o.st x.c := by unfold turnO; exact if_pos (by omega)
    rw [this]; exact ht _
   exact cellE_same c1 c2 rfl rfl ea eb ec
  unfold evalR
  show List.map _ (C.roots.map (turnI r.op o.st)) = _
  rw [List.map_map]
  refine List.map_congr_left fun n hn => ?_
  have hn2 := (check_ok hck').2.1 _ (List.mem_map_of_mem (f := turnI r.op o.st) hn)
  show VK wd _ (turnI r.op o.st n) = _
  rw [← VK_uniq hck' hV (C.ops.map (turnO r.op o.st)).length _ hn2.1 hn2.2 hn2.2, ht]
theorem keep_tidy {wd : List Int} {E : Co} (hE : checkR E = 0) : evalR wd (tidyR E) = evalR wd E := by
 have hD := tidyR_check hE;have hI := tidyR_iso hE
 have hV : ∀ j : Int, 0 ≤ j → j < (tidyR E).ops.length → VK wd E (back (foundR E) j) = cellE wd (fun k => VK wd E (back (foundR E) k)) (getO (tidyR E).ops j) := fun j g0 g1 => by
  obtain ⟨hg, e⟩ := hI.ops j g0 g1;rw [VK_at hE hg.1 hg.2, e]
  obtain ⟨x, hx⟩ : ∃ x, getO (tidyR E).ops j = x := ⟨_, rfl⟩
  have hop := ops_at hD g0 g1;rw [hx] at hop ⊢;obtain ⟨⟨c1, c2, _⟩, _⟩ := opnd_iff.1 hop;have hcase := arN_case c1 c2
  have ea : 5 ≤ x.code → (at0 (back (foundR E)) x).a = back (foundR E) x.a := fun h => by unfold at0; exact if_pos (by omega)
  have eb : 7 ≤ x.code → (at0 (back (foundR E)) x).b = back (foundR E) x.b := fun h => by unfold at0; exact if_pos (by omega)
  have ec : x.code = 17 → (at0 (back (foundR E)) x).c = back (foundR E) x.c := fun h => by unfold at0; exact if_pos (by omega)
  exact (cellE_same (y := at0 (back (foundR E)) x) (V := fun k => VK wd E (back (foundR E) k)) (V' := VK wd E) c1 c2 rfl rfl (fun h => by rw [ea h]) (fun h => by rw [eb h]) (fun h => by rw [ec h])).symm
 unfold evalR
 rw [← hI.roots, List.map_map]
 refine List.map_congr_left fun n hn => ?_
 have hn2 := (check_ok hD).2.1 n hn;exact (VK_uniq hD hV (tidyR E).ops.length n hn2.1 hn2.2 hn2.2).symm
theorem keep_steps {wd : List Int} {C : Co} (hck : checkR C = 0) : evalR wd (stepsR C).2 = evalR wd C := by
 have : ∀ (n : Nat) (C : Co), checkR C = 0 → evalR wd (stepsF n C).2 = evalR wd C := fun n => by
  induction n with
  | zero => intro C _; rfl
  | succ n ih =>
   intro C hck
   cases h : nextR C with
   | none => rw [steps_none h]
   | some r =>
    obtain ⟨a, b, c⟩ := next_some h
    simp only [stepsF, h]
    rw [ih _ (app_check hck a b c), keep_app hck a b c]
 exact this _ _ hck
/-! what the program asks of a world, and of an operation -/
def OkW (ch : List Ch) (wd : List Int) : Prop := ch.length = wd.length ∧ ∀ (j : Nat) (x : Ch) (n : Int), ch[j]? = some x → wd[j]? = some n → withinB x.lo x.hi [n] = true
def OkC (wd : List Int) (l : List Vl) (x : Ot) : Prop := (1 ≤ x.code ∧ x.code ≤ 17 ∧ ¬ x.code = 4) ∧ (x.code = 2 → 1 ≤ x.n ∧ x.n ≤ 4) ∧ (x.code = 3 → 0 ≤ x.n ∧ x.n < wd.length) ∧ (5 ≤ x.code → 0 ≤ x.a ∧ x.a < l.length) ∧ (7 ≤ x.code → 0 ≤ x.b ∧ x.b < l.length) ∧ (x.code = 17 → 0 ≤ x.c ∧ x.c < l.length)
theorem gV_some {l : List Vl} {i : Int} (h : 0 ≤ i ∧ i < l.length) : l[i.toNat]? = some (gV l i) := by
 have : i.toNat < l.length := by omega
 simp [gV, List.getD, List.getElem?_eq_getElem this]
theorem wd_some {l : List Int} {i : Int} (h : 0 ≤ i ∧ i < l.length) : l[i.toNat]? = some (l.getD i.toNat 0) := by
 have : i.toNat < l.length := by omega
 simp [List.getD, List.getElem?_eq_getElem this]
theorem okC_at {C : Co} (hck : checkR C = 0) {i : Nat} {x : Ot} (hx : C.ops[i]? = some x) (h4 : ¬ x.code = 4) {wd : List Int} (hw : OkW C.ch wd) : OkC wd (cellsF wd (C.ops.take i)) x := by
 have hil := (List.getElem?_eq_some_iff.1 hx).1;have hop := (check_ok hck).2.2 i x hx;obtain ⟨⟨c1, c2, c3⟩, ha, hb, hc, _⟩ := opnd_iff.1 hop;have hcase := arN_case c1 c2
 have hlen : (cellsF wd (C.ops.take i)).length = i := by rw [cellsF_len]; simp; omega
 rw [OkC, hlen];refine ⟨⟨c1, c2, h4⟩, (numB c3).2, fun h3 => ?_, fun h => ha (by omega), fun h => hb (by omega), fun h => hc (by omega)⟩;rw [← hw.1]
 have : 0 ≤ x.n ∧ x.n ≤ (C.ch.length : Int) - 1 := by simpa [isNumB, h3, within1] using c3
 omega
/-! made cores, and what comes of them -/
structure Cu (C : Co) : Prop where
 ck : checkR C = 0
 ch : C.ch = [chA, chB]
 np : ∀ (j : Nat) (y : Ot), C.ops[j]? = some y → ¬ y.code = 4
 rl : C.roots.length = 3
 ol : C.ops.length ≤ 34
theorem Cu.of {C : Co} (h : GoodC C) : Cu C := ⟨h.check, h.ch, fun j y hj => (h.ops j y hj).2, h.roots, h.len.2⟩
theorem np_get {C : Co} (h : ∀ (j : Nat) (y : Ot), C.ops[j]? = some y → ¬ y.code = 4) {j : Int} (h0 : 0 ≤ j) (h1 : j < C.ops.length) : ¬ (getO C.ops j).code = 4 := h _ _ (getO_some h0 h1)
theorem Cu.tidy {C : Co} (h : Cu C) : Cu (tidyR C) where
 ck := tidyR_check h.ck
 ch := h.ch
 np j y hj := by
  have hjl := (List.getElem?_eq_some_iff.1 hj).1;have e : getO (tidyR C).ops (j : Int) = y := getO_of (by rw [Int.toNat_natCast]; exact hj);obtain ⟨hg, e2⟩ := (tidyR_iso h.ck).ops (j : Int) (by omega) (by omega);have := np_get h.np hg.1 hg.2;rw [e2, e] at this; exact this
 rl := (List.length_map _).trans h.rl
 ol := Nat.le_trans (tidyR_len h.ck) h.ol
theorem become_code {C : Co} {r i : Int} (h : (atC C r i).ap = true) (hs : (atC C r i).st = -1) (hst : ∀ n, (atC C r i).st = n → 0 ≤ n → False) : ¬ (atC C r i).be.code = 4 := by
 have hr : 1 ≤ r ∧ r ≤ 11 := Classical.byContradiction fun hn => by rw [at_out (by omega)] at h; cases h
 have hfin : ∀ v : Vl, ¬ (finR v).be.code = 4 := fun v => by
  unfold finR; split
  ·show ¬ (2 : Int) = 4; decide
  ·show ¬ (1 : Int) = 4; decide
 have h0 : ¬ oc0.be.code = 4 := by decide
 have h1 : ∀ n, ¬ (stand n).be.code = 4 := fun n => by show ¬ (0 : Int) = 4; decide
 unfold atC atR
 split
 ·exact h0
 ·rcases r11 hr.1 hr.2 with rfl | rfl | rfl | rfl | rfl | rfl | rfl | rfl | rfl | rfl | rfl <;> simp only [ruleR, if_true, Int.reduceEq, if_false]
  ·unfold workR; (repeat' split) <;> first | exact h0 | exact hfin _
  ·unfold faultR; (repeat' split) <;> first | exact h0 | exact h1 _
  ·unfold pickR; (repeat' split) <;> first | exact h0 | exact h1 _
  ·unfold andR; (repeat' split) <;> first | exact h0 | exact h1 _
  ·unfold orR; (repeat' split) <;> first | exact h0 | exact h1 _ | (show ¬ (1 : Int) = 4; decide)
  ·unfold unitR unit1; (repeat' split) <;> first | exact h0 | exact h1 _
  ·unfold twiceR; (repeat' split) <;> first | exact h0 | exact h1 _
  ·unfold truthR; (repeat' split) <;> first | exact h0 | exact h1 _
  ·unfold turnR; (repeat' split) <;> first | exact h0 | (show ¬ (6 : Int) = 4; decide)
  ·unfold selfR; (repeat' split) <;> first | exact h0 | exact h1 _
  ·unfold sameR; (repeat' split) <;> first | exact h0 | exact h1 _
theorem Cu.app {C : Co} (hC : Cu C) {r : Rw} (h0 : 0 ≤ r.op) (h1 : r.op < C.ops.length) (h : (atC C r.rule r.op).ap = true) : Cu (appR C r) where
 ck := app_check hC.ck h0 h1 h
 ch := (appR_len C r).1.trans hC.ch
 np j y hj := by
  unfold appR outC at hj
  by_cases hs : (atC C r.rule r.op).st = -1
  ·rw [if_pos hs] at hj
   dsimp only at hj
   rw [List.getElem?_set] at hj
   split at hj
   ·split at hj
    ·cases hj; exact become_code h hs (fun n e hn => by omega)
    ·cases hj
   ·exact hC.np j y hj
  ·rw [if_neg hs] at hj
   dsimp only at hj
   rw [List.getElem?_map, Option.map_eq_some_iff] at hj;obtain ⟨x, hx, rfl⟩ := hj;exact hC.np j x hx
 rl := (appR_len C r).2.2.trans hC.rl
 ol := by rw [(appR_len C r).2.1]; exact hC.ol
theorem Cu.steps {C : Co} (h : Cu C) : Cu (stepsR C).2 := by
 have : ∀ (n : Nat) (C : Co), Cu C → Cu (stepsF n C).2 := fun n => by
  induction n with
  | zero => intro C h; exact h
  | succ n ih =>
   intro C hC
   cases h : nextR C with
   | none => rw [steps_none h]; exact hC
   | some r =>
    obtain ⟨a, b, c⟩ := next_some h
    simp only [stepsF, h]
    exact ih _ (hC.app a b c)
 exact this _ _ h
theorem okW2 {C : Co} (h : Cu C) {a b : Int} (ha : -1 ≤ a ∧ a ≤ 2) (hb : 0 ≤ b ∧ b ≤ 2) : OkW C.ch [a, b] := by
 rw [h.ch];refine ⟨rfl, fun j x n hx hn => ?_⟩
 match j with
 | 0 => cases hx; cases hn; simp [within1, chA]; omega
 | 1 => cases hx; cases hn; simp [within1, chB]; omega
 | j + 2 => simp at hx
def rowA (C : Co) (i j : Nat) : List Vl := evalR [(i : Int) - 1, (j : Int)] C
def cA (C : Co) (i : Nat) : List Vl := (List.range i).flatMap fun i => (List.range 3).flatMap fun j => rowA C i j
def cB (C : Co) (i j : Nat) : List Vl := cA C i ++ (List.range j).flatMap fun j => rowA C i j
theorem cA_succ (C : Co) (i : Nat) : cA C (i + 1) = cB C i 3 := by
 show (List.range (i + 1)).flatMap (fun i => (List.range 3).flatMap fun j => rowA C i j) = cA C i ++ _
 rw [List.range_succ (n := i), List.flatMap_append, List.flatMap_cons, List.flatMap_nil, List.append_nil]; rfl
theorem cB_succ (C : Co) (i j : Nat) : cB C i (j + 1) = cB C i j ++ rowA C i j := by
 unfold cB; rw [List.range_succ, List.flatMap_append, List.append_assoc, List.flatMap_cons, List.flatMap_nil, List.append_nil]
theorem cB_zero (C : Co) (i : Nat) : cB C i 0 = cA C i := by simp [cB]
theorem rowA_len {C : Co} (h : C.roots.length = 3) (i j : Nat) : (rowA C i j).length = 3 := by rw [rowA, evalR, List.length_map, h]
theorem cB_len {C : Co} (h : C.roots.length = 3) : ∀ i j : Nat, (cB C i j).length = 9 * i + 3 * j
 | 0, 0 => rfl
 | i + 1, 0 => by rw [cB_zero, cA_succ, cB_len h i 3]; omega
 | i, j + 1 => by rw [cB_succ, List.length_append, rowA_len h, cB_len h i j]; omega
def cellsA (C : Co) : List Vl := cA C 4
theorem cellsA_eq {C D : Co} (h : ∀ wd, evalR wd D = evalR wd C) : cellsA D = cellsA C := by unfold cellsA cA rowA; simp only [h]
theorem cellsA_len {C : Co} (h : C.roots.length = 3) : (cellsA C).length = 36 := by rw [cellsA, ← cB_zero, cB_len h]
end Go.Mi
