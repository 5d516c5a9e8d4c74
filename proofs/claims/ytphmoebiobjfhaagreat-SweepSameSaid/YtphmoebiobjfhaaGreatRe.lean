/- The reference's words of chapters 7 and 12, and that they are sweep's own. No program's text. -/
import Derived.Test.YtphmoebiobjfhaaGreatRf
set_option linter.all false
namespace Go.Mi
open Go Go.RowKit
/-! ### cells, step by step -/
def quotF (a b : Int) : Int := if b < 0 then (-a) / (-b) else a / b
theorem ediv_of {a b x : Int} (hb : 0 < b) (h : x * b ≤ a) (h' : a < (x + 1) * b) : a / b = x := by
 have h1 := (Int.le_ediv_iff_mul_le hb).2 h;have h2 := (Int.ediv_lt_iff_lt_mul hb).2 h'
 omega
def rop1 (code : Int) (a : Vl) : Vl := if 0 < a.f then a else if code = 5 then ⟨0, -a.n⟩ else truthV (decide (a.n = 0))
def rop2 (code : Int) (a b : Vl) : Vl :=
 if 0 < a.f then a else if code = 15 ∧ a.n = 0 then a else if code = 16 ∧ a.n ≠ 0 then ⟨0, 1⟩ else if code = 15 ∨ code = 16 then b else if 0 < b.f then b
 else if code = 7 then mkV (a.n + b.n) else if code = 8 then mkV (a.n - b.n) else if code = 9 then mkV (a.n * b.n)
 else if code = 12 then truthV (decide (a.n = b.n)) else if code = 13 then truthV (decide (a.n < b.n)) else if code = 14 then truthV (decide (a.n ≤ b.n))
 else if b.n = 0 then ⟨1, 0⟩ else if code = 10 then ⟨0, quotF a.n b.n⟩ else ⟨0, a.n - b.n * quotF a.n b.n⟩
def small (n : Int) : Prop := -9999 ≤ n ∧ n ≤ 9999
theorem small_mul {a b : Int} (ha : small a) (hb : small b) : -99980001 ≤ a * b ∧ a * b ≤ 99980001 := by
 obtain ⟨h1, h2⟩ := ha; obtain ⟨h3, h4⟩ := hb;have e1 : (9999 - a) * (9999 - b) ≥ 0 := Int.mul_nonneg (by omega) (by omega);have e2 : (9999 + a) * (9999 + b) ≥ 0 := Int.mul_nonneg (by omega) (by omega);have e3 : (9999 - a) * (9999 + b) ≥ 0 := Int.mul_nonneg (by omega) (by omega);have e4 : (9999 + a) * (9999 - b) ≥ 0 := Int.mul_nonneg (by omega) (by omega)
 simp only [Int.sub_mul, Int.add_mul, Int.mul_sub, Int.mul_add] at e1 e2 e3 e4
 omega
theorem quot_small {a b : Int} (ha : small a) (h0 : b ≠ 0) : small (quotF a b) := by
 obtain ⟨h1, h2⟩ := ha
 unfold quotF small
 have key : ∀ a b : Int, 0 < b → -9999 ≤ a → a ≤ 9999 → -9999 ≤ a / b ∧ a / b ≤ 9999 := fun a b hb h h' => by
  constructor
  ·rw [Int.le_ediv_iff_mul_le hb]; have : -9999 * b ≤ -9999 * 1 := Int.mul_le_mul_of_nonpos_left (by omega) (by omega); omega
  ·have h2 : a / b < 10000 := (Int.ediv_lt_iff_lt_mul hb).2 (by have : 10000 * 1 ≤ 10000 * b := Int.mul_le_mul_of_nonneg_left (by omega) (by omega); omega)
   omega
 split
 ·exact key _ _ (by omega) (by omega) (by omega)
 ·exact key _ _ (by omega) (by omega) (by omega)
theorem quotR_eq {a b : Int} (h0 : b ≠ 0) : (quotR a b).1 = quotF a b ∧ (quotR a b).2 = a - b * quotF a b := by
 have e := Int.mul_tdiv_add_tmod a b
 have hl : (a.tmod b).natAbs < b.natAbs := by rw [Int.natAbs_tmod]; exact Nat.mod_lt _ (by omega)
 have key : ∀ q r : Int, b * q + r = a → (0 < b → 0 ≤ r ∧ r < b) → (b < 0 → b < r ∧ r ≤ 0) → quotF a b = q := fun q r h h1 h2 => by
  unfold quotF
  split
  ·rename_i hb
   obtain ⟨g1, g2⟩ := h2 hb;refine ediv_of (by omega) ?_ ?_
   ·rw [Int.mul_neg, Int.mul_comm]; omega
   ·rw [Int.add_mul, Int.mul_neg, Int.mul_comm q b]; omega
  ·obtain ⟨g1, g2⟩ := h1 (by omega)
   refine ediv_of (by omega) ?_ ?_
   ·rw [Int.mul_comm]; omega
   ·rw [Int.add_mul, Int.mul_comm q b]; omega
 unfold quotR
 split
 ·rename_i hc
  obtain ⟨h1, h2⟩ := hc
  have hk : quotF a b = a.tdiv b - 1 := by
   refine key _ (a.tmod b + b) (by rw [Int.mul_sub]; omega) (fun hb => ?_) (fun hb => ?_)
   ·simp [show ¬ b < 0 by omega] at h2; omega
   ·simp [hb] at h2; omega
  refine ⟨hk.symm, ?_⟩
  show a.tmod b + b = a - b * quotF a b
  rw [hk, Int.mul_sub]; omega
 ·rename_i hc
  have hk : quotF a b = a.tdiv b := by
   refine key _ (a.tmod b) (by omega) (fun hb => ?_) (fun hb => ?_)
   ·by_cases hz : a.tmod b = 0
    ·omega
    ·have : decide (a.tmod b < 0) = decide (b < 0) := Classical.byContradiction fun hn => hc ⟨hz, hn⟩
     simp [show ¬ b < 0 by omega] at this; omega
   ·by_cases hz : a.tmod b = 0
    ·omega
    ·have : decide (a.tmod b < 0) = decide (b < 0) := Classical.byContradiction fun hn => hc ⟨hz, hn⟩
     simp [hb] at this; omega
  exact ⟨hk.symm, by show a.tmod b = a - b * quotF a b; rw [hk]; omega⟩
theorem cell_small {v : Vl} (h : isCellB v = true) : small v.n := by
 unfold isCellB at h
 unfold small
 split at h <;> simp at h <;> omega
theorem cell_f {v : Vl} (h : isCellB v = true) (h0 : 0 ≤ v.f) : v.f ≠ 0 → 0 < v.f ∧ v.n = 0 := by
 unfold isCellB at h
 split at h <;> simp at h <;> omega
/-! ### what a rule does, as the reference says it -/
def constB (x : Ot) (n : Int) : Bool := decide (x.code = 1) && decide (x.n = n)
def twoB (x : Ot) : Bool := decide (7 ≤ x.code) && decide (x.code ≤ 16)
def cell1 (x : Ot) : Vl := if x.code = 1 then ⟨0, x.n⟩ else ⟨x.n, 0⟩
def isKon (x : Ot) : Bool := decide (x.code = 1) || decide (x.code = 2)
def wrkV (ops : List Ot) (x : Ot) : Vl := if arN x.code = 1 then rop1 x.code (cell1 (getO ops x.a)) else rop2 x.code (cell1 (getO ops x.a)) (cell1 (getO ops x.b))
def wrkF (v : Vl) : Oc := if 0 < v.f then ⟨true, -1, ⟨2, 0, 0, 0, v.f⟩⟩ else ⟨true, -1, ⟨1, 0, 0, 0, v.n⟩⟩
def wrkR (ops : List Ot) (x : Ot) : Oc := if (opsOf x).all (fun n => isKon (getO ops n)) then wrkF (wrkV ops x) else ⟨false, 0, o0⟩
def no0 : Oc := ⟨false, 0, o0⟩
def unitA (x a b : Ot) : Bool := ((decide (x.code = 7) || decide (x.code = 8)) && constB b 0) || ((decide (x.code = 9) || decide (x.code = 10)) && constB b 1)
def tryX (ops : List Ot) (tr : List Bool) (r i : Int) (x a b d : Ot) : Oc :=
 if r = 1 then (if 5 ≤ x.code ∧ x.code ≤ 16 then wrkR ops x else no0)
 else if r = 2 then ⟨(twoB x || decide (x.code = 17)) && decide (a.code = 2), x.a, o0⟩
 else if r = 3 then (if x.code = 17 ∧ constB a 0 = true then ⟨true, x.c, o0⟩ else ⟨decide (x.code = 17) && decide (a.code = 1), x.b, o0⟩)
 else if r = 4 then (if x.code = 15 ∧ constB a 0 = true then ⟨true, x.a, o0⟩ else ⟨decide (x.code = 15) && decide (a.code = 1), x.b, o0⟩)
 else if r = 5 then (if x.code = 16 ∧ constB a 0 = true then ⟨true, x.b, o0⟩ else ⟨decide (x.code = 16) && decide (a.code = 1), -1, ⟨1, 0, 0, 0, 1⟩⟩)
 else if r = 6 then (if unitA x a b = true then ⟨true, x.a, o0⟩ else ⟨(decide (x.code = 7) && constB a 0) || (decide (x.code = 9) && constB a 1), x.b, o0⟩)
 else if r = 7 then ⟨(decide (x.code = 5) && decide (a.code = 5)) || ((decide (x.code = 6) && decide (a.code = 6)) && getB tr a.a), a.a, o0⟩
 else if r = 8 then ⟨((decide (x.code = 17) && getB tr x.a) && constB b 1) && constB d 0, x.a, o0⟩
 else if r = 9 then ⟨(decide (x.code = 17) && constB b 0) && constB d 1, -1, ⟨6, x.a, 0, 0, 0⟩⟩
 else if r = 10 then ⟨decide (x.a = x.b) && (decide (x.code = 15) || (decide (x.code = 16) && getB tr x.a)), x.a, o0⟩
 else if r = 11 then (if idx (fun y => decide (y = x)) (ops.take i.toNat) < 0 then no0 else ⟨true, idx (fun y => decide (y = x)) (ops.take i.toNat), o0⟩)
 else no0
def tryR (ops : List Ot) (tr : List Bool) (r i : Int) : Oc := tryX ops tr r i (getO ops i) (getO ops (getO ops i).a) (getO ops (getO ops i).b) (getO ops (getO ops i).c)
/-- what Done is in cells -/
def encD (d : Oc) : List Value := [.int .i64 d.st, .int .u8 d.be.code, .int .i64 d.be.a, .int .i64 d.be.b, .int .i64 d.be.c, .int .i64 d.be.n]
def valD (d : Oc) : Value := .agg (encD d).toArray
def usedB (C : Co) (op : Int) : Bool := C.roots.any (fun n => decide (n = op)) || (C.ops.drop (op + 1).toNat).any fun y => (opsOf y).any fun n => decide (n = op)
/-! ### used -/
theorem used_root {C : Co} {op : Int} {x : Nat} {y : Int} (h : C.roots[x]? = some y) (e : y = op) : usedB C op = true := by
 unfold usedB
 rw [Bool.or_eq_true]; left;exact List.any_eq_true.2 ⟨y, List.mem_of_getElem? h, by simp [e]⟩
theorem used_op {C : Co} {o i k : Nat} {y : Ot} {n : Int} (h : o + 1 ≤ i) (hi : C.ops[i]? = some y) (hk : (opsOf y)[k]? = some n) (e : n = o) : usedB C o = true := by
 unfold usedB
 rw [Bool.or_eq_true]; right;refine List.any_eq_true.2 ⟨y, ?_, List.any_eq_true.2 ⟨n, List.mem_of_getElem? hk, by simp [e]⟩⟩
 have : ((C.ops.drop ((o : Int) + 1).toNat)[i - (o + 1)]?) = some y := by
  rw [List.getElem?_drop, show ((o : Int) + 1).toNat = o + 1 by omega, show o + 1 + (i - (o + 1)) = i by omega]; exact hi
 exact List.mem_of_getElem? this
theorem used_no {C : Co} {o : Nat} (h1 : ∀ (j : Nat) (y : Int), C.roots[j]? = some y → y ≠ o) (h2 : ∀ (j : Nat) (y : Ot), o + 1 ≤ j → C.ops[j]? = some y → ∀ n ∈ opsOf y, n ≠ o) : usedB C o = false := by
 rw [Bool.eq_false_iff]; intro h
 unfold usedB at h
 rw [Bool.or_eq_true] at h
 rcases h with h | h
 ·obtain ⟨y, hy, e⟩ := List.any_eq_true.1 h
  obtain ⟨j, hj⟩ := List.getElem?_of_mem hy;exact h1 j y hj (by simpa using e)
 ·obtain ⟨y, hy, e⟩ := List.any_eq_true.1 h
  obtain ⟨n, hn, e⟩ := List.any_eq_true.1 e;obtain ⟨j, hj⟩ := List.getElem?_of_mem hy;rw [List.getElem?_drop] at hj;exact h2 _ y (by omega) hj n hn (by simpa using e)
theorem setB_iff {l : List Int} : ∀ (us : List Bool) (i : Int), (∀ j ∈ l, 0 ≤ j) → 0 ≤ i → i < us.length → (getB (l.foldl setB us) i = true ↔ getB us i = true ∨ i ∈ l) := by
 induction l with
 | nil => intro us i _ _ _; simp
 | cons j l ih =>
  intro us i hl h0 h1;have hj := hl j (List.mem_cons_self ..);rw [List.foldl_cons, ih _ i (fun k hk => hl k (List.mem_cons_of_mem _ hk)) h0 (by unfold setB; simpa using h1)]
  have : getB (setB us j) i = true ↔ getB us i = true ∨ i = j := by
   unfold getB setB
   rw [List.getD_eq_getElem?_getD, List.getElem?_set, List.getD_eq_getElem?_getD]
   by_cases e : j.toNat = i.toNat
   ·rw [if_pos e, if_pos (by omega)]; simp; right; omega
   ·rw [if_neg e]; constructor
    ·exact .inl
    ·rintro (h | h)
     ·exact h
     ·omega
  rw [this, List.mem_cons, or_assoc]
theorem used_eq {C : Co} (hck : checkR C = 0) {i : Int} (h0 : 0 ≤ i) (h1 : i < C.ops.length) : usedB C i = getB (usedR C) i := by
 obtain ⟨_, hr, ho⟩ := check_ok hck
 have hin : ∀ {j : Nat} {y : Ot}, C.ops[j]? = some y → ∀ n ∈ opsOf y, 0 ≤ n ∧ n < j := fun {j y} hj n hn => by
  have := (isOpB_spec (ho j y hj)).2.1 n hn; omega
 have hop : ∀ (l : List Ot) (us : List Bool), us.length = C.ops.length → (∀ y ∈ l, ∀ n ∈ opsOf y, 0 ≤ n) → (getB (l.foldl usedOp us) i = true ↔ getB us i = true ∨ ∃ y ∈ l, i ∈ opsOf y) := fun l => by
  induction l with
  | nil => intro us _ _; simp
  | cons y l ih =>
   intro us hu hl
   have hlen : ∀ (m : List Int) (us : List Bool), (m.foldl setB us).length = us.length := fun m => by
    induction m with
    | nil => intro us; rfl
    | cons a m ih => intro us; rw [List.foldl_cons, ih]; simp [setB]
   rw [List.foldl_cons, ih _ (by unfold usedOp; rw [hlen, hu]) (fun z hz => hl z (List.mem_cons_of_mem _ hz))];have := setB_iff (l := opsOf y) us i (hl y (List.mem_cons_self ..)) h0 (by omega);rw [show usedOp us y = (opsOf y).foldl setB us from rfl, this, or_assoc]
   simp
 have hz : ¬ getB (List.replicate C.ops.length false) i = true := by unfold getB; simp [List.getD_eq_getElem?_getD, List.getElem?_replicate]; split <;> simp
 have hlen2 : ∀ (l : List Ot) (us : List Bool), (l.foldl usedOp us).length = us.length := fun l => by
  have hlen : ∀ (m : List Int) (us : List Bool), (m.foldl setB us).length = us.length := fun m => by
   induction m with
   | nil => intro us; rfl
   | cons a m ih => intro us; rw [List.foldl_cons, ih]; simp [setB]
  induction l with
  | nil => intro us; rfl
  | cons y l ih => intro us; rw [List.foldl_cons, ih]; unfold usedOp; rw [hlen]
 have key : getB (usedR C) i = true ↔ i ∈ C.roots ∨ ∃ y ∈ C.ops, i ∈ opsOf y := by
  unfold usedR
  rw [setB_iff _ _ (fun j hj => (hr j hj).1) h0 (by rw [hlen2]; simpa using h1), hop _ _ (by simp) (fun y hy n hn => by obtain ⟨j, hj⟩ := List.getElem?_of_mem hy; exact (hin hj n hn).1)]
  constructor
  ·rintro ((h | h) | h)
   ·exact absurd h hz
   ·exact .inr h
   ·exact .inl h
  ·rintro (h | h)
   ·exact .inr h
   ·exact .inl (.inr h)
 obtain ⟨o, rfl⟩ := Int.eq_ofNat_of_zero_le h0
 cases hb : getB (usedR C) (o : Int) with
 | true =>
  rcases key.1 hb with h | ⟨y, hy, h⟩
  ·obtain ⟨j, hj⟩ := List.getElem?_of_mem h; exact used_root hj rfl
  ·obtain ⟨j, hj⟩ := List.getElem?_of_mem hy
   obtain ⟨k, hk⟩ := List.getElem?_of_mem h;have := hin hj _ h;exact used_op (by omega) hj hk rfl
 | false =>
  have hn : ¬ (((o : Int) ∈ C.roots) ∨ ∃ y ∈ C.ops, (o : Int) ∈ opsOf y) := fun h => by rw [key.2 h] at hb; cases hb
  refine used_no (fun j y hj e => hn (.inl (e ▸ List.mem_of_getElem? hj))) (fun j y _ hj n hm e => hn (.inr ⟨y, List.mem_of_getElem? hj, e ▸ hm⟩))
/-! ### numbers of checked operations -/
theorem num_const {C : Co} (hck : checkR C = 0) {i : Int} (h0 : 0 ≤ i) (h1 : i < C.ops.length) (hc : (getO C.ops i).code = 1) : small (getO C.ops i).n := by
 have := (isOpB_spec (ops_at hck h0 h1)).1.2.2;rw [isNumB, if_pos hc, within1] at this; simpa [small] using this
theorem num_fault {C : Co} (hck : checkR C = 0) {i : Int} (h0 : 0 ≤ i) (h1 : i < C.ops.length) (hc : (getO C.ops i).code = 2) : 1 ≤ (getO C.ops i).n ∧ (getO C.ops i).n ≤ 4 := by
 have := (isOpB_spec (ops_at hck h0 h1)).1.2.2;rw [isNumB, if_neg (by omega), if_pos hc, within1] at this; simpa using this
theorem cell1_ok {C : Co} (hck : checkR C = 0) {i : Int} (h0 : 0 ≤ i) (h1 : i < C.ops.length) (hk : isKon (getO C.ops i) = true) : small (cell1 (getO C.ops i)).n ∧ 0 ≤ (cell1 (getO C.ops i)).f ∧ (cell1 (getO C.ops i)).f ≤ 4 := by
 unfold isKon at hk
 simp only [Bool.or_eq_true, decide_eq_true_eq] at hk
 unfold cell1
 rcases hk with h | h
 ·rw [if_pos h]; exact ⟨num_const hck h0 h1 h, by simp, by simp⟩
 ·rw [if_neg (by omega)]; have := num_fault hck h0 h1 h; exact ⟨by simp [small], by simp; omega, by simp; omega⟩
def FOk (v : Vl) : Prop := 0 ≤ v.f ∧ v.f ≤ 4
theorem FOk.ite {p : Prop} [Decidable p] {u v : Vl} (h : FOk u) (h' : FOk v) : FOk (if p then u else v) := by split; exact h; exact h'
theorem FOk.lit {f n : Int} (h : 0 ≤ f) (h' : f ≤ 4) : FOk ⟨f, n⟩ := ⟨h, h'⟩
theorem rop1_f {c : Int} {a : Vl} (h : FOk a) : FOk (rop1 c a) := by
 unfold rop1; exact .ite h (.ite (.lit (by omega) (by omega)) (truthV_f _))
theorem rop2_f {c : Int} {a b : Vl} (h : FOk a) (h' : FOk b) : FOk (rop2 c a b) := by
 unfold rop2
 exact .ite h (.ite h (.ite (.lit (by omega) (by omega)) (.ite h' (.ite h' (.ite (mkV_f _) (.ite (mkV_f _) (.ite (mkV_f _) (.ite (truthV_f _) (.ite (truthV_f _) (.ite (truthV_f _) (.ite (.lit (by omega) (by omega)) (.ite (.lit (by omega) (by omega)) (.lit (by omega) (by omega))))))))))))))
theorem truths_ix {C : Co} (hck : checkR C = 0) : ∀ (k : Nat) (y : Ot), C.ops[k]? = some y → (15 ≤ y.code → y.code ≤ 17 → 0 ≤ y.b ∧ y.b < k) ∧ (y.code = 17 → 0 ≤ y.c ∧ y.c < k) := fun k y h => by
 have h1 := (check_ok hck).2.2 k y h;obtain ⟨_, h2, h3, _⟩ := opnd_lt h1;refine ⟨fun a b => h2 ?_, fun a => h3 ?_⟩
 ·rcases arN_case (by omega : 1 ≤ y.code) b with ⟨q, _⟩ | ⟨q, _⟩ | ⟨_, _, q⟩ | ⟨_, q⟩ <;> omega
 ·rcases arN_case (by omega : 1 ≤ y.code) (by omega) with ⟨q, _⟩ | ⟨q, _⟩ | ⟨_, q, _⟩ | ⟨_, q⟩ <;> omega
/-! the forms of a region's operations -/
theorem FrOk.det {B T m : Nat} {tg : List Nat} {hs : List GOp} {ds : List Nat} {v : Value} : FrOk B T m tg hs (gdet ds v) := .inl ⟨true, ds, v, rfl⟩
theorem FrOk.frs {B T m : Nat} {tg : List Nat} {hs : List GOp} {ds : List Nat} : FrOk B T m tg hs (gfrs ds (AllocL B T m)) := .inr (.inl ⟨_, rfl⟩)
theorem FrOk.sv {B T m k e : Nat} {es : List Nat} {cs : List Value} {tg : List Nat} {hs : List GOp} {ds' : List Nat} (h : tg[k]? = some e) (h' : hs[e]? = some (gfrs ds' (AllocL B T m))) : FrOk B T m tg hs (gsv k (e :: es) (StR T cs) StV) := .inr (.inr ⟨k, e, es, cs, rfl, h, ds', h'⟩)
/-! stores into variables that a region itself makes, once more: what is stored may hang on fresh values, and fresh values may lie in blocks of other types -/
def StRf (T : Nat) (F : List Value → List Value) (vs : List Value) (w : World) : Prop := ∃ b, vs.getD 0 undef = .pointer (some ⟨b, 0, none⟩) ∧ Blk w b (F vs) T
/-- a fact about a value that stands while blocks of type T turn -/
def FrR (T : Nat) (R : Value → World → Nat → Nat → Prop) : Prop := ∀ u w w' lo hi, (Below w.heap.size w w' ∨ ∃ b cs, Blk w b cs T ∧ Chg (· = b) w w') → R u w lo hi → R u w' lo hi
def FsOk (B T m : Nat) (tg : List Nat) (hs : List GOp) (h : GOp) : Prop :=
 (∃ c ds v, h = gop c ds v) ∨ (∃ ds, h = gfrs ds (AllocL B T m)) ∨ (∃ k e es F, h = gsv k (e :: es) (StRf T F) StV ∧ tg[k]? = some e ∧ ∃ ds', hs[e]? = some (gfrs ds' (AllocL B T m))) ∨ ∃ ds R, h = gfrs ds R ∧ FrR T R
def FsAll (B T m : Nat) (tg : List Nat) (hs : List GOp) : List GOp → Prop
 | [] => True
 | h :: t => FsOk B T m tg hs h ∧ FsAll B T m tg hs t
theorem FsAll.get {B T m : Nat} {tg : List Nat} {hs : List GOp} : ∀ {t : List GOp} {i : Nat} {h : GOp}, FsAll B T m tg hs t → t[i]? = some h → FsOk B T m tg hs h
 | [], i, h, _, hi => by simp at hi
 | g :: t, 0, h, hf, hi => by simp at hi; subst hi; exact hf.1
 | g :: t, i + 1, h, hf, hi => FsAll.get hf.2 (by simpa using hi)
theorem FsOk.det {B T m : Nat} {tg : List Nat} {hs : List GOp} {ds : List Nat} {v : Value} : FsOk B T m tg hs (gdet ds v) := .inl ⟨true, ds, v, rfl⟩
theorem FsOk.frs {B T m : Nat} {tg : List Nat} {hs : List GOp} {ds : List Nat} : FsOk B T m tg hs (gfrs ds (AllocL B T m)) := .inr (.inl ⟨_, rfl⟩)
theorem FsOk.sv {B T m k e : Nat} {es : List Nat} {F : List Value → List Value} {tg : List Nat} {hs : List GOp} {ds' : List Nat} (h : tg[k]? = some e) (h' : hs[e]? = some (gfrs ds' (AllocL B T m))) : FsOk B T m tg hs (gsv k (e :: es) (StRf T F) StV) := .inr (.inr (.inl ⟨k, e, es, F, rfl, h, ds', h'⟩))
theorem FsOk.val {B T m : Nat} {tg : List Nat} {hs : List GOp} {ds : List Nat} {R : Value → World → Nat → Nat → Prop} (h : FrR T R) : FsOk B T m tg hs (gfrs ds R) := .inr (.inr (.inr ⟨_, _, rfl, h⟩))
theorem fs_stab {B T m n : Nat} {tg : List Nat} {hs : List GOp} {w0 : World} (hk : kindsOk (hs.map (·.kind)) = true) (htg : tg.Nodup) (hall : FsAll B T m tg hs hs) : GStab (List.replicate n (FrE B T m)) (Below w0.heap.size w0) hs := by
 intro h g i j hi hj hne val lo hi' w w' hap _ he hE hle hr
 have hlen : ∀ b, (∃ cs, Blk w b cs T ∧ cs.length = m) → ∃ cs, Blk w' b cs T ∧ cs.length = m := by
  cases hgk : g.kind with
  | zero => rw [hgk] at he; exact fun b ⟨cs, h1, h2⟩ => ⟨cs, h1.below he, h2⟩
  | succ k =>
   rw [hgk] at he
   simp only [Eff] at he
   split at he
   ·rename_i E hE'
    rw [List.getElem?_replicate] at hE'; split at hE'
    ·cases hE'; exact he.2.2
    ·cases hE'
   ·exact he.elim
 rcases hall.get hi with ⟨c, ds, v, rfl⟩ | ⟨ds, rfl⟩ | ⟨k, e, es, F, rfl, htk, ds', hse⟩ | ⟨ds, R, rfl, hR⟩
 ·exact hr
 ·obtain ⟨b, h1, h2, h3, h4, h5⟩ := hr
  exact ⟨b, h1, h2, h3, h4, hlen b h5⟩
 ·obtain ⟨b, h1, h2⟩ := hr
  have h1' : val e = .pointer (some ⟨b, 0, none⟩) := h1
  rcases hall.get hj with ⟨c, ds, v, rfl⟩ | ⟨ds, rfl⟩ | ⟨k', e', es', F', rfl, htk', ds2, hse'⟩ | ⟨ds, R, rfl, _⟩
  ·exact ⟨b, h1, h2.below he⟩
  ·exact ⟨b, h1, h2.below he⟩
  ·obtain ⟨b', g1, g2⟩ := hE
   have g1' : val e' = .pointer (some ⟨b', 0, none⟩) := g1
   have hkk : k ≠ k' := fun q => by
    have := kindsOk_spec _ hk i j (k + 1) (by simp [hi, gsv]) (by simp [hj, gsv, q]) hne
    omega
   have hee : e ≠ e' := fun q => hkk (by
    have a1 := (List.getElem?_eq_some_iff.1 htk); have a2 := (List.getElem?_eq_some_iff.1 htk')
    obtain ⟨l1, x1⟩ := a1; obtain ⟨l2, x2⟩ := a2
    exact (List.getElem_inj htg).1 (x1.trans (q.trans x2.symm)))
   obtain ⟨c1, q1, _, q2, q3, _⟩ := hap.1 e (.inl (by simp [gsv])) _ hse;obtain ⟨c2, p1, _, p2, p3, _⟩ := hap.1 e' (.inr (by simp [gsv])) _ hse';rw [h1'] at q1; rw [g1'] at p1;cases q1; cases p1;have := hap.2 e e' (.inl (by simp [gsv])) (.inr (by simp [gsv])) hee;exact ⟨b, h1, h2.chg g2 (by omega)⟩
  ·exact ⟨b, h1, h2.below he⟩
 ·rcases hall.get hj with ⟨c, ds, v, rfl⟩ | ⟨ds, rfl⟩ | ⟨k', e', es', F', rfl, htk', ds2, hse'⟩ | ⟨ds, R, rfl, _⟩
  ·exact hR _ _ _ _ _ (.inl he) hr
  ·exact hR _ _ _ _ _ (.inl he) hr
  ·obtain ⟨b', g1, g2⟩ := hE
   have g1' : val e' = .pointer (some ⟨b', 0, none⟩) := g1;obtain ⟨c2, p1, _, p2, p3, cs, p4, _⟩ := hap.1 e' (.inr (by simp [gsv])) _ hse';rw [g1'] at p1; cases p1;exact hR _ _ _ _ _ (.inr ⟨_, _, p4, g2⟩) hr
  ·exact hR _ _ _ _ _ (.inl he) hr
theorem GEx_stFf {P : Program} {l : Frm} {w : World} {Tt T m n : Nat} {x y : Operand} {ty : TypeId} {pos : String} {af : Array Edge} {g : Option (Nat × Bool)} {k e B lo hi N : Nat} {u v : Value} {vs : List Value} {es : List Nat} {acc : List Value} {F : List Value → List Value}
  (hA : AllocL B T m u w lo hi) (hx : ev l x = some u) (hy : ev l y = some v) (hvs : v.cells = vs.toArray) (hone : vs.all one1 = true) (hn : ∀ w, (sizeOf Tt).run P w = .ok n w) (hl : vs.length = n) (hm : n = m) (hacc : acc.getD 0 undef = u) (hF : F acc = vs) (hk : k < N) :
  GEx P { dst := none, op := .store Tt x y, type := ty, pos := pos, after := af, guard := g } l w (GEff (List.replicate N (FrE B T m)) (gsv k (e :: es) (StRf T F) StV) acc) (fun u w' => (gsv k (e :: es) (StRf T F) StV).R acc u w' w.heap.size w'.heap.size) := fun X a hP ha => by
 rcases GEx_stF (k := k) (e := e) (es := es) (B := B) (T := T) (m := m) (N := N) (acc := acc) (pos := pos) (af := af) (g := g) (ty := ty) hA hx hy hvs hone hn hl hm hacc hk X a hP ha with ⟨v, w', _, _, h3⟩ | ⟨w', h1, h2, h3⟩ | ⟨f, vs', h1, h2⟩
 ·exact .inl ⟨v, w', ‹_›, ‹_›, by obtain ⟨b, q1, q2⟩ := h3; exact ⟨b, q1, by rw [hF]; exact q2⟩⟩
 ·exact .inr (.inl ⟨w', h1, h2, by obtain ⟨b, q1, q2⟩ := h3; exact ⟨b, q1, by rw [hF]; exact q2⟩⟩)
 ·exact .inr (.inr ⟨f, vs', h1, Calls.mono h2 fun e' w' ⟨v, a1, a2, q⟩ => ⟨v, a1, a2, by obtain ⟨b, q1, q2⟩ := q; exact ⟨b, q1, by rw [hF]; exact q2⟩⟩⟩)
theorem OS.frR {α : Type} {E k lo T : Nat} {enc : α → List Value} {xs : List α} {u : Value} {w w' : World} (hne : E ≠ T) (h : OS w u E k enc xs lo) (hc : Below w.heap.size w w' ∨ ∃ b cs, Blk w b cs T ∧ Chg (· = b) w w') : OS w' u E k enc xs lo := by
 rcases hc with hb | ⟨b, cs, hB, hc⟩
 ·exact h.below hb
 ·refine h.chg hc fun k hk e => ?_
  subst e
  rcases h.own.2 with ⟨q, _⟩ | ⟨g, cap, cur, q, _, hg, _⟩
  ·rw [q] at hk; cases hk
  ·rw [q] at hk; cases hk
   unfold Blk at hB; rw [hg] at hB; cases hB; exact hne rfl
end Go.Mi
