/- Plain words for the walks: lists, tests over lists. No program. -/
import Derived.Test.YtphmoebiobjfhaaGreatMi
set_option linter.all false
namespace Go.Mi
open Go
def encI (n : Int) : List Value := [.int .i64 n]
/-- the first place where p holds, or -1 -/
def idx {α : Type} (p : α → Bool) (xs : List α) : Int := if xs.any p then (xs.findIdx p : Int) else -1
theorem idx_found {α : Type} {p : α → Bool} {xs : List α} {x : Nat} {y : α} (h : ∀ (j : Nat) (z : α), j < x → xs[j]? = some z → p z = false) (hy : xs[x]? = some y) (hp : p y = true) : idx p xs = x := by
 have hlt := (List.getElem?_eq_some_iff.1 hy).1;have hy' : xs[x] = y := (List.getElem?_eq_some_iff.1 hy).2;have ha : xs.any p = true := List.any_eq_true.2 ⟨y, List.mem_of_getElem? hy, hp⟩
 have : xs.findIdx p = x := by
  rw [List.findIdx_eq hlt];refine ⟨by rw [hy']; exact hp, fun j hj => ?_⟩;exact h j _ hj (List.getElem?_eq_getElem (by omega))
 simp [idx, ha, this]
theorem idx_none {α : Type} {p : α → Bool} {xs : List α} (h : ∀ (j : Nat) (z : α), xs[j]? = some z → p z = false) : idx p xs = -1 := by
 have : xs.any p = false := by
  rw [List.any_eq_false];intro x hx;obtain ⟨j, hj⟩ := List.getElem?_of_mem hx
  simp [h j x hj]
 simp [idx, this]
theorem idx_any {α : Type} (p : α → Bool) (xs : List α) : decide (0 ≤ idx p xs) = xs.any p := by
 unfold idx
 cases h : xs.any p <;> simp
theorem no_succ {α : Type} {p : α → Bool} {xs : List α} {x : Nat} {y : α} (h : ∀ (j : Nat) (z : α), j < x → xs[j]? = some z → p z = false) (hy : xs[x]? = some y) (hp : p y = false) :
  ∀ (j : Nat) (z : α), j < x + 1 → xs[j]? = some z → p z = false := fun j z hj hz => by
 rcases Nat.lt_or_ge j x with h' | h'
 ·exact h j z h' hz
 ·obtain rfl : j = x := by omega
  rw [hz] at hy; cases hy; exact hp
theorem no_all {α : Type} {p : α → Bool} {xs : List α} {x : Nat} (h : ∀ (j : Nat) (z : α), j < x → xs[j]? = some z → p z = false) (hx : xs.length ≤ x) : ∀ (j : Nat) (z : α), xs[j]? = some z → p z = false :=
 fun j z hz => h j z (by have := (List.getElem?_eq_some_iff.1 hz).1; omega) hz
/-! ### cells -/
structure Vl where
 f : Int
 n : Int
deriving DecidableEq
def encV (x : Vl) : List Value := [.int .u8 x.f, .int .i64 x.n]
def valV (x : Vl) : Value := .agg (encV x).toArray
def valI (n : Int) : Value := .int .i64 n
def withinB (least most : Int) (xs : List Int) : Bool := !xs.any fun n => decide (n < least) || decide (most < n)
def isCellB (v : Vl) : Bool := if v.f = 0 then decide (-9999 ≤ v.n) && decide (v.n ≤ 9999) else decide (v.f ≤ 4) && decide (v.n = 0)
def areCellsB (l : List Vl) : Bool := !l.any fun v => !isCellB v
def mkV (n : Int) : Vl := if -9999 ≤ n ∧ n ≤ 9999 then ⟨0, n⟩ else ⟨2, 0⟩
def truthV (b : Bool) : Vl := if b then ⟨0, 1⟩ else ⟨0, 0⟩
theorem within1 (a b n : Int) : withinB a b [n] = decide (a ≤ n ∧ n ≤ b) := by
 simp only [withinB, List.any_cons, List.any_nil, Bool.or_false, Bool.not_or]
 rw [Bool.eq_iff_iff]; simp
/-- what Go's rounded-down division gives -/
def quotR (a b : Int) : Int × Int := if a.tmod b ≠ 0 ∧ decide (a.tmod b < 0) ≠ decide (b < 0) then (a.tdiv b - 1, a.tmod b + b) else (a.tdiv b, a.tmod b)
def sign (a b : Int) : Int := if a < b then -1 else if b < a then 1 else 0
def soloR (code n : Int) : Vl := if code = 5 then mkV (-n) else truthV (decide (n = 0))
def duoR (code a b : Int) : Vl :=
 if code = 7 then mkV (a + b) else if code = 8 then mkV (a - b) else if code = 9 then mkV (a * b)
 else if code = 10 then (if b = 0 then ⟨1, 0⟩ else mkV (quotR a b).1) else if code = 11 then (if b = 0 then ⟨1, 0⟩ else mkV (quotR a b).2)
 else if code = 12 then truthV (decide (sign a b = 0)) else if code = 13 then truthV (decide (sign a b < 0)) else truthV (decide (sign a b ≤ 0))
def isSolo (code : Int) : Bool := decide (code = 5) || decide (code = 6)
def isDuo (code : Int) : Bool := decide (7 ≤ code) && decide (code ≤ 14)
def op1R (code : Int) (a : Vl) : Vl × Int := if isSolo code = false ∨ isCellB a = false then (⟨0, 0⟩, 2) else if a.f ≠ 0 then (a, 0) else (soloR code a.n, 0)
def chooseR (a b c : Vl) : Vl × Int := if areCellsB [a, b, c] = false then (⟨0, 0⟩, 2) else if a.f ≠ 0 then (a, 0) else if a.n = 0 then (c, 0) else (b, 0)
def op2R (code : Int) (a b : Vl) : Vl × Int :=
 if code = 15 then chooseR a b (mkV 0) else if code = 16 then chooseR a (mkV 1) b
 else if isDuo code = false ∨ areCellsB [a, b] = false then (⟨0, 0⟩, 2) else if a.f ≠ 0 then (a, 0) else if b.f ≠ 0 then (b, 0) else (duoR code a.n b.n, 0)
theorem find_none_of {xs : List Vl} {p : Vl → Bool} (h : idx p xs < 0) : xs.find? p = none := by
 rw [List.find?_eq_none];intro x hx hp;have : xs.any p = true := List.any_eq_true.2 ⟨x, hx, hp⟩
 simp [idx, this] at h; omega
theorem find_some_of {xs : List Vl} {p : Vl → Bool} {x : Vl} (hx : xs[(idx p xs).toNat]? = some x) (h : 0 ≤ idx p xs) : xs.find? p = some x := by
 have ha : xs.any p = true := by
  cases hb : xs.any p with
  | true => rfl
  | false => simp [idx, hb] at h
 have e : (idx p xs).toNat = xs.findIdx p := by simp [idx, ha]
 rw [e] at hx;rw [List.find?_eq_some_iff_getElem];have hlt : xs.findIdx p < xs.length := (List.getElem?_eq_some_iff.1 hx).1;have hv : xs[xs.findIdx p] = x := (List.getElem?_eq_some_iff.1 hx).2;refine ⟨by rw [← hv]; exact List.findIdx_getElem, xs.findIdx p, hlt, hv, fun j hj => by simpa using List.not_of_lt_findIdx hj⟩
/-! ### cores -/
structure Ch where
 name : ByteArray
 lo : Int
 hi : Int
deriving DecidableEq
def encC (x : Ch) : List Value := [.string x.name, .int .i64 x.lo, .int .i64 x.hi]
def valC (x : Ch) : Value := .agg (encC x).toArray
structure Ot where
 code : Int
 a : Int
 b : Int
 c : Int
 n : Int
deriving DecidableEq
def encO (x : Ot) : List Value := [.int .u8 x.code, .int .i64 x.a, .int .i64 x.b, .int .i64 x.c, .int .i64 x.n]
def valO (x : Ot) : Value := .agg (encO x).toArray
structure Co where
 ch : List Ch
 ops : List Ot
 roots : List Int
deriving DecidableEq
def noCh (x : Ch) : Bool := !withinB (-9999) 9999 [x.lo, x.hi] || !withinB 1 12 [x.hi - x.lo + 1]
theorem within2 {a b n m : Int} (h : withinB a b [n, m] = true) : (a ≤ n ∧ n ≤ b) ∧ a ≤ m ∧ m ≤ b := by
 simp [withinB] at h; omega
def arN (code : Int) : Nat := if code ≤ 4 then 0 else if code ≤ 6 then 1 else if code ≤ 16 then 2 else 3
theorem arN_le (code : Int) : arN code ≤ 3 := by unfold arN; (repeat' split) <;> omega
def isNumB (nch : Nat) (x : Ot) : Bool :=
 if x.code = 1 then withinB (-9999) 9999 [x.n] else if x.code = 2 then withinB 1 4 [x.n] else if x.code = 3 then withinB 0 (nch - 1) [x.n] else if x.code = 4 then withinB 0 31 [x.n] else decide (x.n = 0)
def opndR (x : Ot) : List Int := [x.a, x.b, x.c]
def isOpB (nch : Nat) (i : Nat) (x : Ot) : Bool :=
 !(decide (x.code < 1) || decide (17 < x.code) || !isNumB nch x) && (withinB 0 (i - 1) ((opndR x).take (arN x.code)) && withinB 0 0 ((opndR x).drop (arN x.code)))
def opsB (nch : Nat) (l : List Ot) : Bool := l.zipIdx.all fun p => isOpB nch p.2 p.1
theorem opsB_iff {nch : Nat} {l : List Ot} : opsB nch l = true ↔ ∀ (j : Nat) (x : Ot), l[j]? = some x → isOpB nch j x = true := by
 unfold opsB; rw [List.all_eq_true]
 constructor
 ·intro h j x hj
  exact h (x, j) (List.mem_zipIdx_iff_getElem?.2 hj)
 ·rintro h ⟨x, j⟩ hp
  exact h j x (List.mem_zipIdx_iff_getElem?.1 hp)
def checkR (c : Co) : Int :=
 if 6 < c.ch.length ∨ 3000 < c.ops.length ∨ 3000 < c.roots.length then 5 else if c.ch.any noCh then 3 else if withinB 0 (c.ops.length - 1) c.roots = false then 4
 else if opsB c.ch.length c.ops then 0 else 4
/-! ### a state's rules -/
def encB (b : Bool) : List Value := [.bool b]
def valB (b : Bool) : Value := .bool b
def o0 : Ot := ⟨0, 0, 0, 0, 0⟩
def getO (l : List Ot) (i : Int) : Ot := l.getD i.toNat o0
def getB (l : List Bool) (i : Int) : Bool := l.getD i.toNat false
theorem getO_some {l : List Ot} {i : Int} (h0 : 0 ≤ i) (h1 : i < l.length) : l[i.toNat]? = some (getO l i) := by
 have : i.toNat < l.length := by omega
 simp [getO, List.getD, List.getElem?_eq_getElem this]
theorem getB_some {l : List Bool} {i : Int} (h0 : 0 ≤ i) (h1 : i < l.length) : l[i.toNat]? = some (getB l i) := by
 have : i.toNat < l.length := by omega
 simp [getB, List.getD, List.getElem?_eq_getElem this]
theorem getO_of {l : List Ot} {i : Int} {x : Ot} (h : l[i.toNat]? = some x) : getO l i = x := by simp [getO, List.getD, h]
/-- what is known of an operation of n operations -/
structure Bd (n : Nat) (x : Ot) : Prop where
 a0 : 0 ≤ x.a
 a1 : x.a < n
 b0 : 0 ≤ x.b
 b1 : x.b < n
 c0 : 0 ≤ x.c
 c1 : x.c < n
 f : x.code = 2 → 1 ≤ x.n ∧ x.n ≤ 4
structure Oc where
 ap : Bool
 st : Int
 be : Ot
def encOc (x : Oc) : List Value := [.bool x.ap, .int .i64 x.st, .int .u8 x.be.code, .int .i64 x.be.a, .int .i64 x.be.b, .int .i64 x.be.c, .int .i64 x.be.n]
def valOc (x : Oc) : Value := .agg (encOc x).toArray
def oc0 : Oc := ⟨false, 0, o0⟩
def stand (n : Int) : Oc := ⟨true, n, o0⟩
def becomeO (x : Ot) : Oc := ⟨true, -1, x⟩
def truthB (tr : List Bool) (x : Ot) : Bool :=
 if x.code = 6 ∨ x.code = 12 ∨ x.code = 13 ∨ x.code = 14 ∨ x.code = 2 then true else if x.code = 1 then decide (x.n = 0) || decide (x.n = 1)
 else if x.code = 15 ∨ x.code = 16 then getB tr x.b else if x.code = 17 then getB tr x.b && getB tr x.c else false
def isR (ops : List Ot) (i n : Int) : Bool := decide (getO ops i = ⟨1, 0, 0, 0, n⟩)
def cellR (x : Ot) : Vl × Bool := if x.code = 1 then (mkV x.n, true) else if x.code = 2 then (⟨x.n, 0⟩, true) else (⟨0, 0⟩, false)
def finR (v : Vl) : Oc := if v.f ≠ 0 then becomeO ⟨2, 0, 0, 0, v.f⟩ else becomeO ⟨1, 0, 0, 0, v.n⟩
def workR (ops : List Ot) (x : Ot) : Oc :=
 if x.code < 5 ∨ 16 < x.code then oc0 else if (cellR (getO ops x.a)).2 = false then oc0
 else if (op1R x.code (cellR (getO ops x.a)).1).2 ≠ 0 then
  (if (cellR (getO ops x.b)).2 = false then oc0 else finR (op2R x.code (cellR (getO ops x.a)).1 (cellR (getO ops x.b)).1).1)
 else finR (op1R x.code (cellR (getO ops x.a)).1).1
def faultR (ops : List Ot) (x : Ot) : Oc := if x.code < 7 ∨ (getO ops x.a).code ≠ 2 then oc0 else stand x.a
def knownR (ops : List Ot) (x : Ot) (code : Int) : Bool × Bool := if x.code ≠ code ∨ (getO ops x.a).code ≠ 1 then (false, false) else (!decide ((getO ops x.a).n = 0), true)
def pickR (ops : List Ot) (x : Ot) : Oc := if (knownR ops x 17).2 = false then oc0 else if (knownR ops x 17).1 then stand x.b else stand x.c
def andR (ops : List Ot) (x : Ot) : Oc := if (knownR ops x 15).2 = false then oc0 else if (knownR ops x 15).1 then stand x.b else stand x.a
def orR (ops : List Ot) (x : Ot) : Oc := if (knownR ops x 16).2 = false then oc0 else if (knownR ops x 16).1 then becomeO ⟨1, 0, 0, 0, 1⟩ else stand x.b
def unit1 (ops : List Ot) (x : Ot) (u : Int) : Oc := if isR ops x.b u then stand x.a else if (x.code = 7 ∨ x.code = 9) ∧ isR ops x.a u = true then stand x.b else oc0
def unitR (ops : List Ot) (x : Ot) : Oc := if x.code = 9 ∨ x.code = 10 then unit1 ops x 1 else if x.code = 7 ∨ x.code = 8 then unit1 ops x 0 else oc0
def twiceR (ops : List Ot) (tr : List Bool) (x : Ot) : Oc :=
 if (x.code ≠ 5 ∧ x.code ≠ 6) ∨ (getO ops x.a).code ≠ x.code then oc0 else if x.code = 6 ∧ getB tr (getO ops x.a).a = false then oc0 else stand (getO ops x.a).a
def truthR (ops : List Ot) (tr : List Bool) (x : Ot) : Oc := if x.code = 17 ∧ getB tr x.a = true ∧ isR ops x.b 1 = true ∧ isR ops x.c 0 = true then stand x.a else oc0
def turnR (ops : List Ot) (x : Ot) : Oc := if x.code = 17 ∧ isR ops x.b 0 = true ∧ isR ops x.c 1 = true then becomeO ⟨6, x.a, 0, 0, 0⟩ else oc0
def selfR (tr : List Bool) (x : Ot) : Oc := if x.a = x.b ∧ (x.code = 15 ∨ (x.code = 16 ∧ getB tr x.a = true)) then stand x.a else oc0
def sameR (first : Ot → Option Int) (i : Int) (x : Ot) : Oc := if (first x).getD 0 < i then stand ((first x).getD 0) else oc0
theorem mkV_f (n : Int) : 0 ≤ (mkV n).f ∧ (mkV n).f ≤ 4 := by unfold mkV; split <;> simp
theorem truthV_f (b : Bool) : 0 ≤ (truthV b).f ∧ (truthV b).f ≤ 4 := by unfold truthV; split <;> simp
theorem soloR_f (c n : Int) : 0 ≤ (soloR c n).f ∧ (soloR c n).f ≤ 4 := by unfold soloR; split; exact mkV_f _; exact truthV_f _
theorem duoR_f (c a b : Int) : 0 ≤ (duoR c a b).f ∧ (duoR c a b).f ≤ 4 := by
 unfold duoR
 split; exact mkV_f _
 split; exact mkV_f _
 split; exact mkV_f _
 split; (split; simp; exact mkV_f _)
 split; (split; simp; exact mkV_f _)
 split; exact truthV_f _
 split; exact truthV_f _
 exact truthV_f _
theorem op1R_f {c : Int} {a : Vl} (h : 0 ≤ a.f ∧ a.f ≤ 4) : 0 ≤ (op1R c a).1.f ∧ (op1R c a).1.f ≤ 4 := by
 unfold op1R; split; simp; split; exact h; exact soloR_f _ _
theorem chooseR_f {a b c : Vl} (h : 0 ≤ a.f ∧ a.f ≤ 4) (h' : 0 ≤ b.f ∧ b.f ≤ 4) (h'' : 0 ≤ c.f ∧ c.f ≤ 4) : 0 ≤ (chooseR a b c).1.f ∧ (chooseR a b c).1.f ≤ 4 := by
 unfold chooseR; split; simp; split; exact h; split; exact h''; exact h'
theorem op2R_f {c : Int} {a b : Vl} (h : 0 ≤ a.f ∧ a.f ≤ 4) (h' : 0 ≤ b.f ∧ b.f ≤ 4) : 0 ≤ (op2R c a b).1.f ∧ (op2R c a b).1.f ≤ 4 := by
 unfold op2R; split; exact chooseR_f h h' (mkV_f _); split; exact chooseR_f h (mkV_f _) h'; split; simp; split; exact h; split; exact h'; exact duoR_f _ _ _
theorem cellR_f {x : Ot} (h : x.code = 2 → 1 ≤ x.n ∧ x.n ≤ 4) : 0 ≤ (cellR x).1.f ∧ (cellR x).1.f ≤ 4 := by
 unfold cellR; split; exact mkV_f _; split; (have := h (by assumption); simp; omega); simp
def ruleR (ops : List Ot) (tr : List Bool) (first : Ot → Option Int) (r i : Int) : Oc :=
 if r = 1 then workR ops (getO ops i) else if r = 2 then faultR ops (getO ops i) else if r = 3 then pickR ops (getO ops i) else if r = 4 then andR ops (getO ops i) else if r = 5 then orR ops (getO ops i)
 else if r = 6 then unitR ops (getO ops i) else if r = 7 then twiceR ops tr (getO ops i) else if r = 8 then truthR ops tr (getO ops i) else if r = 9 then turnR ops (getO ops i) else if r = 10 then selfR tr (getO ops i) else sameR first i (getO ops i)
def atR (ops : List Ot) (tr us : List Bool) (first : Ot → Option Int) (r i : Int) : Oc := if getB us i = false ∨ r < 1 ∨ 11 < r then oc0 else ruleR ops tr first r i
theorem r11 {r : Int} (h : 1 ≤ r) (h' : r ≤ 11) : r = 1 ∨ r = 2 ∨ r = 3 ∨ r = 4 ∨ r = 5 ∨ r = 6 ∨ r = 7 ∨ r = 8 ∨ r = 9 ∨ r = 10 ∨ r = 11 := by omega
end Go.Mi
