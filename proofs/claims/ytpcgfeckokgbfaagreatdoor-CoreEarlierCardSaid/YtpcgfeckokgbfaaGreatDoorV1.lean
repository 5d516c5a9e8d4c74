/- The functions of chapter 11, in plain words: checks. -/
import Derived.Test.YtpcgfeckokgbfaaGreatDoorJs
import Derived.Test.YtpcgfeckokgbfaaGreatDoorU6
set_option linter.all false
namespace Go.Proofs.YtpcgfeckokgbfaaGreatDoor
open Go Go.Dp
/-- a number lies between two others -/
def inB (a b n : Int) : Bool := decide (a ≤ n) && decide (n ≤ b)
theorem q39 (n a b : Int) : m39 n a b = some (inB a b n) := by unfold m39 inB; rfl
theorem find_in (xs : List Int) (a b : Int) (h : xs.length < 9223372036854775807) : ∃ r, m93i1 xs a b = some r ∧ decide (0 ≤ r) = !(xs.all (inB a b)) := by
  unfold m93i1 m93i1_1
  obtain ⟨r, h1, h2⟩ := lp_find (n := xs.length) (s0 := 0) (fun i => match xs[i]? with | some x => !(inB a b x) | none => false) (body := fun s8_0 => if (decide (s8_0 < (xs.length : Int))) then (ix xs s8_0).bind fun z1 => (m60i1 z1 a b).bind fun z2 => if z2 then (some s8_0).map .inr else some (.inl (wi (s8_0 + 1))) else (some (-1)).map .inr)
    (fun i hi => by
      have : wi ((i : Int) + 1) = i + 1 := wi_eq (by omega) (by omega)
      simp only [show ((i : Int) < xs.length) by omega, decide_true, if_true, ix_lt hi, Option.bind_some, m60i1, List.getElem?_eq_getElem hi, this, inB]
      by_cases c1 : a ≤ xs[i] <;> by_cases c2 : xs[i] ≤ b <;> simp [c1, c2, show (xs[i] < a) = ¬ (a ≤ xs[i]) from propext (by omega), show (b < xs[i]) = ¬ (xs[i] ≤ b) from propext (by omega)])
    (by simp) rfl
  refine ⟨r, h1, ?_⟩
  have e := any_get (xs := xs) (fun x => !(inB a b x)) (fun i => match xs[i]? with | some x => !(inB a b x) | none => false) (fun i x hx => by rw [hx])
  rw [show (!(xs.all (inB a b))) = xs.any (fun x => !(inB a b x)) by rw [List.any_eq_not_all_not]; simp, ← e]
  rcases h2 with ⟨h3, h4, _⟩ | ⟨h3, rfl⟩
  · rw [h3]; simpa using h4
  · rw [h3]; rfl
theorem q33 {a b : Int} {xs : List Int} (h : xs.length < 9223372036854775807) : m33 a b xs = some (xs.all (inB a b)) := by
  obtain ⟨r, h1, h2⟩ := find_in xs a b h
  unfold m33 m59i1
  rw [h1]; simp [h2]
theorem q94 {a b : Int} {xs : List Int} (h : xs.length < 9223372036854775807) : m94 a b xs = some (xs.all (inB a b)) := q33 h
/-! a search for what is so -/
theorem find_any {α : Type} {xs : List α} {f : α → Option Bool} {p : α → Bool} (h : xs.length < 9223372036854775807) (hf : ∀ x ∈ xs, f x = some (p x)) : ∃ r, Lp (fun s8_0 : Int => if (decide (s8_0 < (xs.length : Int))) then (ix xs s8_0).bind fun z1 => (f z1).bind fun z2 => if z2 then (some s8_0).map .inr else some (.inl (wi (s8_0 + 1))) else (some (-1)).map .inr) (0 : Int) = some r ∧
    (xs.any p = true ∧ 0 ≤ r ∧ r < xs.length ∧ (∀ x, xs[r.toNat]? = some x → p x = true) ∧ (∀ (j : Nat) x, (j : Int) < r → xs[j]? = some x → p x = false) ∨ xs.any p = false ∧ r = -1) := by
  obtain ⟨r, h1, h2⟩ := lp_find (n := xs.length) (s0 := 0) (fun i => match xs[i]? with | some x => p x | none => false) (body := fun s8_0 : Int => if (decide (s8_0 < (xs.length : Int))) then (ix xs s8_0).bind fun z1 => (f z1).bind fun z2 => if z2 then (some s8_0).map .inr else some (.inl (wi (s8_0 + 1))) else (some (-1)).map .inr)
    (fun i hi => by
      have : wi ((i : Int) + 1) = i + 1 := wi_eq (by omega) (by omega)
      simp only [show ((i : Int) < xs.length) by omega, decide_true, if_true, ix_lt hi, Option.bind_some, List.getElem?_eq_getElem hi, this, hf _ (List.getElem_mem hi)]
      cases p xs[i] <;> rfl)
    (by simp) rfl
  refine ⟨r, h1, ?_⟩
  rw [any_get (xs := xs) p _ (fun i x hx => by rw [hx])] at h2
  rcases h2 with ⟨a1, a2, a3, a4, a5⟩ | h2
  · exact .inl ⟨a1, a2, a3, fun x hx => by rw [hx] at a4; exact a4, fun j x hj hx => by have := a5 j hj; rw [hx] at this; exact this⟩
  · exact .inr h2
/-! choices and operations -/
def chB (x : ApiChoice) : Bool := inB (-9999) 9999 x.lo && (inB (-9999) 9999 x.hi && inB 1 12 (x.hi - x.lo + 1))
theorem q32 (x : ApiChoice) : m32i1 x = some (!chB x) := by
  unfold m32i1
  rw [q33 (by simp)]
  simp only [Option.bind_some, List.all_cons, List.all_nil, Bool.and_true]
  cases c1 : inB (-9999) 9999 x.lo <;> cases c2 : inB (-9999) 9999 x.hi <;> simp [chB, c1, c2]
  unfold inB at c1 c2
  simp only [Bool.and_eq_true, decide_eq_true_eq] at c1 c2
  rw [q33 (by simp), wi_eq (n := x.hi - x.lo) (by omega) (by omega), wi_eq (n := x.hi - x.lo + 1) (by omega) (by omega)]
  simp
theorem q31 {xs : List ApiChoice} (h : xs.length < 9223372036854775807) : m31i1 xs = some (!(xs.all chB)) := by
  unfold m31i1 m58i1 m58i1_1
  obtain ⟨r, h1, h2⟩ := find_any (xs := xs) (f := m32i1) (p := fun x => !chB x) h (fun x _ => q32 x)
  rw [h1]
  have e : (!(xs.all chB)) = xs.any (fun x => !chB x) := by rw [List.any_eq_not_all_not]; simp
  rw [e]
  rcases h2 with ⟨h3, h4, _⟩ | ⟨h3, rfl⟩
  · rw [h3]; simpa using h4
  · rw [h3]; rfl
theorem ch_ref (x : ApiChoice) : (((!(inB (-9999) x.hi x.lo)) || (decide (9999 < x.hi))) || (decide (12 ≤ (wi (x.hi - x.lo))))) = !chB x := by
  by_cases c1 : -9999 ≤ x.lo ∧ x.lo ≤ x.hi ∧ x.hi ≤ 9999
  · obtain ⟨c1, c2, c3⟩ := c1
    rw [wi_eq (by omega) (by omega)]
    rw [Bool.eq_iff_iff]
    simp only [chB, inB, Bool.or_eq_true, Bool.not_eq_true', Bool.and_eq_false_iff, decide_eq_true_eq, decide_eq_false_iff_not]
    constructor
    · rintro ((h | h) | h)
      · omega
      · omega
      · right; right; right; omega
    · intro h; right; omega
  · rw [Bool.eq_iff_iff]
    simp only [chB, inB, Bool.or_eq_true, Bool.not_eq_true', Bool.and_eq_false_iff, decide_eq_true_eq, decide_eq_false_iff_not]
    constructor
    · intro _; omega
    · intro _; left; omega
def arN (k : Int) : Nat := if k ≤ 4 then 0 else if k ≤ 6 then 1 else if k ≤ 16 then 2 else 3
def numB (nc : Nat) (x : ApiOp) : Bool := if x.code = 1 then inB (-9999) 9999 x.n else if x.code = 2 then inB 1 4 x.n else if x.code = 3 then inB 0 ((nc : Int) - 1) x.n else if x.code = 4 then inB 0 31 x.n else decide (x.n = 0)
def argB (k ar : Nat) (i : Nat) (v : Int) : Bool := if k < ar then inB 0 ((i : Int) - 1) v else decide (v = 0)
def opB (nc i : Nat) (x : ApiOp) : Bool := inB 1 17 x.code && (numB nc x && (argB 0 (arN x.code) i x.a && (argB 1 (arN x.code) i x.b && argB 2 (arN x.code) i x.c)))
theorem in0 (v : Int) : inB 0 0 v = decide (v = 0) := by
  unfold inB; rw [Bool.eq_iff_iff]; simp; omega
theorem q61 (c : ApiCore) (x : ApiOp) (h : c.choices.length < 1000000) : m61 c x = some (numB c.choices.length x) := by
  unfold m61 numB
  rw [wi_eq (by omega) (by omega)]
  by_cases c1 : x.code = 1
  · simp [c1, q33]
  by_cases c2 : x.code = 2
  · simp [c2, q33]
  by_cases c3 : x.code = 3
  · simp [c3, q33]
  by_cases c4 : x.code = 4
  · simp [c4, q33]
  simp [c1, c2, c3, c4]
theorem q34 {c : ApiCore} {i : Nat} {x : ApiOp} (hx : c.ops[i]? = some x) (h : c.choices.length < 1000000) (hi : i < 1000000) : m34 c i = some (opB c.choices.length i x) := by
  unfold m34
  rw [ix_at hx, Option.bind_some, show (⟨x.code, x.a, x.b, x.c, x.n⟩ : ApiOp) = x from rfl, q61 c x h]
  unfold opB
  have w1 : wi ((i : Int) - 1) = i - 1 := wi_eq (by omega) (by omega)
  by_cases c1 : 1 ≤ x.code ∧ x.code ≤ 17
  · have : inB 1 17 x.code = true := by unfold inB; simp; omega
    rw [this, if_neg (by simp; omega)]
    cases hn : numB c.choices.length x with
    | false => simp
    | true =>
      simp only [Option.bind_some, Bool.not_true, Bool.false_eq_true, if_false, m62, m48, w1, Bool.true_and]
      unfold arN
      by_cases d1 : x.code ≤ 4
      · simp only [d1, if_true, decide_true, Option.bind_some, lx, List.length_cons, List.length_nil]
        simp [q33, argB, in0]
      by_cases d2 : x.code ≤ 6
      · simp [d1, d2, lx, q33, argB, in0]
        cases inB 0 ((i : Int) - 1) x.a <;> simp
      by_cases d3 : x.code ≤ 16
      · simp [d1, d2, d3, lx, q33, argB, in0]
        cases inB 0 ((i : Int) - 1) x.a <;> cases inB 0 ((i : Int) - 1) x.b <;> simp
      · simp [d1, d2, d3, lx, q33, argB, in0]
        cases inB 0 ((i : Int) - 1) x.a <;> cases inB 0 ((i : Int) - 1) x.b <;> cases inB 0 ((i : Int) - 1) x.c <;> simp
  · have : inB 1 17 x.code = false := by unfold inB; simp; omega
    rw [this, if_pos (by simp; omega)]; simp
theorem q40 {nc i : Nat} {x : ApiOp} (h : nc < 1000000) (hi : i < 1000000) : m40 x i nc = some (opB nc i x) := by
  have w1 : wi ((i : Int) - 1) = i - 1 := wi_eq (by omega) (by omega)
  have w2 : wi ((nc : Int) - 1) = nc - 1 := wi_eq (by omega) (by omega)
  have key : ∀ (ar : Nat) (p q : Int), m40_1 ((ar : Int), p, q) x i 0 = some (argB 0 ar i x.a && (argB 1 ar i x.b && argB 2 ar i x.c)) := fun ar p q => by
    unfold m40_1
    have hb : ∀ (k : Nat) (v : Int), k < 3 → ([x.a, x.b, x.c] : List Int)[k]? = some v → (if (decide ((k : Int) < 3)) then if (decide ((k : Int) < ((ar : Int), p, q).1)) then (ix ([x.a, x.b, x.c] : List Int) k).bind fun z3 => (m39 z3 0 (wi (i - 1))).bind fun z4 => if (!z4) then (some false).map .inr else if (decide (((ar : Int), p, q).1 ≤ k)) then (ix ([x.a, x.b, x.c] : List Int) k).bind fun z5 => if (!decide (z5 = 0)) then (some false).map .inr else some (.inl (wi (k + 1))) else some (.inl (wi (k + 1))) else if (decide (((ar : Int), p, q).1 ≤ k)) then (ix ([x.a, x.b, x.c] : List Int) k).bind fun z6 => if (!decide (z6 = 0)) then (some false).map .inr else some (.inl (wi (k + 1))) else some (.inl (wi (k + 1))) else (some true).map .inr : Option (Int ⊕ Bool)) = if argB k ar i v then some (.inl ((k : Int) + 1)) else some (.inr false) := fun k v hk hv => by
      have w3 : wi ((k : Int) + 1) = k + 1 := wi_eq (by omega) (by omega)
      simp only [ix_at hv, Option.bind_some, q39, w1, w3, show ((k : Int) < 3) by omega, decide_true, if_true]
      by_cases d : k < ar
      · simp only [argB, d, if_true, show ((k : Int) < ar) by omega, decide_true, show ¬ ((ar : Int) ≤ k) by omega, decide_false]
        cases inB 0 ((i : Int) - 1) v <;> simp
      · simp only [argB, d, if_false, show ¬ ((k : Int) < ar) by omega, decide_false, show ((ar : Int) ≤ k) by omega, decide_true, Bool.false_eq_true, if_true]
        cases decide (v = 0) <;> simp
    rw [lp_all (n := 3) (rT := true) (rF := false) (fun k => match ([x.a, x.b, x.c] : List Int)[k]? with | some v => argB k ar i v | none => true) (fun k hk => by
      have hl : k < ([x.a, x.b, x.c] : List Int).length := by simpa using hk
      rw [hb k _ hk (List.getElem?_eq_getElem hl), List.getElem?_eq_getElem hl]) (by simp) rfl]
    have : (List.range 3).all (fun k => match ([x.a, x.b, x.c] : List Int)[k]? with | some v => argB k ar i v | none => true) = (argB 0 ar i x.a && (argB 1 ar i x.b && argB 2 ar i x.c)) := by
      rw [show List.range 3 = [0, 1, 2] from rfl]; simp
    rw [this]; cases (argB 0 ar i x.a && (argB 1 ar i x.b && argB 2 ar i x.c)) <;> rfl
  have fin : ∀ (ar : Nat) (p q : Int), ((some ((ar : Int), p, q)).bind fun z1 => (m39 x.n z1.2.1 z1.2.2).bind fun z2 => if (!z2) then some false else m40_1 z1 x i 0) = some (inB p q x.n && (argB 0 ar i x.a && (argB 1 ar i x.b && argB 2 ar i x.c))) := fun ar p q => by
    simp only [Option.bind_some, q39, key]
    cases inB p q x.n <;> simp
  unfold m40 m49
  rw [w2]
  by_cases c1 : x.code = 1
  · simp only [c1, decide_true, if_true]
    refine (fin 0 _ _).trans ?_
    simp [opB, numB, arN, c1, show inB 1 17 1 = true from rfl]
  by_cases c2 : x.code = 2
  · simp only [c1, c2, decide_true, decide_false, if_true, if_false, Bool.false_eq_true]
    refine (fin 0 _ _).trans ?_
    simp [opB, numB, arN, c2, show inB 1 17 2 = true from rfl]
  by_cases c3 : x.code = 3
  · simp only [c1, c2, c3, decide_true, decide_false, if_true, if_false, Bool.false_eq_true]
    refine (fin 0 _ _).trans ?_
    simp [opB, numB, arN, c3, show inB 1 17 3 = true from rfl]
  by_cases c4 : x.code = 4
  · simp only [c1, c2, c3, c4, decide_true, decide_false, if_true, if_false, Bool.false_eq_true]
    refine (fin 0 _ _).trans ?_
    simp [opB, numB, arN, c4, show inB 1 17 4 = true from rfl]
  have hn : numB nc x = decide (x.n = 0) := by simp [numB, c1, c2, c3, c4]
  simp only [c1, c2, c3, c4, decide_false, if_false, Bool.false_eq_true]
  by_cases c5 : x.code = 5 ∨ x.code = 6
  · have e3 : inB 1 17 x.code = true := by unfold inB; simp; omega
    rw [if_pos (by simpa using c5)]
    refine (fin 1 _ _).trans ?_
    rw [opB, e3, hn, in0, show arN x.code = 1 by unfold arN; rw [if_neg (by omega), if_pos (by omega)]]; simp
  rw [if_neg (by simpa using c5)]
  by_cases c6 : 7 ≤ x.code ∧ x.code ≤ 16
  · have e3 : inB 1 17 x.code = true := by unfold inB; simp; omega
    rw [if_pos (by simpa using c6)]
    refine (fin 2 _ _).trans ?_
    rw [opB, e3, hn, in0, show arN x.code = 2 by unfold arN; rw [if_neg (by omega), if_neg (by omega), if_pos (by omega)]]; simp
  rw [if_neg (by simpa using c6)]
  by_cases c7 : x.code = 17
  · rw [if_pos (by simpa using c7)]
    refine (fin 3 _ _).trans ?_
    rw [opB, c7, hn, in0, show arN 17 = 3 from rfl, show inB 1 17 17 = true from rfl]; simp
  · have e3 : inB 1 17 x.code = false := by unfold inB; simp; omega
    have e4 : inB 0 (-1) x.n = false := by unfold inB; simp; omega
    rw [if_neg (by simpa using c7), opB, e3]
    simp [q39, e4]
end Go.Proofs.YtpcgfeckokgbfaaGreatDoor
