/- The functions of chapter 11, in plain words: a template behind a core; the law CoreInlines answers true. -/
import Derived.Test.YtpcgfeckokgbfaaGreatDoorV5
set_option linter.all false
namespace Go.Proofs.YtpcgfeckokgbfaaGreatDoor
open Go Go.Dp
theorem q48 (k : Int) : m48 k = some (arN k : Int) := by
  unfold m48 arN
  by_cases h1 : k ≤ 4
  · simp [h1]
  by_cases h2 : k ≤ 6
  · simp [h1, h2]
  by_cases h3 : k ≤ 16
  · simp [h1, h2, h3]
  · simp [h1, h2, h3]
theorem q49 {k : Int} (h : 1 ≤ k ∧ k ≤ 17) : ∃ p q, m49 k 0 = some ((arN k : Int), p, q) := by
  have : k = 1 ∨ k = 2 ∨ k = 3 ∨ k = 4 ∨ k = 5 ∨ k = 6 ∨ (7 ≤ k ∧ k ≤ 16) ∨ k = 17 := by omega
  rcases this with rfl | rfl | rfl | rfl | rfl | rfl | h7 | rfl
  · exact ⟨_, _, rfl⟩
  · exact ⟨_, _, rfl⟩
  · exact ⟨_, _, rfl⟩
  · exact ⟨_, _, rfl⟩
  · exact ⟨_, _, rfl⟩
  · exact ⟨_, _, rfl⟩
  · refine ⟨0, 0, ?_⟩
    have e : arN k = 2 := by unfold arN; rw [if_neg (by omega), if_neg (by omega), if_pos (by omega)]
    rw [e]
    unfold m49
    simp [show ¬ k = 1 by omega, show ¬ k = 2 by omega, show ¬ k = 3 by omega, show ¬ k = 4 by omega, show ¬ k = 5 by omega, show ¬ k = 6 by omega, h7]
  · exact ⟨_, _, rfl⟩
def g_ (l : List Int) (i : Int) : Int := l.getD i.toNat 0
def sub (to : List Int) (x : ApiOp) : ApiOp := ⟨x.code, if 0 < arN x.code then g_ to x.a else x.a, if 1 < arN x.code then g_ to x.b else x.b, if 2 < arN x.code then g_ to x.c else x.c, x.n⟩
def stp (args : List Int) (s : List Int × List ApiOp) (x : ApiOp) : List Int × List ApiOp := if x.code = 4 then (s.1 ++ [g_ args x.n], s.2) else (s.1 ++ [(s.2.length : Int)], s.2 ++ [sub s.1 x])
def stK (args : List Int) (ops0 xs : List ApiOp) : Nat → List Int × List ApiOp
  | 0 => ([], ops0)
  | k + 1 => stp args (stK args ops0 xs k) (xs.getD k ⟨0, 0, 0, 0, 0⟩)
def owns (xs : List ApiOp) : Nat → Nat
  | 0 => 0
  | k + 1 => owns xs k + if (xs.getD k ⟨0, 0, 0, 0, 0⟩).code = 4 then 0 else 1
theorem stK_len (args : List Int) (ops0 xs : List ApiOp) : ∀ k, (stK args ops0 xs k).1.length = k ∧ (stK args ops0 xs k).2.length = ops0.length + owns xs k
  | 0 => ⟨rfl, rfl⟩
  | k + 1 => by
    obtain ⟨h1, h2⟩ := stK_len args ops0 xs k
    rw [stK, owns]
    unfold stp
    split
    · simp [h1, h2]
    · simp [h1, h2]; omega
theorem owns_le (xs : List ApiOp) : ∀ k, owns xs k ≤ k
  | 0 => Nat.le_refl _
  | k + 1 => by have := owns_le xs k; rw [owns]; split <;> omega
theorem g_ix {l : List Int} {i : Int} (h0 : 0 ≤ i) (h1 : i < l.length) : ix l i = some (g_ l i) := by
  have hlt : i.toNat < l.length := by omega
  rw [ix_in h0 hlt, g_]; simp [List.getD, List.getElem?_eq_getElem hlt]
/-- a template that fits -/
structure Fit (x : ApiTemplate) (args : List Int) : Prop where
  ops : ∀ i y, x.core.ops[i]? = some y → opB 0 i y = true ∧ (y.code = 4 → 0 ≤ y.n ∧ y.n < args.length)
  roots : ∀ r ∈ x.core.roots, 0 ≤ r ∧ r < x.core.ops.length
  sz : x.core.ops.length ≤ 3000 ∧ x.core.roots.length ≤ 3000
section
variable {x : ApiTemplate} {args : List Int} (hf : Fit x args) {ops0 : List ApiOp} (h0 : ops0.length ≤ 3000)
include hf h0
theorem q19_4 (z3 : List ApiChoice) (z5 : List Int) : m19_4 x args z3 z5 ([], 0, ops0) = m19_2 x z3 z5 ((stK args ops0 x.core.ops x.core.ops.length).1, (stK args ops0 x.core.ops x.core.ops.length).2) := by
  have hsz := hf.sz
  unfold m19_4
  refine (lp_at (fun i : Nat => ((stK args ops0 x.core.ops i).1, (i : Int), (stK args ops0 x.core.ops i).2)) x.core.ops.length (fun i hi => ?_)).trans ?_
  · have hg : x.core.ops[i]? = some x.core.ops[i] := List.getElem?_eq_getElem hi
    obtain ⟨h1, h2⟩ := hf.ops _ _ hg
    obtain ⟨hc, hn, ha, hb, hcc⟩ := opB_spec h1
    obtain ⟨l1, l2⟩ := stK_len args ops0 x.core.ops i
    have hol := owns_le x.core.ops i
    have w1 : wi ((i : Int) + 1) = ((i + 1 : Nat) : Int) := by rw [wi_eq (by omega) (by omega)]; simp
    show (if decide ((i : Int) < x.core.ops.length) = true then _ else _) = _
    rw [if_pos (by simpa using hi), ix_lt hi]
    simp only [Option.bind_some, m36, stK, List.getD, hg, Option.getD_some]
    generalize hy : x.core.ops[i] = y at *
    generalize stK args ops0 x.core.ops i = s at *
    obtain ⟨to, ops⟩ := s
    unfold stp
    by_cases c4 : y.code = 4
    · rw [if_pos (by simpa using c4), if_pos c4, g_ix (h2 c4).1 (h2 c4).2]
      simp only [Option.bind_some]
      rw [ap_ok (by simp at l1 ⊢; omega), w1]; rfl
    · rw [if_neg (by simpa using c4), if_neg c4]
      have fin : ∀ a b c, m19_5 to ops y i (a, b, c) = some (.inl (to ++ [(ops.length : Int)], ((i + 1 : Nat) : Int), ops ++ [⟨y.code, a, b, c, y.n⟩])) := fun a b c => by
        unfold m19_5
        simp only
        rw [ap_ok (by simp at l1 ⊢; omega)]
        simp only [Option.bind_some]
        rw [ap_ok (by simp at l2 ⊢; omega), w1]; rfl
      simp only [q48, Option.bind_some, fin]
      simp only at l1 l2
      have hcase : arN y.code = 0 ∨ arN y.code = 1 ∧ 5 ≤ y.code ∨ arN y.code = 2 ∧ 7 ≤ y.code ∨ arN y.code = 3 ∧ y.code = 17 := by
        unfold arN; split <;> (try split) <;> (try split) <;> omega
      unfold sub
      rcases hcase with e | ⟨e, h5⟩ | ⟨e, h7⟩ | ⟨e, h17⟩
      · simp [e]
      · have i1 := g_ix (l := to) (ha (by omega)).1 (by have := (ha (by omega)).2; omega)
        simp [e, i1]
      · have i1 := g_ix (l := to) (ha (by omega)).1 (by have := (ha (by omega)).2; omega)
        have i2 := g_ix (l := to) (hb (by omega)).1 (by have := (hb (by omega)).2; omega)
        simp [e, i1, i2]
      · have i1 := g_ix (l := to) (ha (by omega)).1 (by have := (ha (by omega)).2; omega)
        have i2 := g_ix (l := to) (hb (by omega)).1 (by have := (hb (by omega)).2; omega)
        have i3 := g_ix (l := to) (hcc h17).1 (by have := (hcc h17).2; omega)
        simp [e, i1, i2, i3]
  · cases hz : m19_2 x z3 z5 ((stK args ops0 x.core.ops x.core.ops.length).1, (stK args ops0 x.core.ops x.core.ops.length).2) with
    | some r => rw [Lp.out (r := r)]; simp [hz]
    | none =>
      cases hl : Lp _ _ with
      | none => rfl
      | some r =>
        exfalso
        obtain ⟨n, hn⟩ := Lp.rch hl
        cases hn with
        | out k => simp [hz] at k
        | on k _ => simp [hz] at k
/-- what roots become -/
def rtV (x : ApiTemplate) (to : List Int) : List Int := x.core.roots.map (g_ to)
theorem q19_3 {to : List Int} (ht : to.length = x.core.ops.length) (z3 : List ApiChoice) (ops : List ApiOp) (z5 : List Int) : m19_3 x to z3 ops z5 ([], 0) = some (⟨z3, ops, z5⟩, rtV x to, 0) := by
  have hsz := hf.sz
  unfold m19_3
  refine lp_end (fun i : Nat => ((x.core.roots.take i).map (g_ to), (i : Int))) x.core.roots.length (fun i hi => ?_) (by simp [rtV])
  show (if decide ((i : Int) < x.core.roots.length) = true then _ else _) = _
  obtain ⟨r0, r1⟩ := hf.roots _ (List.getElem_mem hi)
  rw [if_pos (by simpa using hi), ix_lt hi]
  simp only [Option.bind_some]
  rw [g_ix r0 (by omega)]
  simp only [Option.bind_some]
  rw [ap_ok (by simp; omega), wi_eq (by omega) (by omega)]
  rw [show List.take (i + 1) x.core.roots = List.take i x.core.roots ++ [x.core.roots[i]] by rw [List.take_add_one, List.getElem?_eq_getElem hi]; rfl, List.map_append]; simp
theorem q21_2 {to : List Int} (ht : to.length = x.core.ops.length) (z1 : (List ApiChoice) × (List ApiOp) × Nat × (List Int)) (ops : List ApiOp) : m21_2 x to z1 ops ([], 0) = some (⟨z1.1, ops, z1.2.2.2⟩, rtV x to) := by
  have hsz := hf.sz
  unfold m21_2
  refine lp_end (fun i : Nat => ((x.core.roots.take i).map (g_ to), (i : Int))) x.core.roots.length (fun i hi => ?_) (by simp [rtV])
  show (if decide ((i : Int) < x.core.roots.length) = true then _ else _) = _
  obtain ⟨r0, r1⟩ := hf.roots _ (List.getElem_mem hi)
  rw [if_pos (by simpa using hi), ix_lt hi]
  simp only [Option.bind_some]
  rw [g_ix r0 (by omega)]
  simp only [Option.bind_some]
  rw [ap_ok (by simp; omega), wi_eq (by omega) (by omega)]
  rw [show List.take (i + 1) x.core.roots = List.take i x.core.roots ++ [x.core.roots[i]] by rw [List.take_add_one, List.getElem?_eq_getElem hi]; rfl, List.map_append]; simp
theorem q21_3 (z1 : (List ApiChoice) × (List ApiOp) × Nat × (List Int)) : m21_3 x args z1 ([], 0, ops0) = some (⟨z1.1, (stK args ops0 x.core.ops x.core.ops.length).2, z1.2.2.2⟩, rtV x (stK args ops0 x.core.ops x.core.ops.length).1) := by
  have hsz := hf.sz
  unfold m21_3
  refine lp_end (fun i : Nat => ((stK args ops0 x.core.ops i).1, (i : Int), (stK args ops0 x.core.ops i).2)) x.core.ops.length (fun i hi => ?_) ?_
  · have hg : x.core.ops[i]? = some x.core.ops[i] := List.getElem?_eq_getElem hi
    obtain ⟨h1, h2⟩ := hf.ops _ _ hg
    obtain ⟨hc, hn, ha, hb, hcc⟩ := opB_spec h1
    obtain ⟨l1, l2⟩ := stK_len args ops0 x.core.ops i
    have hol := owns_le x.core.ops i
    have w1 : wi ((i : Int) + 1) = ((i + 1 : Nat) : Int) := by rw [wi_eq (by omega) (by omega)]; simp
    show (if decide ((i : Int) < x.core.ops.length) = true then _ else _) = _
    rw [if_pos (by simpa using hi), ix_lt hi]
    simp only [Option.bind_some, stK, List.getD, hg, Option.getD_some]
    generalize hy : x.core.ops[i] = y at *
    generalize stK args ops0 x.core.ops i = s at *
    obtain ⟨to, ops⟩ := s
    unfold stp
    by_cases c4 : y.code = 4
    · rw [if_pos (by simpa using c4), if_pos c4, g_ix (h2 c4).1 (h2 c4).2]
      simp only [Option.bind_some]
      rw [ap_ok (by simp at l1 ⊢; omega), w1]; rfl
    · rw [if_neg (by simpa using c4), if_neg c4]
      obtain ⟨p, q, hz⟩ := q49 hc
      have fin : ∀ a b c, m21_6 to ops b c y i (y.code, a) = some (.inl (to ++ [(ops.length : Int)], ((i + 1 : Nat) : Int), ops ++ [⟨y.code, b, c, a, y.n⟩])) := fun a b c => by
        unfold m21_6
        simp only
        rw [ap_ok (by simp at l1 ⊢; omega)]
        simp only [Option.bind_some]
        rw [ap_ok (by simp at l2 ⊢; omega), w1]; rfl
      rw [hz]
      simp only [Option.bind_some]
      simp only at l1 l2
      have hcase : arN y.code = 0 ∨ arN y.code = 1 ∧ 5 ≤ y.code ∨ arN y.code = 2 ∧ 7 ≤ y.code ∨ arN y.code = 3 ∧ y.code = 17 := by
        unfold arN; split <;> (try split) <;> (try split) <;> omega
      unfold sub
      rcases hcase with e | ⟨e, h5⟩ | ⟨e, h7⟩ | ⟨e, h17⟩
      · simp [e, m21_4, m21_5, fin]
      · have i1 := g_ix (l := to) (ha (by omega)).1 (by have := (ha (by omega)).2; omega)
        simp [e, i1, m21_4, m21_5, fin]
      · have i1 := g_ix (l := to) (ha (by omega)).1 (by have := (ha (by omega)).2; omega)
        have i2 := g_ix (l := to) (hb (by omega)).1 (by have := (hb (by omega)).2; omega)
        simp [e, i1, i2, m21_4, m21_5, fin]
      · have i1 := g_ix (l := to) (ha (by omega)).1 (by have := (ha (by omega)).2; omega)
        have i2 := g_ix (l := to) (hb (by omega)).1 (by have := (hb (by omega)).2; omega)
        have i3 := g_ix (l := to) (hcc h17).1 (by have := (hcc h17).2; omega)
        simp [e, i1, i2, i3, m21_4, m21_5, fin]
  · show (if decide (((x.core.ops.length : Nat) : Int) < x.core.ops.length) = true then _ else _) = _
    rw [if_neg (by simp)]
    unfold m21_1
    simp only
    rw [q21_2 hf h0 (stK_len _ _ _ _).1]; rfl
end
/-- the error of a template and its arguments -/
def parOk (x : ApiTemplate) (n : Nat) : Bool := (List.range n).all (atB (fun y : ApiOp => !(decide (y.code = 4) && decide (x.params ≤ y.n))) x.core.ops)
def fitE (c : ApiCore) (x : ApiTemplate) (args : List Int) : Int :=
  if chk c ≠ 0 then chk c else if chk x.core ≠ 0 then chk x.core else if ¬ (x.core.choices.length = 0) ∨ inB 0 32 x.params = false ∨ x.core.ops.all (fun y => !(decide (y.code = 4) && decide (x.params ≤ y.n))) = false then 4 else
  if args.all (inB 0 ((c.ops.length : Int) - 1)) = false ∨ ¬ ((args.length : Int) = x.params) then 2 else if 3000 < c.ops.length + owns x.core.ops x.core.ops.length then 5 else 0
theorem q44 {x : ApiTemplate} (h : x.core.ops.length ≤ 1000000) : m44 x = some (decide (x.core.choices.length = 0) && (inB 0 32 x.params && x.core.ops.all (fun y => !(decide (y.code = 4) && decide (x.params ≤ y.n))))) := by
  unfold m44
  by_cases e : x.core.choices.length = 0
  · rw [if_pos (by simp [e]), q33 (by simp)]
    simp only [Option.bind_some, List.all_cons, List.all_nil, Bool.and_true]
    cases hp : inB 0 32 x.params with
    | false => simp [e]
    | true =>
      rw [if_pos rfl]
      unfold m35i1 m63i1 m63i1_1
      obtain ⟨r, h1, h2⟩ := find_any (xs := x.core.ops) (f := fun z => m75i1 z x) (p := fun y => decide (y.code = 4) && decide (x.params ≤ y.n)) (by omega) (fun y _ => rfl)
      rw [h1]
      have e2 : x.core.ops.all (fun y => !(decide (y.code = 4) && decide (x.params ≤ y.n))) = !(x.core.ops.any fun y => decide (y.code = 4) && decide (x.params ≤ y.n)) := by rw [List.any_eq_not_all_not]; simp
      rw [e2]
      rcases h2 with ⟨h3, h4, _⟩ | ⟨h3, rfl⟩
      · rw [h3]; simp only [e, decide_true, Bool.true_and, Bool.not_true]
        simp
        omega
      · rw [h3]; simp [e]
  · rw [if_neg (by rw [decide_eq_true_eq]; omega), decide_eq_false e]; rfl
theorem fit_of {c : ApiCore} {x : ApiTemplate} {args : List Int} (h1 : chk x.core = 0) (h2 : x.core.choices.length = 0) (h3 : x.core.ops.all (fun y => !(decide (y.code = 4) && decide (x.params ≤ y.n))) = true) (h4 : (args.length : Int) = x.params) : Fit x args := by
  unfold chk at h1
  split at h1
  · cases h1
  split at h1
  · cases h1
  split at h1
  · cases h1
  rename_i k1 k2 k3
  have k3' : opsB x.core.choices.length x.core.ops = true ∧ x.core.roots.all (inB 0 ((x.core.ops.length : Int) - 1)) = true := by
    constructor
    · cases e : opsB x.core.choices.length x.core.ops with
      | true => rfl
      | false => exact absurd (.inl e) k3
    · cases e : x.core.roots.all (inB 0 ((x.core.ops.length : Int) - 1)) with
      | true => rfl
      | false => exact absurd (.inr e) k3
  rw [h2] at k3'
  refine ⟨fun i y hy => ?_, fun r hr => ?_, by omega⟩
  · have a1 := List.all_eq_true.1 k3'.1 i (List.mem_range.2 (List.getElem?_eq_some_iff.1 hy).1)
    rw [atB_get hy] at a1
    refine ⟨a1, fun c4 => ?_⟩
    have a2 := List.all_eq_true.1 h3 y (List.mem_of_getElem? hy)
    have a3 := (opB_spec a1).2.1
    simp [numB, c4, inB] at a3
    simp [c4] at a2
    omega
  · have := List.all_eq_true.1 k3'.2 r hr
    simp [inB] at this; omega
theorem q20_3 {c : ApiCore} {x : ApiTemplate} {args : List Int} (hs : Sm c) (ha : args.length ≤ 1000000) (n : Nat) (hn : n ≤ 1000000) : m20_3 args c x n 0 = some (if args.all (inB 0 ((c.ops.length : Int) - 1)) = true then (if ¬ ((args.length : Int) = x.params) then 2 else if 3000 < c.ops.length + n then 5 else 0) else 2) := by
  have ho := hs.ops
  unfold m20_3
  rw [lp_all (n := args.length) (rT := (if ¬ ((args.length : Int) = x.params) then (2 : Int) else if 3000 < c.ops.length + n then 5 else 0)) (rF := (2 : Int)) (atB (inB 0 ((c.ops.length : Int) - 1)) args) (fun i hi => by
    have : wi ((i : Int) + 1) = i + 1 := wi_eq (by omega) (by omega)
    rw [if_pos (by simpa using hi), ix_lt hi, atB_lt hi, this]
    simp only [Option.bind_some, q39, wi_eq (n := (c.ops.length : Int) - 1) (by omega) (by omega)]
    cases inB 0 ((c.ops.length : Int) - 1) args[i] <;> rfl) (by
      rw [if_neg (by simp)]
      unfold m20_2
      by_cases e : (args.length : Int) = x.params
      · rw [if_neg (by simp [e]), show wi ((c.ops.length : Int) + n) = (c.ops.length : Int) + n from wi_eq (by omega) (by omega)]
        by_cases e2 : 3000 < c.ops.length + n
        · rw [if_pos (by simp; omega), if_neg (fun h => h e), if_pos e2]; rfl
        · rw [if_neg (by simp; omega), if_neg (fun h => h e), if_neg e2]; rfl
      · rw [if_pos (by simp [e]), if_pos e]; rfl) rfl, all_at]
theorem q20_4 {c : ApiCore} {x : ApiTemplate} {args : List Int} (hs : Sm c) (hx : x.core.ops.length ≤ 1000000) (ha : args.length ≤ 1000000) : m20_4 x args c (0, 0) = some (if x.core.ops.all (fun y => !(decide (y.code = 4) && decide (x.params ≤ y.n))) = true then (if args.all (inB 0 ((c.ops.length : Int) - 1)) = true then (if ¬ ((args.length : Int) = x.params) then 2 else if 3000 < c.ops.length + owns x.core.ops x.core.ops.length then 5 else 0) else 2) else 4) := by
  have step : ∀ i y, x.core.ops[i]? = some y → (!(decide (y.code = 4) && decide (x.params ≤ y.n))) = true → (fun (s9_3, s10_3) => if (decide (s10_3 < (x.core.ops.length : Int))) then (ix x.core.ops s10_3).bind fun (z6 : ApiOp) => if (!decide (z6.code = 4)) then some (.inl ((wi (s9_3 + 1)), (wi (s10_3 + 1)))) else (ix x.core.ops s10_3).bind fun (z7 : ApiOp) => if (decide (x.params ≤ z7.n)) then (some 4).map .inr else some (.inl (s9_3, (wi (s10_3 + 1)))) else (m20_1 args c x s9_3).map .inr : (Int × Int) → Option ((Int × Int) ⊕ Int)) ((owns x.core.ops i : Int), (i : Int)) = some (.inl ((owns x.core.ops (i + 1) : Int), ((i + 1 : Nat) : Int))) := fun i y hy hp => by
    have hi := (List.getElem?_eq_some_iff.1 hy).1
    have hol := owns_le x.core.ops i
    have w1 : wi ((i : Int) + 1) = ((i + 1 : Nat) : Int) := by rw [wi_eq (by omega) (by omega)]; simp
    simp only
    rw [if_pos (by simpa using hi), ix_at hy]
    simp only [Option.bind_some]
    rw [owns, show x.core.ops.getD i ⟨0, 0, 0, 0, 0⟩ = y by simp [List.getD, hy]]
    by_cases c4 : y.code = 4
    · rw [if_neg (by simp [c4]), if_pos c4, w1]
      rw [if_neg (by simpa [c4] using hp)]; simp
    · rw [if_pos (by simp [c4]), if_neg c4, w1, wi_eq (by omega) (by omega)]; simp
  unfold m20_4
  by_cases hall : x.core.ops.all (fun y => !(decide (y.code = 4) && decide (x.params ≤ y.n))) = true
  · rw [if_pos hall]
    refine lp_end (fun i : Nat => ((owns x.core.ops i : Int), (i : Int))) x.core.ops.length (fun i hi => step i _ (List.getElem?_eq_getElem hi) (List.all_eq_true.1 hall _ (List.getElem_mem hi))) ?_
    simp only
    rw [if_neg (by simp)]
    unfold m20_1
    rw [q20_3 hs ha _ (by have := owns_le x.core.ops x.core.ops.length; omega)]; rfl
  · rw [if_neg hall]
    have hex : ∃ j : Nat, ∃ y : ApiOp, x.core.ops[j]? = some y ∧ (!(decide (y.code = 4) && decide (x.params ≤ y.n))) = false := by
      simp only [Bool.not_eq_true, List.all_eq_false] at hall
      obtain ⟨y, hy, hp⟩ := hall
      obtain ⟨j, hj⟩ := List.getElem?_of_mem hy
      exact ⟨j, y, hj, by simpa using hp⟩
    obtain ⟨j, ⟨y, hy, hp⟩, hl⟩ := Go.Mi.least hex
    have hj := (List.getElem?_eq_some_iff.1 hy).1
    refine lp_end (fun i : Nat => ((owns x.core.ops i : Int), (i : Int))) j (fun i hi => step i _ (List.getElem?_eq_getElem (by omega)) ?_) ?_
    · cases e : (!(decide (x.core.ops[i].code = 4) && decide (x.params ≤ x.core.ops[i].n))) with
      | true => rfl
      | false => have := hl i ⟨_, List.getElem?_eq_getElem (by omega), e⟩; omega
    · have hp' : y.code = 4 ∧ x.params ≤ y.n := by simpa using hp
      simp only
      rw [if_pos (by simpa using hj), ix_at hy]
      simp only [Option.bind_some]
      rw [if_neg (by simp [hp'.1]), if_pos (by simp [hp'.2])]; rfl
theorem q20 {c : ApiCore} {x : ApiTemplate} {args : List Int} (hs : Sm c) (hx : Sm x.core) (ha : args.length ≤ 1000000) : m20 c x args = some (fitE c x args) := by
  have ho := hx.ops
  unfold m20
  rw [q14 hs]
  refine Eq.trans (Option.bind_some ..) ?_
  by_cases h1 : chk c = 0
  · refine (if_neg (by simp [h1])).trans ?_
    rw [q14 hx]
    refine Eq.trans (Option.bind_some ..) ?_
    by_cases h2 : chk x.core = 0
    · refine (if_neg (by simp [h2])).trans ?_
      have hf : fitE c x args = _ := (if_neg (fun h => h h1)).trans (if_neg (fun h => h h2))
      rw [hf]
      by_cases h3 : x.core.choices.length = 0
      · refine (if_neg (by rw [h3]; simp)).trans ?_
        rw [q39]
        refine Eq.trans (Option.bind_some ..) ?_
        cases h4 : inB 0 32 x.params with
        | false => exact (if_pos (by simp)).trans (congrArg some (if_pos (.inr (.inl rfl))).symm)
        | true =>
          refine (if_neg (by simp)).trans ?_
          rw [q20_4 hs ho ha]
          refine congrArg some ?_
          cases h5 : x.core.ops.all (fun y => !(decide (y.code = 4) && decide (x.params ≤ y.n))) with
          | false => exact (if_neg (by simp)).trans (if_pos (.inr (.inr rfl))).symm
          | true =>
            refine (if_pos rfl).trans (Eq.trans ?_ (if_neg (by rintro (h | h | h); exact h h3; cases h; cases h)).symm)
            cases h6 : args.all (inB 0 ((c.ops.length : Int) - 1)) with
            | false => exact (if_neg (by simp)).trans (if_pos (.inl rfl)).symm
            | true =>
              refine (if_pos rfl).trans ?_
              by_cases h7 : (args.length : Int) = x.params
              · exact (if_neg (fun h => h h7)).trans (if_neg (by rintro (h | h); cases h; exact h h7)).symm
              · exact (if_pos h7).trans (if_pos (.inr h7)).symm
      · exact (if_pos (by rw [decide_eq_true_eq]; omega)).trans (congrArg some (if_pos (.inl h3)).symm)
    · refine (if_pos (by simpa using h2)).trans (congrArg some ?_)
      exact ((if_neg (fun h => h h1)).trans (if_pos h2)).symm
  · exact (if_pos (by simpa using h1)).trans (congrArg some (if_pos h1).symm)
theorem chk_sz {c : ApiCore} (h : chk c = 0) : c.ops.length ≤ 3000 ∧ c.roots.length ≤ 3000 := by
  unfold chk at h
  split at h
  · cases h
  · omega
theorem q19 {c : ApiCore} {x : ApiTemplate} {args : List Int} (hs : Sm c) (hx : Sm x.core) (ha : args.length ≤ 1000000) : m19 c x args = some (if fitE c x args = 0 then (⟨c.choices, (stK args c.ops x.core.ops x.core.ops.length).2, c.roots⟩, rtV x (stK args c.ops x.core.ops x.core.ops.length).1, 0) else (⟨[], [], []⟩, [], fitE c x args)) := by
  have ho := hx.ops
  have hc := hs.ch; have hco := hs.ops; have hcr := hs.roots
  unfold m19
  rw [show (⟨c.choices, c.ops, c.roots⟩ : ApiCore) = c from rfl, q9 hs]
  simp only [Option.bind_some]
  by_cases h1 : chk c = 0
  · rw [if_neg (by simp [h1]), q9 hx]
    simp only [Option.bind_some]
    by_cases h2 : chk x.core = 0
    · rw [if_neg (by simp [h2]), q44 ho]
      simp only [Option.bind_some]
      have hfe : ∀ e, fitE c x args = e ↔ (if ¬ (x.core.choices.length = 0) ∨ inB 0 32 x.params = false ∨ x.core.ops.all (fun y => !(decide (y.code = 4) && decide (x.params ≤ y.n))) = false then (4 : Int) else if args.all (inB 0 ((c.ops.length : Int) - 1)) = false ∨ ¬ ((args.length : Int) = x.params) then 2 else if 3000 < c.ops.length + owns x.core.ops x.core.ops.length then 5 else 0) = e := fun e => by
        unfold fitE; rw [if_neg (by simp [h1]), if_neg (by simp [h2])]
      by_cases h3 : ¬ (x.core.choices.length = 0) ∨ inB 0 32 x.params = false ∨ x.core.ops.all (fun y => !(decide (y.code = 4) && decide (x.params ≤ y.n))) = false
      · have e4 := (hfe 4).2 (if_pos h3)
        rw [e4, if_pos (by
          rcases h3 with h | h | h
          · simp [h]
          · simp [h]
          · rw [h]; simp), if_neg (by decide)]
      · have h3' : x.core.choices.length = 0 ∧ inB 0 32 x.params = true ∧ x.core.ops.all (fun y => !(decide (y.code = 4) && decide (x.params ≤ y.n))) = true := by
          refine ⟨Classical.not_not.1 fun h => h3 (.inl h), ?_, ?_⟩
          · cases h : inB 0 32 x.params with
            | true => rfl
            | false => exact absurd (.inr (.inl h)) h3
          · cases h : x.core.ops.all (fun y => !(decide (y.code = 4) && decide (x.params ≤ y.n))) with
            | true => rfl
            | false => exact absurd (.inr (.inr h)) h3
        rw [if_neg (by rw [h3'.1, h3'.2.1, h3'.2.2]; simp)]
        by_cases h4 : (args.length : Int) = x.params
        · rw [if_neg (by simp [h4]), q33 (by omega), wi_eq (by omega) (by omega)]
          simp only [Option.bind_some]
          cases h5 : args.all (inB 0 ((c.ops.length : Int) - 1)) with
          | false =>
            have e2 := (hfe 2).2 (by rw [if_neg h3, if_pos (.inl h5)])
            rw [e2, if_pos (by simp), if_neg (by decide)]
          | true =>
            rw [if_neg (by simp)]
            have hf : Fit x args := fit_of (c := c) h2 h3'.1 h3'.2.2 h4
            obtain ⟨z1, z2⟩ := chk_sz h1
            have hl := stK_len args c.ops x.core.ops x.core.ops.length
            unfold m19_1
            simp only [m45, m46i1, m47]
            rw [ap_nil (by omega)]
            simp only [Option.bind_some]
            rw [ap_nil (by omega)]
            simp only [Option.bind_some]
            rw [ap_nil (by omega)]
            simp only [Option.bind_some]
            rw [q19_4 hf z1]
            unfold m19_2
            simp only
            by_cases h6 : 3000 < c.ops.length + owns x.core.ops x.core.ops.length
            · have e5 := (hfe 5).2 (by rw [if_neg h3, if_neg (by simp [h5, h4]), if_pos h6])
              rw [if_pos (by simp [hl.2]; omega), e5, if_neg (by decide)]
            · have e0 := (hfe 0).2 (by rw [if_neg h3, if_neg (by simp [h5, h4]), if_neg h6])
              rw [if_neg (by simp [hl.2]; omega), e0, if_pos rfl, q19_3 hf z1 hl.1]
        · have e2 := (hfe 2).2 (by rw [if_neg h3, if_pos (.inr h4)])
          rw [if_pos (by simp [h4]), if_pos (by simp [h4]), e2, if_neg (by decide)]
    · have e2 : fitE c x args = chk x.core := by unfold fitE; rw [if_neg (by simp [h1]), if_pos h2]
      rw [if_pos (by simpa using h2), e2, if_neg h2]
  · have e2 : fitE c x args = chk c := by unfold fitE; rw [if_pos h1]
    rw [if_pos (by simpa using h1), e2, if_neg h1]
theorem q21 {c : ApiCore} {x : ApiTemplate} {args : List Int} (hs : Sm c) (h : fitE c x args = 0) : m21 c x args = some (⟨c.choices, (stK args c.ops x.core.ops x.core.ops.length).2, c.roots⟩, rtV x (stK args c.ops x.core.ops x.core.ops.length).1) := by
  have hc := hs.ch; have hco := hs.ops; have hcr := hs.roots
  unfold fitE at h
  split at h
  · exact absurd h (by assumption)
  split at h
  · exact absurd h (by assumption)
  split at h
  · cases h
  split at h
  · cases h
  split at h
  · cases h
  rename_i h1 h2 h3 h4 h5
  have h1' : chk c = 0 := Classical.not_not.1 h1
  have h2' : chk x.core = 0 := Classical.not_not.1 h2
  have hf : Fit x args := fit_of (c := c) h2' (Classical.not_not.1 fun h => h3 (.inl h)) (by
    cases h : x.core.ops.all (fun y => !(decide (y.code = 4) && decide (x.params ≤ y.n))) with
    | true => rfl
    | false => exact absurd (.inr (.inr h)) h3) (Classical.not_not.1 fun h => h4 (.inr h))
  unfold m21 m8i1
  rw [ap_nil (by omega)]
  simp only [Option.bind_some]
  rw [ap_nil (by omega)]
  simp only [Option.bind_some]
  rw [ap_nil (by omega)]
  simp only [Option.bind_some]
  exact q21_3 hf (chk_sz h1').1 _
/-- CoreInlines answers true. -/
theorem law4 (c : ApiCore) (x : ApiTemplate) (args : List Int) : m4 c x args = some true := by
  unfold m4
  have q6 : ∀ d : ApiCore, m6 d = some (decide (10 < d.choices.length ∨ 400 < d.ops.length ∨ 400 < d.roots.length)) := fun d => by
    unfold m6; congr 1; rw [Bool.eq_iff_iff]; simp; omega
  rw [q6, q6]
  simp only [Option.bind_some, m7]
  by_cases hv : 10 < c.choices.length ∨ 400 < c.ops.length ∨ 400 < c.roots.length
  · rw [if_pos (by simpa using hv)]
  rw [if_neg (by simpa using hv)]
  by_cases hv2 : (10 < x.core.choices.length ∨ 400 < x.core.ops.length ∨ 400 < x.core.roots.length) ∨ 50 < args.length ∨ 40 < x.name.size
  · rw [if_pos (by simp; omega)]
  rw [if_neg (by simp; omega)]
  have hs : Sm c := ⟨by omega, by omega, by omega⟩
  have hx : Sm x.core := ⟨by omega, by omega, by omega⟩
  rw [q8 hs, q8 hx]
  simp only [Option.bind_some]
  rw [ap_nil (by omega)]
  simp only [Option.bind_some]
  rw [show (⟨c.choices, c.ops, c.roots⟩ : ApiCore) = c from rfl, show (⟨x.core.choices, x.core.ops, x.core.roots⟩ : ApiCore) = x.core from rfl, show (⟨x.name, x.params, x.core⟩ : ApiTemplate) = x from rfl, q19 hs hx (by omega), q12 hs, q12 hx, q13 (by omega), q20 hs hx (by omega)]
  simp only [Option.bind_some, decide_true, Bool.not_true, Bool.false_eq_true, if_false]
  by_cases hf : fitE c x args = 0
  · rw [if_neg (by simp [hf]), q21 hs hf, if_pos hf]
    have hl := stK_len args c.ops x.core.ops x.core.ops.length
    have hol := owns_le x.core.ops x.core.ops.length
    simp only [Option.bind_some, decide_true, if_true]
    rw [q12 ⟨by simp; omega, by simp [hl.2]; omega, by simp; omega⟩]
    simp only [Option.bind_some, decide_true, if_true]
    rw [q13 (by simp [rtV]; omega)]
    simp
  · rw [if_pos (by simp [hf]), if_neg hf]
    simp only [decide_true, if_true]
    rw [q12 ⟨by simp, by simp, by simp⟩]
    simp
end Go.Proofs.YtpcgfeckokgbfaaGreatDoor
