/- The functions of chapter 11, in plain words: a made core is valid; the law CoreEarlier answers true for bytes. -/
import Derived.Test.YtpcgfeckokgbfaaGreatDoorV5
set_option linter.all false
namespace Go.Proofs.YtpcgfeckokgbfaaGreatDoor
open Go Go.Dp
structure B92 (z : Anon92) : Prop where
  h0 : 0 ≤ z.a0 ∧ z.a0 ≤ 255
  h1 : 0 ≤ z.a1 ∧ z.a1 ≤ 255
  h2 : 0 ≤ z.a2 ∧ z.a2 ≤ 255
  h3 : 0 ≤ z.a3 ∧ z.a3 ≤ 255
structure B51 (z : Anon51) : Prop where
  h0 : 0 ≤ z.a0 ∧ z.a0 ≤ 255
  h1 : 0 ≤ z.a1 ∧ z.a1 ≤ 255
  h2 : 0 ≤ z.a2 ∧ z.a2 ≤ 255
theorem md_pos {a b : Int} (ha : 0 ≤ a) (hb : 0 < b) : md a b = some (a % b) := by
  unfold md
  rw [if_neg (by omega), Int.tmod_eq_emod_of_nonneg ha]
theorem em_bd {a b : Int} (hb : 0 < b) : 0 ≤ a % b ∧ a % b < b := ⟨Int.emod_nonneg _ (by omega), Int.emod_lt_of_pos _ hb⟩
/-- an operation of a recipe -/
def mk1 (l : Int) (z : Anon92) : ApiOp :=
  if 1 + z.a0 % 17 = 1 then ⟨1, 0, 0, 0, z.a1 - 100⟩ else if 1 + z.a0 % 17 = 2 then ⟨2, 0, 0, 0, 1 + z.a1 % 4⟩ else if 1 + z.a0 % 17 = 3 ∨ 1 + z.a0 % 17 = 4 then ⟨3, 0, 0, 0, z.a1 % 2⟩ else
  if 1 + z.a0 % 17 = 5 ∨ 1 + z.a0 % 17 = 6 then ⟨1 + z.a0 % 17, l - 1 - z.a1 % mn l 8, 0, 0, 0⟩ else if 1 + z.a0 % 17 = 17 then ⟨1 + z.a0 % 17, l - 1 - z.a1 % mn l 8, l - 1 - z.a2 % mn l 8, l - 1 - z.a3 % mn l 8, 0⟩ else ⟨1 + z.a0 % 17, l - 1 - z.a1 % mn l 8, l - 1 - z.a2 % mn l 8, 0, 0⟩
theorem mn_bd {l : Nat} (h : 2 ≤ l) : 0 < mn l 8 ∧ mn l 8 ≤ l := by unfold mn; split <;> omega
theorem mk1_ok {l : Nat} {z : Anon92} (h : 2 ≤ l) (hz : B92 z) : opB 2 l (mk1 l z) = true ∧ ¬ (mk1 l z).code = 4 := by
  obtain ⟨m1, m2⟩ := mn_bd h
  have k := em_bd (a := z.a0) (b := 17) (by omega)
  have e1 := em_bd (a := z.a1) m1
  have e2 := em_bd (a := z.a2) m1
  have e3 := em_bd (a := z.a3) m1
  have f4 := em_bd (a := z.a1) (b := 4) (by omega)
  have f2 := em_bd (a := z.a1) (b := 2) (by omega)
  have hz1 := hz.h1
  have hr : ∀ a : Int, 0 ≤ a ∧ a < mn l 8 → inB 0 ((l : Int) - 1) ((l : Int) - 1 - a) = true := fun a ha => by simp [inB]; omega
  have k0 : 1 ≤ 1 + z.a0 % 17 ∧ 1 + z.a0 % 17 ≤ 17 := by omega
  unfold mk1
  generalize 1 + z.a0 % 17 = c at *
  by_cases c1 : c = 1
  · rw [if_pos c1]; simp [opB, numB, argB, arN, inB]
    omega
  rw [if_neg c1]
  by_cases c2 : c = 2
  · rw [if_pos c2]; simp [opB, numB, argB, arN, inB]; omega
  rw [if_neg c2]
  by_cases c3 : c = 3 ∨ c = 4
  · rw [if_pos c3]; simp [opB, numB, argB, arN, inB]; omega
  rw [if_neg c3]
  have hc : 5 ≤ c ∧ c ≤ 17 := by omega
  by_cases c5 : c = 5 ∨ c = 6
  · rw [if_pos c5]
    refine ⟨?_, by show ¬ c = 4; omega⟩
    have ar : arN c = 1 := by unfold arN; rw [if_neg (by omega), if_pos (by omega)]
    have h1 := hr _ e1
    have hk : inB 1 17 c = true := by simp [inB]; omega
    simp [opB, numB, argB, ar, h1, hk, show ¬ c = 1 by omega, show ¬ c = 2 by omega, show ¬ c = 3 by omega, show ¬ c = 4 by omega]
  rw [if_neg c5]
  by_cases c17 : c = 17
  · rw [if_pos c17]
    refine ⟨?_, by show ¬ c = 4; omega⟩
    have ar : arN c = 3 := by unfold arN; rw [if_neg (by omega), if_neg (by omega), if_neg (by omega)]
    have h1 := hr _ e1
    have h2 := hr _ e2
    have h3 := hr _ e3
    have hk : inB 1 17 c = true := by simp [inB]; omega
    simp [opB, numB, argB, ar, h1, h2, h3, hk, show ¬ c = 1 by omega, show ¬ c = 2 by omega, show ¬ c = 3 by omega, show ¬ c = 4 by omega]
  · rw [if_neg c17]
    refine ⟨?_, by show ¬ c = 4; omega⟩
    have ar : arN c = 2 := by unfold arN; rw [if_neg (by omega), if_neg (by omega), if_pos (by omega)]
    have h1 := hr _ e1
    have h2 := hr _ e2
    have hk : inB 1 17 c = true := by simp [inB]; omega
    simp [opB, numB, argB, ar, h1, h2, hk, show ¬ c = 1 by omega, show ¬ c = 2 by omega, show ¬ c = 3 by omega, show ¬ c = 4 by omega]
/-- the operations of a recipe -/
def mkK (r : List Anon92) : Nat → List ApiOp
  | 0 => [⟨3, 0, 0, 0, 0⟩, ⟨3, 0, 0, 0, 1⟩]
  | i + 1 => mkK r i ++ [mk1 (mkK r i).length (r.getD i ⟨0, 0, 0, 0⟩)]
theorem mkK_len (r : List Anon92) : ∀ i, (mkK r i).length = i + 2
  | 0 => rfl
  | i + 1 => by rw [mkK, List.length_append, mkK_len r i]; rfl
theorem mkK_ok {r : List Anon92} (hr : ∀ z ∈ r, B92 z) : ∀ i, ∀ (j : Nat) (x : ApiOp), (mkK r i)[j]? = some x → opB 2 j x = true ∧ ¬ x.code = 4
  | 0, j, x, h => by
    rcases j with _ | _ | j
    · simp [mkK] at h; subst h; exact ⟨by decide, by decide⟩
    · simp [mkK] at h; subst h; exact ⟨by decide, by decide⟩
    · simp [mkK] at h
  | i + 1, j, x, h => by
    rw [mkK] at h
    have hl := mkK_len r i
    by_cases hj : j < (mkK r i).length
    · rw [List.getElem?_append_left hj] at h
      exact mkK_ok hr i j x h
    · have e : j = (mkK r i).length := by
        have := (List.getElem?_eq_some_iff.1 h).1
        simp at this; omega
      subst e
      rw [List.getElem?_append_right (Nat.le_refl _)] at h
      simp at h
      subst h
      refine mk1_ok (by omega) ?_
      cases hg : r[i]? with
      | none => exact ⟨by decide, by decide, by decide, by decide⟩
      | some z => exact hr z (List.mem_of_getElem? hg)
/-- the made core -/
def mdC (r : List Anon92) : ApiCore := ⟨[⟨(⟨#[97]⟩ : ByteArray), -2, 3⟩, ⟨(⟨#[98]⟩ : ByteArray), 0, 5⟩], mkK r (min r.length 40), [((mkK r (min r.length 40)).length : Int) - 1, ((mkK r (min r.length 40)).length : Int) / 2]⟩
theorem q22_1 (ops : List ApiOp) (h : ops.length ≤ 100) : m22_1 ops = some ⟨[⟨(⟨#[97]⟩ : ByteArray), -2, 3⟩, ⟨(⟨#[98]⟩ : ByteArray), 0, 5⟩], ops, [(ops.length : Int) - 1, (ops.length : Int) / 2]⟩ := by
  unfold m22_1 dvd
  rw [if_neg (by omega), Int.tdiv_eq_ediv_of_nonneg (by omega)]
  simp only [Option.bind_some]
  rw [wi_eq (by omega) (by omega), wi_eq (by omega) (by omega)]
theorem q22 {r : List Anon92} (hr : ∀ z ∈ r, B92 z) : m22 r = some (mdC r) := by
  unfold m22 m22_2
  refine lp_end (fun i : Nat => ((i : Int), mkK r i)) (min r.length 40) (fun i hi => ?_) ?_
  · have hl := mkK_len r i
    have hi1 : i < r.length := by omega
    have hz := hr _ (List.getElem_mem hi1)
    have hg : r.getD i ⟨0, 0, 0, 0⟩ = r[i] := by simp [List.getD, List.getElem?_eq_getElem hi1]
    rw [mkK, hg]
    generalize r[i] = z at *
    show (if (decide ((i : Int) < r.length) && decide ((i : Int) < 40)) = true then _ else _) = _
    rw [if_pos (by simp; omega)]
    rw [show ix r (i : Int) = some z by rw [ix_lt hi1]; simp_all]
    simp only [Option.bind_some]
    obtain ⟨m1, m2⟩ := mn_bd (l := (mkK r i).length) (by omega)
    obtain ⟨b0, b1, b2, b3⟩ := hz
    have k := em_bd (a := z.a0) (b := 17) (by omega)
    have e1 := em_bd (a := z.a1) m1
    have e2 := em_bd (a := z.a2) m1
    have e3 := em_bd (a := z.a3) m1
    have f4 := em_bd (a := z.a1) (b := 4) (by omega)
    have f2 := em_bd (a := z.a1) (b := 2) (by omega)
    have wl : wi (((mkK r i).length : Int) - 1) = ((mkK r i).length : Int) - 1 := wi_eq (by omega) (by omega)
    have w1 : wi ((i : Int) + 1) = ((i + 1 : Nat) : Int) := by rw [wi_eq (by omega) (by omega)]; simp
    have ha : ∀ x : ApiOp, ap (mkK r i) [x] = some (mkK r i ++ [x]) := fun x => ap_ok (by simp; omega)
    have wd : ∀ a : Int, 0 ≤ a ∧ a < mn ((mkK r i).length : Int) 8 → wi (((mkK r i).length : Int) - 1 - a) = ((mkK r i).length : Int) - 1 - a := fun a h => wi_eq (by omega) (by omega)
    rw [wi_eq (n := z.a1) (by omega) (by omega), wi_eq (n := z.a2) (by omega) (by omega), wi_eq (n := z.a3) (by omega) (by omega), md_pos b1.1 m1, md_pos b2.1 m1, md_pos b3.1 m1, md_pos b0.1 (by omega)]
    simp only [Option.bind_some]
    rw [md_pos b1.1 (by omega), md_pos b1.1 (by omega), wl, wd _ e1, wd _ e2, wd _ e3, w8_eq (n := 1 + z.a0 % 17) (by omega) (by omega), w1, wi_eq (n := z.a1 - 100) (by omega) (by omega)]
    simp only [Option.bind_some]
    rw [wi_eq (n := 1 + z.a1 % 4) (by omega) (by omega)]
    simp only [ha, Option.bind_some]
    unfold mk1
    generalize 1 + z.a0 % 17 = c at *
    by_cases c1 : c = 1
    · rw [if_pos (by simpa using c1), if_pos c1, c1]
    rw [if_neg (by simpa using c1), if_neg c1]
    by_cases c2 : c = 2
    · rw [if_pos (by simpa using c2), if_pos c2, c2]
    rw [if_neg (by simpa using c2), if_neg c2]
    by_cases c3 : c = 3 ∨ c = 4
    · rw [if_pos (by simpa using c3), if_pos c3]
    rw [if_neg (by simpa using c3), if_neg c3]
    by_cases c5 : c = 5 ∨ c = 6
    · rw [if_pos (by simpa using c5), if_pos c5]
    rw [if_neg (by simpa using c5), if_neg c5]
    by_cases c17 : c = 17
    · rw [if_pos (by simpa using c17), if_pos c17]
    rw [if_neg (by simpa using c17), if_neg c17]
  · have hl := mkK_len r (min r.length 40)
    show (if (decide (((min r.length 40 : Nat) : Int) < r.length) && decide (((min r.length 40 : Nat) : Int) < 40)) = true then _ else _) = _
    rw [if_neg (by simp; omega), q22_1 _ (by omega)]
    rfl
/-- the cells of a part of the operations are the first of all cells -/
theorem celK_take (w : List Int) (ops : List ApiOp) (n : Nat) : ∀ k, k ≤ n → celK w (ops.take n) k = celK w ops k
  | 0, _ => rfl
  | k + 1, h => by
    rw [celK, celK, celK_take w ops n k (by omega)]
    simp [List.getD, List.getElem?_take, show k < n by omega]
theorem celK_pre (w : List Int) (ops : List ApiOp) : ∀ n k, k ≤ n → (celK w ops n).take k = celK w ops k
  | 0, k, h => by rw [show k = 0 by omega]; rfl
  | n + 1, k, h => by
    have hl := celK_len w ops n
    by_cases e : k = n + 1
    · subst e; rw [List.take_of_length_le (Nat.le_of_eq (celK_len _ _ _))]
    · rw [celK, List.take_append_of_le_length (by omega), celK_pre w ops n k (by omega)]
theorem celK_at (w : List Int) (ops : List ApiOp) {n k : Nat} (h : k < n) : (celK w ops n)[k]? = some (cel w (celK w ops k) (ops.getD k ⟨0, 0, 0, 0, 0⟩)) := by
  have e := celK_pre w ops n (k + 1) (by omega)
  have hl := celK_len w ops k
  have : ((celK w ops n).take (k + 1))[k]? = (celK w ops n)[k]? := by rw [List.getElem?_take]; simp
  rw [← this, e, celK, List.getElem?_append_right (by omega), hl]; simp
/-- the operation lies behind the second choice -/
def dp1 (l : List Bool) (x : ApiOp) : Bool := if 5 ≤ x.code then (l.getD x.a.toNat true || (decide (7 ≤ x.code) && l.getD x.b.toNat true) || (decide (x.code = 17) && l.getD x.c.toNat true)) else decide (x.code = 3) && decide (x.n = 1)
def dpK (ops : List ApiOp) : Nat → List Bool
  | 0 => []
  | k + 1 => dpK ops k ++ [dp1 (dpK ops k) (ops.getD k ⟨0, 0, 0, 0, 0⟩)]
theorem dpK_len (ops : List ApiOp) : ∀ k, (dpK ops k).length = k
  | 0 => rfl
  | k + 1 => by rw [dpK, List.length_append, dpK_len ops k]; rfl
theorem cel_same {i : Nat} {x : ApiOp} {w w' : List Int} {l l' : List ApiValue} {d : List Bool} (hx : opB 2 i x = true) (h4 : ¬ x.code = 4) (h0 : w.getD 0 0 = w'.getD 0 0) (hd : dp1 d x = false) (hs : ∀ j : Nat, j < i → d.getD j true = false → l.getD j ⟨0, 0⟩ = l'.getD j ⟨0, 0⟩) : cel w l x = cel w' l' x := by
  obtain ⟨hc, hn, ha, hb, hcc⟩ := opB_spec hx
  have hat : ∀ j : Int, 0 ≤ j ∧ j < i → d.getD j.toNat true = false → at_ l j = at_ l' j := fun j h e => hs _ (by omega) e
  unfold dp1 at hd
  unfold cel
  by_cases c1 : x.code = 1
  · rw [if_pos c1, if_pos c1]
  rw [if_neg c1, if_neg c1]
  by_cases c2 : x.code = 2
  · rw [if_pos c2, if_pos c2]
  rw [if_neg c2, if_neg c2]
  by_cases c3 : x.code = 3
  · rw [if_pos c3, if_pos c3]
    rw [if_neg (by omega)] at hd
    have hn1 : ¬ x.n = 1 := by simpa [c3] using hd
    have : 0 ≤ x.n ∧ x.n ≤ 1 := by
      have h3 : inB 0 (((2 : Nat) : Int) - 1) x.n = true := by simpa [numB, c1, c2, c3] using hn
      simp [inB] at h3; omega
    rw [show x.n = 0 by omega]
    exact congrArg _ h0
  rw [if_neg c3, if_neg c3]
  rw [if_pos (by omega)] at hd
  simp only [Bool.or_eq_false_iff] at hd
  obtain ⟨⟨d1, d2⟩, d3⟩ := hd
  have ea := hat _ (ha (by omega)) d1
  by_cases c5 : x.code = 5 ∨ x.code = 6
  · rw [if_pos c5, if_pos c5, ea]
  rw [if_neg c5, if_neg c5]
  have eb := hat _ (hb (by omega)) (by simpa [show 7 ≤ x.code by omega] using d2)
  by_cases c17 : x.code = 17
  · rw [if_pos c17, if_pos c17, ea, eb, hat _ (hcc c17) (by simpa [c17] using d3)]
  · rw [if_neg c17, if_neg c17, ea, eb]
theorem dp_same {ops : List ApiOp} {w w' : List Int} (ho : ∀ i x, ops[i]? = some x → opB 2 i x = true ∧ ¬ x.code = 4) (h0 : w.getD 0 0 = w'.getD 0 0) : ∀ k, k ≤ ops.length → ∀ j : Nat, j < k → (dpK ops k).getD j true = false → (celK w ops k).getD j ⟨0, 0⟩ = (celK w' ops k).getD j ⟨0, 0⟩
  | 0, _, j, hj, _ => by omega
  | k + 1, hk, j, hj, hd => by
    have ih := dp_same ho h0 k (by omega)
    have hl := dpK_len ops k
    have h1 := celK_len w ops k
    have h2 := celK_len w' ops k
    rw [dpK] at hd
    rw [celK, celK]
    by_cases e : j < k
    · simp only [List.getD] at hd ⊢
      rw [List.getElem?_append_left (by omega)] at hd ⊢
      rw [List.getElem?_append_left (by omega)]
      exact ih j e hd
    · have ej : j = k := by omega
      subst ej
      simp only [List.getD] at hd ⊢
      rw [List.getElem?_append_right (by omega), hl] at hd
      rw [List.getElem?_append_right (by omega), List.getElem?_append_right (by omega), h1, h2]
      simp only [Nat.sub_self, List.getElem?_cons_zero, Option.getD_some] at hd ⊢
      have hg : ops[j]? = some ops[j] := List.getElem?_eq_getElem (by omega)
      obtain ⟨g1, g2⟩ := ho _ _ hg
      rw [show (ops[j]?).getD ⟨0, 0, 0, 0, 0⟩ = ops[j] by rw [hg]; rfl] at hd ⊢
      exact cel_same g1 g2 h0 hd ih
theorem gd_ix {l : List Bool} {j : Int} (h0 : 0 ≤ j) (h : j < l.length) : ix l j = some (l.getD j.toNat true) := by
  have hlt : j.toNat < l.length := by omega
  rw [ix_in h0 hlt]; simp [List.getD, List.getElem?_eq_getElem hlt]
section
variable {c : ApiCore} {w w' : List Int} (ho : ∀ i x, c.ops[i]? = some x → opB 2 i x = true ∧ ¬ x.code = 4) (h0 : w.getD 0 0 = w'.getD 0 0) (hlen : c.ops.length ≤ 1000)
include ho h0 hlen
theorem q5_1 : m5_1 c (celK w c.ops c.ops.length, 0) (celK w' c.ops c.ops.length, 0) ([], 0) = some true := by
  unfold m5_1
  refine lp_end (fun i : Nat => (dpK c.ops i, (i : Int))) c.ops.length (fun i hi => ?_) ?_
  · have hg : c.ops[i]? = some c.ops[i] := List.getElem?_eq_getElem hi
    obtain ⟨g1, g2⟩ := ho _ _ hg
    obtain ⟨hc, hn, ha, hb, hcc⟩ := opB_spec g1
    have hl := dpK_len c.ops i
    have hgd : c.ops.getD i ⟨0, 0, 0, 0, 0⟩ = c.ops[i] := by simp [List.getD, hg]
    have ca := celK_at w c.ops hi
    have cb := celK_at w' c.ops hi
    rw [hgd] at ca cb
    have w1 : wi ((i : Int) + 1) = ((i + 1 : Nat) : Int) := by rw [wi_eq (by omega) (by omega)]; simp
    have hst : dpK c.ops (i + 1) = dpK c.ops i ++ [dp1 (dpK c.ops i) c.ops[i]] := by rw [dpK, hgd]
    show (if decide ((i : Int) < c.ops.length) = true then _ else _) = _
    rw [if_pos (by simpa using hi), ix_lt hi]
    refine Eq.trans (Option.bind_some ..) ?_
    have same := fun hd => cel_same (l := celK w c.ops i) (l' := celK w' c.ops i) (d := dpK c.ops i) g1 g2 h0 hd (dp_same ho h0 i (by omega))
    generalize c.ops[i] = x at *
    have fin : ∀ cc, m5_4 (dpK c.ops i) (celK w c.ops c.ops.length, 0) i (celK w' c.ops c.ops.length, 0) (dp1 (dpK c.ops i) x, cc) = some (.inl (dpK c.ops (i + 1), ((i + 1 : Nat) : Int))) := fun cc => by
      unfold m5_4
      simp only
      rw [ap_ok (by simp [hl]; omega), hst]
      simp only [Option.bind_some]
      cases hd : dp1 (dpK c.ops i) x with
      | true => rw [if_neg (by simp), w1]
      | false =>
        rw [if_pos (by simp), ix_at ca, ix_at cb, same hd]
        simp only [Option.bind_some]
        rw [if_neg (by simp), w1]
    have g3 : ∀ b, (b || (decide (x.code = 17) && (dpK c.ops i).getD x.c.toNat true)) = dp1 (dpK c.ops i) x → m5_3 (dpK c.ops i) x (celK w c.ops c.ops.length, 0) i (celK w' c.ops c.ops.length, 0) (b, x.code) = some (.inl (dpK c.ops (i + 1), ((i + 1 : Nat) : Int))) := fun b e => by
      unfold m5_3
      simp only
      by_cases c17 : x.code = 17
      · rw [if_pos (by simpa using c17)]
        cases b with
        | true => rw [if_pos rfl, show true = dp1 (dpK c.ops i) x by rw [← e]; rfl]; exact fin _
        | false =>
          have i3 := gd_ix (l := dpK c.ops i) (hcc c17).1 (by rw [hl]; exact (hcc c17).2)
          rw [if_neg (by simp), i3]
          simp only [Option.bind_some]
          rw [show (dpK c.ops i).getD x.c.toNat true = dp1 (dpK c.ops i) x by rw [← e]; simp [c17]]; exact fin _
      · rw [if_neg (by simpa using c17), show b = dp1 (dpK c.ops i) x by rw [← e]; simp [c17]]; exact fin _
    have g2' : ∀ b, (b || (decide (7 ≤ x.code) && (dpK c.ops i).getD x.b.toNat true) || (decide (x.code = 17) && (dpK c.ops i).getD x.c.toNat true)) = dp1 (dpK c.ops i) x → m5_2 x (dpK c.ops i) (celK w c.ops c.ops.length, 0) i (celK w' c.ops c.ops.length, 0) b = some (.inl (dpK c.ops (i + 1), ((i + 1 : Nat) : Int))) := fun b e => by
      unfold m5_2
      by_cases c7 : 7 ≤ x.code
      · rw [if_pos (by simpa using c7)]
        cases b with
        | true => rw [if_pos rfl]; exact g3 _ (by rw [← e]; simp)
        | false =>
          have i2 := gd_ix (l := dpK c.ops i) (hb c7).1 (by rw [hl]; exact (hb c7).2)
          rw [if_neg (by simp), i2]
          simp only [Option.bind_some]
          exact g3 _ (by rw [← e]; simp [c7])
      · rw [if_neg (by simpa using c7)]; exact g3 _ (by rw [← e]; simp [c7])
    by_cases c5 : 5 ≤ x.code
    · have i1 := gd_ix (l := dpK c.ops i) (ha c5).1 (by rw [hl]; exact (ha c5).2)
      rw [if_pos (by simpa using c5), i1]
      simp only [Option.bind_some]
      exact g2' _ (by unfold dp1; rw [if_pos c5])
    · rw [if_neg (by simpa using c5)]
      exact g2' _ (by unfold dp1; rw [if_neg c5]; simp [show ¬ 7 ≤ x.code by omega, show ¬ x.code = 17 by omega])
  · show (if decide (((c.ops.length : Nat) : Int) < c.ops.length) = true then _ else _) = _
    rw [if_neg (by simp)]; rfl
end
def chs : List ApiChoice := [⟨(⟨#[97]⟩ : ByteArray), -2, 3⟩, ⟨(⟨#[98]⟩ : ByteArray), 0, 5⟩]
theorem opn0 {ops : List ApiOp} {roots : List Int} {a b : Int} (ho : ∀ i x, ops[i]? = some x → opB 2 i x = true ∧ ¬ x.code = 4) (hl : ops.length ≤ 100) (hr : ∀ r ∈ roots, 0 ≤ r ∧ r < ops.length) (hrl : roots.length ≤ 2) (ha : -2 ≤ a ∧ a ≤ 3) (hb : 0 ≤ b ∧ b ≤ 5) : opnE ⟨chs, ops, roots⟩ [a, b] = 0 := by
  have h1 : chk ⟨chs, ops, roots⟩ = 0 := by
    unfold chk
    have c1 : chs.all chB = true := by decide
    have c2 : opsB chs.length ops = true := List.all_eq_true.2 fun i hi => by
      have hlt := List.mem_range.1 hi
      have hg : ops[i]? = some ops[i] := List.getElem?_eq_getElem hlt
      rw [atB_get hg]; exact (ho _ _ hg).1
    have c3 : roots.all (inB 0 ((ops.length : Int) - 1)) = true := List.all_eq_true.2 fun r h => by
      have := hr r h
      simp [inB]; omega
    rw [if_neg (by simp [chs]; omega), if_neg (by rw [c1]; decide), if_neg (by rw [c2, c3]; decide)]
  have h2 : parB ops = false := List.any_eq_false.2 fun x hx => by
    obtain ⟨j, hj⟩ := List.getElem?_of_mem hx
    simpa using (ho _ _ hj).2
  have h3 : wldB ⟨chs, ops, roots⟩ [a, b] = true := by
    simp [wldB, wAt, chs, List.range_succ, inB]; omega
  unfold opnE
  rw [h1, h2, h3]; rfl
end Go.Proofs.YtpcgfeckokgbfaaGreatDoor
