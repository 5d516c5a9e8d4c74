/- The functions of chapter 11, in plain words: the cells of a core in a world, on both sides; the law CoreEvals answers true. -/
import Derived.Test.YtpcgfeckokgbfaaGreatDoorV4
set_option linter.all false
namespace Go.Proofs.YtpcgfeckokgbfaaGreatDoor
open Go Go.Dp
def at_ (l : List ApiValue) (i : Int) : ApiValue := l.getD i.toNat ⟨0, 0⟩
/-- the cell of an operation -/
def cel (w : List Int) (l : List ApiValue) (x : ApiOp) : ApiValue :=
  if x.code = 1 then ⟨0, x.n⟩ else if x.code = 2 then ⟨x.n, 0⟩ else if x.code = 3 then ⟨0, w.getD x.n.toNat 0⟩ else if x.code = 5 ∨ x.code = 6 then o1 x.code (at_ l x.a) else if x.code = 17 then o3 (at_ l x.a) (at_ l x.b) (at_ l x.c) else o2 x.code (at_ l x.a) (at_ l x.b)
def cels (w : List Int) : List ApiOp → List ApiValue → List ApiValue
  | [], l => l
  | x :: xs, l => cels w xs (l ++ [cel w l x])
/-- numbers of a world are small -/
def wOk (nc : Nat) (w : List Int) : Prop := w.length = nc ∧ ∀ n ∈ w, -9999 ≤ n ∧ n ≤ 9999
theorem opB_spec {nc i : Nat} {x : ApiOp} (h : opB nc i x = true) : (1 ≤ x.code ∧ x.code ≤ 17) ∧ numB nc x = true ∧ (5 ≤ x.code → 0 ≤ x.a ∧ x.a < i) ∧ (7 ≤ x.code → 0 ≤ x.b ∧ x.b < i) ∧ (x.code = 17 → 0 ≤ x.c ∧ x.c < i) := by
  simp only [opB, Bool.and_eq_true] at h
  obtain ⟨h1, h2, h3, h4, h5⟩ := h
  have hc : 1 ≤ x.code ∧ x.code ≤ 17 := by simpa [inB] using h1
  refine ⟨hc, h2, fun h => ?_, fun h => ?_, fun h => ?_⟩
  · have : 0 < arN x.code := by unfold arN; split <;> (try split) <;> (try split) <;> omega
    unfold argB at h3; rw [if_pos this] at h3; simp [inB] at h3; omega
  · have : 1 < arN x.code := by unfold arN; split <;> (try split) <;> (try split) <;> omega
    unfold argB at h4; rw [if_pos this] at h4; simp [inB] at h4; omega
  · have : 2 < arN x.code := by unfold arN; split <;> (try split) <;> (try split) <;> omega
    unfold argB at h5; rw [if_pos this] at h5; simp [inB] at h5; omega
section
variable {nc i : Nat} {x : ApiOp} {w : List Int} {l : List ApiValue} (hx : opB nc i x = true) (h4 : ¬ x.code = 4) (hw : wOk nc w) (hl : l.length = i) (hv : ∀ v ∈ l, clB v = true)
include hx h4 hw hl hv
theorem at_ix {j : Int} (h : 0 ≤ j ∧ j < i) : ix l j = some (at_ l j) ∧ clB (at_ l j) = true := by
  have hlt : j.toNat < l.length := by omega
  have e : at_ l j = l[j.toNat] := by unfold at_; simp [List.getD, List.getElem?_eq_getElem hlt]
  rw [e]
  exact ⟨ix_in h.1 hlt, hv _ (List.getElem_mem hlt)⟩
theorem cel_cl : clB (cel w l x) = true := by
  obtain ⟨hc, hn, ha, hb, hcc⟩ := opB_spec hx
  unfold cel
  by_cases c1 : x.code = 1
  · rw [if_pos c1]
    have : inB (-9999) 9999 x.n = true := by simpa [numB, c1] using hn
    simp [clB, this]
  rw [if_neg c1]
  by_cases c2 : x.code = 2
  · rw [if_pos c2]
    have : inB 1 4 x.n = true := by simpa [numB, c1, c2] using hn
    simp [clB, this]
  rw [if_neg c2]
  by_cases c3 : x.code = 3
  · rw [if_pos c3]
    have h3 : inB 0 ((nc : Int) - 1) x.n = true := by simpa [numB, c1, c2, c3] using hn
    have : 0 ≤ x.n ∧ x.n ≤ (nc : Int) - 1 := by simpa [inB] using h3
    have hlt : x.n.toNat < w.length := by rw [hw.1]; omega
    have hm := hw.2 _ (List.getElem_mem hlt)
    simp [clB, inB, List.getD, List.getElem?_eq_getElem hlt, hm]
  rw [if_neg c3]
  by_cases c5 : x.code = 5 ∨ x.code = 6
  · rw [if_pos c5]; exact o1_cl (at_ix hx h4 hw hl hv (ha (by omega))).2
  rw [if_neg c5]
  by_cases c17 : x.code = 17
  · rw [if_pos c17]; exact o3_cl (at_ix hx h4 hw hl hv (ha (by omega))).2 (at_ix hx h4 hw hl hv (hb (by omega))).2 (at_ix hx h4 hw hl hv (hcc c17)).2
  · rw [if_neg c17]; exact o2_cl (at_ix hx h4 hw hl hv (ha (by omega))).2 (at_ix hx h4 hw hl hv (hb (by omega))).2
theorem q38 : m38 x w l = some (cel w l x) := by
  obtain ⟨hc, hn, ha, hb, hcc⟩ := opB_spec hx
  unfold m38 cel
  by_cases c1 : x.code = 1
  · have : inB (-9999) 9999 x.n = true := by simpa [numB, c1] using hn
    simp [c1, q66, this]
  by_cases c2 : x.code = 2
  · have h3 : inB 1 4 x.n = true := by simpa [numB, c1, c2] using hn
    have : 1 ≤ x.n ∧ x.n ≤ 4 := by simpa [inB] using h3
    simp [c2, w8_eq (n := x.n) (by omega) (by omega)]
  by_cases c3 : x.code = 3
  · have h3 : inB 0 ((nc : Int) - 1) x.n = true := by simpa [numB, c1, c2, c3] using hn
    have : 0 ≤ x.n ∧ x.n ≤ (nc : Int) - 1 := by simpa [inB] using h3
    have hlt : x.n.toNat < w.length := by rw [hw.1]; omega
    have hm := hw.2 _ (List.getElem_mem hlt)
    have hi : inB (-9999) 9999 w[x.n.toNat] = true := by simp [inB, hm]
    simp [c3, ix_in this.1 hlt, q66, hi, List.getD, List.getElem?_eq_getElem hlt]
  simp only [c1, c2, c3, decide_false, Bool.false_eq_true, if_false]
  by_cases c5 : x.code = 5 ∨ x.code = 6
  · obtain ⟨i1, i2⟩ := at_ix hx h4 hw hl hv (ha (by omega))
    rw [if_pos (by simpa using c5), if_pos c5, i1]
    simp only [Option.bind_some, q67 c5 i2]
  rw [if_neg (by simpa using c5), if_neg c5]
  by_cases c17 : x.code = 17
  · obtain ⟨i1, i2⟩ := at_ix hx h4 hw hl hv (ha (by omega))
    obtain ⟨j1, j2⟩ := at_ix hx h4 hw hl hv (hb (by omega))
    obtain ⟨k1, k2⟩ := at_ix hx h4 hw hl hv (hcc c17)
    rw [if_pos (by simpa using c17), if_pos c17, i1]
    simp only [Option.bind_some, j1, k1, q68 i2 j2 k2]
  · obtain ⟨i1, i2⟩ := at_ix hx h4 hw hl hv (ha (by omega))
    obtain ⟨j1, j2⟩ := at_ix hx h4 hw hl hv (hb (by omega))
    rw [if_neg (by simpa using c17), if_neg c17, i1]
    simp only [Option.bind_some, j1, q69 (show 7 ≤ x.code ∧ x.code ≤ 16 by omega) i2 j2]
end
/-- the cells of the first operations -/
def celK (w : List Int) (ops : List ApiOp) : Nat → List ApiValue
  | 0 => []
  | k + 1 => celK w ops k ++ [cel w (celK w ops k) (ops.getD k ⟨0, 0, 0, 0, 0⟩)]
theorem celK_len (w : List Int) (ops : List ApiOp) : ∀ k, (celK w ops k).length = k
  | 0 => rfl
  | k + 1 => by rw [celK, List.length_append, celK_len w ops k]; rfl
/-- a core whose operations are valid, without parameters, in a world -/
structure Open_ (c : ApiCore) (w : List Int) : Prop where
  ops : ∀ i x, c.ops[i]? = some x → opB c.choices.length i x = true ∧ ¬ x.code = 4
  wld : wOk c.choices.length w
  roots : ∀ r ∈ c.roots, 0 ≤ r ∧ r < c.ops.length
section
variable {c : ApiCore} {w : List Int} (ho : Open_ c w)
include ho
theorem celK_cl : ∀ k, k ≤ c.ops.length → ∀ v ∈ celK w c.ops k, clB v = true
  | 0, _, v, h => by cases h
  | k + 1, hk, v, h => by
    rw [celK, List.mem_append] at h
    rcases h with h | h
    · exact celK_cl k (by omega) v h
    · simp only [List.mem_singleton] at h
      subst h
      have hg : c.ops[k]? = some c.ops[k] := List.getElem?_eq_getElem (by omega)
      obtain ⟨h1, h2⟩ := ho.ops _ _ hg
      rw [show c.ops.getD k ⟨0, 0, 0, 0, 0⟩ = c.ops[k] by simp [List.getD, hg]]
      exact cel_cl h1 h2 ho.wld (celK_len _ _ _) (celK_cl k (by omega))
theorem q10_1 (hs : Sm c) : m10_1 c w ([], 0) = some (celK w c.ops c.ops.length, 0) := by
  have hm := hs.ops
  unfold m10_1
  refine lp_end (fun i : Nat => (celK w c.ops i, (i : Int))) c.ops.length (fun i hi => ?_) (by simp)
  have hg : c.ops[i]? = some c.ops[i] := List.getElem?_eq_getElem hi
  obtain ⟨h1, h2⟩ := ho.ops _ _ hg
  have hl := celK_len w c.ops i
  show (if decide ((i : Int) < c.ops.length) = true then _ else _) = _
  rw [if_pos (by simpa using hi), ix_lt hi]
  simp only [Option.bind_some]
  rw [show (⟨c.ops[i].code, c.ops[i].a, c.ops[i].b, c.ops[i].c, c.ops[i].n⟩ : ApiOp) = c.ops[i] from rfl, q38 h1 h2 ho.wld hl (celK_cl ho i (by omega))]
  simp only [Option.bind_some]
  rw [ap_ok (by simp; omega), wi_eq (by omega) (by omega)]
  simp [celK, List.getD, hg]
def rootV (c : ApiCore) (w : List Int) : List ApiValue := c.roots.map (at_ (celK w c.ops c.ops.length))
theorem root_ix {r : Int} (h : r ∈ c.roots) : ix (celK w c.ops c.ops.length) r = some (at_ (celK w c.ops c.ops.length) r) := by
  obtain ⟨h0, h1⟩ := ho.roots r h
  have hlt : r.toNat < (celK w c.ops c.ops.length).length := by rw [celK_len]; omega
  rw [ix_in h0 hlt, at_]; simp [List.getD, List.getElem?_eq_getElem hlt]
theorem q11_1 (hs : Sm c) : m11_1 c (celK w c.ops c.ops.length, 0) ([], 0) = some (rootV c w, 0) := by
  have hm := hs.roots
  unfold m11_1
  refine lp_end (fun i : Nat => ((c.roots.take i).map (at_ (celK w c.ops c.ops.length)), (i : Int))) c.roots.length (fun i hi => ?_) (by simp [rootV])
  show (if decide ((i : Int) < c.roots.length) = true then _ else _) = _
  rw [if_pos (by simpa using hi), ix_lt hi]
  simp only [Option.bind_some]
  rw [root_ix ho (List.getElem_mem hi)]
  simp only [Option.bind_some]
  rw [ap_ok (by simp; omega), wi_eq (by omega) (by omega)]
  rw [show List.take (i + 1) c.roots = List.take i c.roots ++ [c.roots[i]] by rw [List.take_add_one, List.getElem?_eq_getElem hi]; rfl, List.map_append]; simp
end
theorem open_of {c : ApiCore} {w : List Int} (h : opnE c w = 0) : Open_ c w := by
  unfold opnE at h
  by_cases h1 : chk c = 0
  · rw [if_neg (by simp [h1])] at h
    cases h2 : parB c.ops with
    | true => rw [h2] at h; simp at h
    | false =>
      rw [h2, if_neg (by simp)] at h
      cases h3 : wldB c w with
      | false => rw [h3] at h; simp at h
      | true =>
        unfold chk at h1
        split at h1
        · cases h1
        split at h1
        · cases h1
        split at h1
        · cases h1
        rename_i k1 k2 k3
        have k2' : c.choices.all chB = true := by simpa using k2
        have k3' : opsB c.choices.length c.ops = true ∧ c.roots.all (inB 0 ((c.ops.length : Int) - 1)) = true := by
          constructor
          · cases e : opsB c.choices.length c.ops with
            | true => rfl
            | false => exact absurd (.inl e) k3
          · cases e : c.roots.all (inB 0 ((c.ops.length : Int) - 1)) with
            | true => rfl
            | false => exact absurd (.inr e) k3
        simp only [wldB, Bool.and_eq_true, decide_eq_true_eq] at h3
        obtain ⟨l1, l2⟩ := h3
        refine ⟨fun i x hx => ⟨?_, ?_⟩, ⟨l1.symm, fun n hn => ?_⟩, fun r hr => ?_⟩
        · have := List.all_eq_true.1 k3'.1 i (List.mem_range.2 (List.getElem?_eq_some_iff.1 hx).1)
          rwa [atB_get hx] at this
        · intro e
          have := List.any_eq_false.1 h2 x (List.mem_of_getElem? hx)
          simp [e] at this
        · obtain ⟨j, hj⟩ := List.getElem?_of_mem hn
          have hjl := (List.getElem?_eq_some_iff.1 hj).1
          have a1 := List.all_eq_true.1 l2 j (List.mem_range.2 (by omega))
          rw [wAt_lt (by omega) hjl] at a1
          have a2 := List.all_eq_true.1 k2' _ (List.getElem_mem (show j < c.choices.length by omega))
          rw [List.getElem?_eq_getElem hjl] at hj
          cases hj
          simp [chB, inB] at a1 a2; omega
        · have := List.all_eq_true.1 k3'.2 r hr
          simp [inB] at this; omega
  · rw [if_pos (by simpa using h1)] at h; exact absurd h h1
theorem q10 {c : ApiCore} {w : List Int} (hs : Sm c) : m10 c w = some (if opnE c w = 0 then (celK w c.ops c.ops.length, 0) else ([], opnE c w)) := by
  have hm := hs.ops
  by_cases ho : opnE c w = 0
  · rw [if_pos ho]
    have ho' := ho
    unfold opnE at ho'
    unfold m10
    rw [q9 hs]
    simp only [Option.bind_some]
    split at ho'
    · exact absurd ho' (by assumption)
    rename_i h1
    split at ho'
    · cases ho'
    rename_i h2
    split at ho'
    · cases ho'
    rename_i h3
    rw [if_neg (by simpa using h1), q35 hm]
    simp only [Option.bind_some]
    rw [if_neg h2, q37 hs]
    simp only [Option.bind_some]
    rw [if_neg (by simpa using h3)]
    exact q10_1 (open_of ho) hs
  · rw [if_neg ho]
    unfold m10
    rw [q9 hs]
    simp only [Option.bind_some]
    unfold opnE at ho ⊢
    by_cases h1 : chk c = 0
    · rw [if_neg (by simp [h1]), if_neg (by simp [h1]), q35 hm]
      simp only [Option.bind_some]
      cases h2 : parB c.ops with
      | true => simp
      | false =>
        rw [if_neg (by simp), if_neg (by simp), q37 hs]
        simp only [Option.bind_some]
        cases h3 : wldB c w with
        | false => simp
        | true => rw [if_neg (by simp [h1]), h2, h3] at ho; simp at ho
    · rw [if_pos (by simpa using h1), if_pos (by simpa using h1)]
theorem q11 {c : ApiCore} {w : List Int} (hs : Sm c) : m11 c w = some (if opnE c w = 0 then (rootV c w, 0) else ([], opnE c w)) := by
  unfold m11
  rw [q10 hs]
  simp only [Option.bind_some]
  by_cases ho : opnE c w = 0
  · rw [if_pos ho, if_pos ho, if_neg (by simp)]
    exact q11_1 (open_of ho) hs
  · rw [if_neg ho, if_neg ho, if_pos (by simpa using ho)]
end Go.Proofs.YtpcgfeckokgbfaaGreatDoor
