/- The functions of chapter 7, in plain words: operations on cells. -/
import Derived.Test.YtpcgfeckokgbfaaGreatDoorV2
set_option linter.all false
namespace Go.Proofs.YtpcgfeckokgbfaaGreatDoor
open Go Go.Dp
def clB (v : ApiValue) : Bool := (decide (v.fault = 0) && inB (-9999) 9999 v.n) || (inB 1 4 v.fault && decide (v.n = 0))
theorem clB_cases {v : ApiValue} (h : clB v = true) : (v.fault = 0 ∧ -9999 ≤ v.n ∧ v.n ≤ 9999) ∨ (1 ≤ v.fault ∧ v.fault ≤ 4 ∧ v.n = 0) := by
  simp only [clB, inB, Bool.or_eq_true, Bool.and_eq_true, decide_eq_true_eq] at h
  omega
theorem q66 (n : Int) : m66 n = some (if inB (-9999) 9999 n = true then ⟨0, n⟩ else ⟨2, 0⟩) := by
  unfold m66
  rw [q94 (by simp)]
  simp only [Option.bind_some, List.all_cons, List.all_nil, Bool.and_true, m95]
  cases inB (-9999) 9999 n <;> rfl
theorem q97 {v : ApiValue} (h : clB v = true) : m97 v = some true := by
  unfold m97
  rcases clB_cases h with ⟨h1, h2, h3⟩ | ⟨h1, h2, h3⟩
  · rw [if_pos (by simpa using h1), q94 (by simp)]
    simp [inB, h2, h3]
  · rw [if_neg (by simp; omega)]; simp [h2, h3]
theorem q99 {l : List ApiValue} (hl : l.length < 100) (h : ∀ v ∈ l, clB v = true) : m99 l = some true := by
  unfold m99 m141i1 m139i2 m139i2_1
  obtain ⟨r, h1, h2⟩ := find_any (xs := l) (f := m142i1) (p := fun _ => false) (by omega) (fun x hx => by unfold m142i1; rw [q97 (h x hx)]; rfl)
  rw [h1]
  rcases h2 with ⟨h3, _⟩ | ⟨_, rfl⟩
  · simp at h3
  · rfl
/-- the first fault -/
theorem q98 {l : List ApiValue} (hl : l.length < 100) : m98 l = some (match l.find? (fun v => !decide (v.fault = 0)) with | some v => (v, true) | none => (⟨0, 0⟩, false)) := by
  unfold m98 m139i1 m139i1_1
  obtain ⟨r, h1, h2⟩ := find_any (xs := l) (f := m140i1) (p := fun v => !decide (v.fault = 0)) (by omega) (fun x hx => rfl)
  rw [h1]
  simp only [Option.bind_some]
  rcases h2 with ⟨h3, h4, h5, h6, h7⟩ | ⟨h3, rfl⟩
  · have hlt : r.toNat < l.length := by omega
    rw [if_neg (by simp; omega), ix_in h4 hlt]
    have e : l.find? (fun v => !decide (v.fault = 0)) = some l[r.toNat] := by
      rw [List.find?_eq_some_iff_getElem]
      refine ⟨h6 _ (List.getElem?_eq_getElem hlt), r.toNat, hlt, rfl, fun j hj => ?_⟩
      have := h7 j l[j] (by omega) (List.getElem?_eq_getElem (by omega))
      simpa using this
    rw [e]; rfl
  · have e : l.find? (fun v => !decide (v.fault = 0)) = none := by
      rw [List.find?_eq_none]
      intro x hx
      have := List.any_eq_false.1 h3 x hx
      simpa using this
    rw [e]; rfl
/-! quotients -/
def fl (a b : Int) : Int := if b < 0 then (-a) / (-b) else a / b
theorem fl_spec {a b : Int} (hb : b ≠ 0) : (0 < b → b * fl a b ≤ a ∧ a < b * fl a b + b) ∧ (b < 0 → a ≤ b * fl a b ∧ b * fl a b + b < a) := by
  unfold fl
  constructor
  · intro h
    rw [if_neg (by omega)]
    have h1 := Int.mul_ediv_add_emod a b
    have h2 := Int.emod_nonneg a hb
    have h3 := Int.emod_lt_of_pos a h
    omega
  · intro h
    rw [if_pos h]
    have h1 := Int.mul_ediv_add_emod (-a) (-b)
    have h2 := Int.emod_nonneg (-a) (show -b ≠ 0 by omega)
    have h3 := Int.emod_lt_of_pos (-a) (show 0 < -b by omega)
    rw [Int.neg_mul] at h1
    omega
theorem fl_uniq {a b q : Int} (hb : b ≠ 0) (h : (0 < b → b * q ≤ a ∧ a < b * q + b) ∧ (b < 0 → a ≤ b * q ∧ b * q + b < a)) : q = fl a b := by
  have hs := fl_spec (a := a) hb
  rcases Int.lt_or_gt_of_ne hb with hn | hp
  · obtain ⟨h1, h2⟩ := h.2 hn
    obtain ⟨h3, h4⟩ := hs.2 hn
    rcases Int.lt_trichotomy q (fl a b) with hlt | he | hgt
    · have : b * fl a b ≤ b * (q + 1) := Int.mul_le_mul_of_nonpos_left (by omega) (by omega)
      rw [Int.mul_add, Int.mul_one] at this; omega
    · exact he
    · have : b * q ≤ b * (fl a b + 1) := Int.mul_le_mul_of_nonpos_left (by omega) (by omega)
      rw [Int.mul_add, Int.mul_one] at this; omega
  · obtain ⟨h1, h2⟩ := h.1 hp
    obtain ⟨h3, h4⟩ := hs.1 hp
    rcases Int.lt_trichotomy q (fl a b) with hlt | he | hgt
    · have : b * (q + 1) ≤ b * fl a b := Int.mul_le_mul_of_nonneg_left (by omega) (by omega)
      rw [Int.mul_add, Int.mul_one] at this; omega
    · exact he
    · have : b * (fl a b + 1) ≤ b * q := Int.mul_le_mul_of_nonneg_left (by omega) (by omega)
      rw [Int.mul_add, Int.mul_one] at this; omega
theorem q190 {a b : Int} (hb : b ≠ 0) (hb1 : -9999 ≤ b) (hb2 : b ≤ 9999) (ha : -9999 ≤ a) (ha2 : a ≤ 9999) : m190 a b = some (fl a b, a - b * fl a b) := by
  have h1 := Int.mul_tdiv_add_tmod a b
  have hm : (0 ≤ a → 0 ≤ a.tmod b) ∧ (a ≤ 0 → a.tmod b ≤ 0) := ⟨fun h => Int.tmod_nonneg b h, fun h => by
    have := Int.tmod_nonneg b (show 0 ≤ -a by omega)
    rw [Int.neg_tmod] at this; omega⟩
  have hlt : (0 < b → -b < a.tmod b ∧ a.tmod b < b) ∧ (b < 0 → b < a.tmod b ∧ a.tmod b < -b) := by
    constructor
    · intro h
      exact ⟨by have := Int.tmod_lt_of_pos (-a) h; rw [Int.neg_tmod] at this; omega, Int.tmod_lt_of_pos a h⟩
    · intro h
      have e := Int.tmod_neg a b
      exact ⟨by have := Int.tmod_lt_of_pos (-a) (show 0 < -b by omega); rw [Int.neg_tmod] at this; omega, by have := Int.tmod_lt_of_pos a (show 0 < -b by omega); omega⟩
  have hqb : -10000 < a.tdiv b ∧ a.tdiv b < 10000 := by
    have : (a.tdiv b).natAbs ≤ a.natAbs := Int.natAbs_tdiv_le_natAbs a b
    omega
  unfold m190 dvd md
  rw [if_neg hb, if_neg hb]
  simp only [Option.bind_some]
  rw [wi_eq (n := a.tdiv b) (by omega) (by omega)]
  by_cases hc : (!decide (a.tmod b = 0) && !(decide (a.tmod b < 0) == decide (b < 0))) = true
  · rw [if_pos hc, wi_eq (by omega) (by omega), wi_eq (by omega) (by omega)]
    have hc' : a.tmod b ≠ 0 ∧ ((a.tmod b < 0) ↔ ¬ (b < 0)) := by
      simp only [Bool.and_eq_true, Bool.not_eq_true', decide_eq_false_iff_not] at hc
      refine ⟨hc.1, ?_⟩
      have := hc.2
      by_cases c1 : a.tmod b < 0 <;> by_cases c2 : b < 0 <;> simp [c1, c2] at this ⊢
    have e : a.tdiv b - 1 = fl a b := fl_uniq hb ⟨fun h => by rw [Int.mul_sub, Int.mul_one]; have := (hlt.1 h); omega, fun h => by rw [Int.mul_sub, Int.mul_one]; have := hlt.2 h; omega⟩
    rw [← e, Int.mul_sub, Int.mul_one]
    congr 2; omega
  · rw [if_neg hc]
    have hc' : a.tmod b = 0 ∨ ((a.tmod b < 0) ↔ (b < 0)) := by
      by_cases c0 : a.tmod b = 0
      · exact .inl c0
      · right
        by_cases c1 : a.tmod b < 0 <;> by_cases c2 : b < 0 <;> simp [c0, c1, c2] at hc ⊢
    have e : a.tdiv b = fl a b := fl_uniq hb ⟨fun h => by have := (hlt.1 h); omega, fun h => by have := hlt.2 h; omega⟩
    rw [← e]
    congr 2; omega
end Go.Proofs.YtpcgfeckokgbfaaGreatDoor
